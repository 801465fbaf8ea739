/- Rd2 (what is wanted of them). -/
import Derived.Test.YtgoeccemfgniiaaGreatURd1
import Derived.Test.YtgoeccemfgniiaaGreatURdm
namespace Go.Proofs.YtgoeccemfgniiaaGreat
open Go.RowKit
set_option linter.unusedVariables false
set_option linter.unusedSimpArgs false
set_option maxRecDepth 100000
set_option maxHeartbeats 1000000
theorem r_bad_D (s:ByteArray) (p:Int):SpecH Tryz.prog 213 [.ptr 0 0] [(0,⟨145,2,1, [.sc (.string s),.sc (.int .i64 (p))]⟩)] 1 (fun d os' nb'=>d = .sc (.bool (decide (p < 0)))∧os' = [(0,⟨145,2,1, [.sc (.string s),.sc (.int .i64 (p))]⟩)]∧nb' = 1):=by
  refine spH_ (rs:= [.tmp 2]) (nt:=8) Tryz.func213 rfl fun X hX=>?_
  refine nm_ ?_
  repeat' ((first|contradiction|(with_reducible exact tt_)|(refine bk_ (fun h h'=>?_) (fun h h'=>?_))|(refine and_ ?_ ?_)|(refine pln_ ?_)|(refine rh_ [] ?_)|fail)<;>(try refine nm_ ?_))
  all_goals (refine ⟨?_⟩)
  all_goals first|rfl
theorem r_must_D (s:ByteArray) (p:Int) (b:Bool):SpecH Tryz.prog 212 [.ptr 0 0,.sc (.bool b)] [(0,⟨145,2,1, [.sc (.string s),.sc (.int .i64 (p))]⟩)] 1 (fun d os' nb'=>d = .tup []∧os' = [(0,⟨145,2,1, [.sc (.string s),.sc (.int .i64 (cond b p (-1)))]⟩)]∧nb' = 1):=by
  refine spH_ (rs:= []) (nt:=9) Tryz.func212 rfl fun X hX=>?_
  refine nm_ ?_
  repeat' ((first|contradiction|(with_reducible exact tt_)|(refine bk_ (fun h h'=>?_) (fun h h'=>?_))|(refine and_ ?_ ?_)|(refine pln_ ?_)|(refine rh_ [] ?_)|fail)<;>(try refine nm_ ?_))
  all_goals (refine ⟨?_⟩)
  all_goals (cases b<;>first|rfl|contradiction)
theorem r_numk_D (s:ByteArray) (p:Int) (hs:s.size≤4611686018427387904) (k:Nat) (hp:okQ s (k+1) p):SpecH Tryz.prog 122 [.ptr 0 0] [(0,⟨145,2,1, [.sc (.string s),.sc (.int .i64 (p))]⟩)] 1 (fun d os' nb'=>∃ x q,Got (readV s p) x q∧(okQ s k q∧(0≤x∧x≤9223372036854775807))∧d = .sc (.int .i64 x)∧os' = [(0,⟨145,2,1, [.sc (.string s),.sc (.int .i64 (q))]⟩)]∧nb' = 1):=by
  have hr:=okQ_rng hp hs;have h1:=okQ_num hp (Got.self _);have h3:=readV_rng s p;have h4:=readV_max s p
  refine spH_ (rs:= [.tmp 2]) (nt:=20) Tryz.func122 rfl fun X hX=>?_
  refine nm_ ?_
  repeat' ((first|contradiction|(with_reducible exact tt_)|(refine bk_ (fun h h'=>?_) (fun h h'=>?_))|(refine and_ ?_ ?_)|(refine pln_ ?_)|(refine cl_ rfl _ _ (impl_ReadVar_D s p hs hr.2) rfl rfl ?_;rintro _ ⟨rfl,hv⟩)|(refine rh_ [] ?_)|(refine wtr_ (id:=2) [0] (.early 0 (.early 1 (.early 2 (.early 3 (.early 5 (.early 6 (.early 7 (.two 4 (.one 8 (.one 9 (.early 10 (.early 11 (.early 12 (.early 13 (.early 14 (.early 15 (.one 16 .done))))))))) 8 (.one 4 (.one 9 (.early 10 (.early 11 (.early 12 (.early 13 (.early 14 (.early 15 (.one 16 .done))))))))))))))))) ?_)|fail)<;>(try refine nm_ ?_))
  all_goals (refine ⟨?_⟩)
  all_goals first|contradiction|exact ⟨_,_,Got.self _,⟨h1,(by omega)⟩,rfl,rfl⟩|exact ⟨_,_,Got.self _,⟨h1,(by omega)⟩,rfl,rfl,rfl⟩
theorem r_num_D (s:ByteArray) (p:Int) (hs:s.size≤4611686018427387904) (hp:okP s p):SpecH Tryz.prog 122 [.ptr 0 0] [(0,⟨145,2,1, [.sc (.string s),.sc (.int .i64 (p))]⟩)] 1 (fun d os' nb'=>∃ x q,Got (readV s p) x q∧(okP s q∧(0≤x∧x≤9223372036854775807))∧d = .sc (.int .i64 x)∧os' = [(0,⟨145,2,1, [.sc (.string s),.sc (.int .i64 (q))]⟩)]∧nb' = 1):=by
  have hr:=okP_rng hp hs;have h1:=okP_num hp;have h3:=readV_rng s p;have h4:=readV_max s p
  refine spH_ (rs:= [.tmp 2]) (nt:=20) Tryz.func122 rfl fun X hX=>?_
  refine nm_ ?_
  repeat' ((first|contradiction|(with_reducible exact tt_)|(refine bk_ (fun h h'=>?_) (fun h h'=>?_))|(refine and_ ?_ ?_)|(refine pln_ ?_)|(refine cl_ rfl _ _ (impl_ReadVar_D s p hs hr.2) rfl rfl ?_;rintro _ ⟨rfl,hv⟩)|(refine rh_ [] ?_)|(refine wtr_ (id:=2) [0] (.early 0 (.early 1 (.early 2 (.early 3 (.early 5 (.early 6 (.early 7 (.two 4 (.one 8 (.one 9 (.early 10 (.early 11 (.early 12 (.early 13 (.early 14 (.early 15 (.one 16 .done))))))))) 8 (.one 4 (.one 9 (.early 10 (.early 11 (.early 12 (.early 13 (.early 14 (.early 15 (.one 16 .done))))))))))))))))) ?_)|fail)<;>(try refine nm_ ?_))
  all_goals (refine ⟨?_⟩)
  all_goals first|contradiction|exact ⟨_,_,Got.self _,⟨h1,(by omega)⟩,rfl,rfl⟩|exact ⟨_,_,Got.self _,⟨h1,(by omega)⟩,rfl,rfl,rfl⟩
theorem r_count_D (s:ByteArray) (p:Int) (hs:s.size≤4611686018427387904) (hp:okP s p) (m:Int) (hm:0≤m):SpecH Tryz.prog 123 [.ptr 0 0,.sc (.int .i64 m)] [(0,⟨145,2,1, [.sc (.string s),.sc (.int .i64 (p))]⟩)] 1 (fun d os' nb'=>∃ x q,Got (cntR s p m) x q∧(okP s q∧(0≤x∧x≤m))∧d = .sc (.int .i64 x)∧os' = [(0,⟨145,2,1, [.sc (.string s),.sc (.int .i64 (q))]⟩)]∧nb' = 1):=by
  have hr:=okP_rng hp hs
  refine spH_ (rs:= [.tmp 4]) (nt:=16) Tryz.func123 rfl fun X hX=>?_
  refine nm_ ?_
  repeat' ((first|contradiction|(with_reducible exact tt_)|(refine bk_ (fun h h'=>?_) (fun h h'=>?_))|(refine and_ ?_ ?_)|(refine pln_ ?_)|(refine awH_ rfl (r_num_D s p hs hp) [0] ?_;rintro _ _ _ ⟨x,q,hg,⟨hq,hx⟩,rfl,rfl,rfl⟩ _)|(refine awH_ rfl (r_must_D s _ _) [0] ?_;rintro _ _ _ ⟨rfl,rfl,rfl⟩ _)|(refine awH_ rfl (r_bad_D s _) [0] ?_;rintro _ _ _ ⟨rfl,rfl,rfl⟩ _)|(refine rh_ [] ?_)|fail)<;>(try refine nm_ ?_))
  all_goals (refine ⟨?_⟩)
  all_goals (have e2:=okP_cnt (most:=m) hp;have e3:=cnt_rng (s:=s) (p:=p) hm;have e4:=readV_rng s p;rw [hg.eq] at e4;have h0:=h;simp only [decide_eq_true_eq,decide_eq_false_iff_not] at h0;by_cases hxm:x≤m<;>simp only [hxm,decide_true,decide_false,cond_true,cond_false] at h0 ⊢<;>(first|(exfalso;omega)|(have hq1:q=-1:=(by unfold okP at hq;omega);subst hq1;rw [cnt_no hg (by omega)] at e2 e3;refine ⟨_,_,⟨cnt_no hg (by omega)⟩,⟨e2,e3⟩,rfl,?_⟩;first|rfl|exact ⟨rfl,rfl⟩)|(rw [cnt_no hg (by omega)] at e2 e3;refine ⟨_,_,⟨cnt_no hg (by omega)⟩,⟨e2,e3⟩,rfl,?_⟩;first|rfl|exact ⟨rfl,rfl⟩)|(rw [cnt_yes hg (by omega)] at e2 e3;refine ⟨_,_,⟨cnt_yes hg (by omega)⟩,⟨e2,e3⟩,rfl,?_⟩;first|rfl|exact ⟨rfl,rfl⟩)))
theorem r_text_D (s:ByteArray) (p:Int) (hs:s.size≤4611686018427387904) (hp:okP s p):SpecH Tryz.prog 124 [.ptr 0 0] [(0,⟨145,2,1, [.sc (.string s),.sc (.int .i64 (p))]⟩)] 1 (fun d os' nb'=>∃ x q,Got (txtR s p) x q∧(okP s q∧strOk x)∧d = .sc (.string x)∧os' = [(0,⟨145,2,1, [.sc (.string s),.sc (.int .i64 (q))]⟩)]∧nb' = 1):=by
  have hr:=okP_rng hp hs;have h1:=okP_txt hp;have h5:=txt_size hp
  refine spH_ (rs:= [.tmp 2]) (nt:=23) Tryz.func124 rfl fun X hX=>?_
  refine nm_ ?_
  repeat' ((first|contradiction|(with_reducible exact tt_)|(refine bk_ (fun h h'=>?_) (fun h h'=>?_))|(refine and_ ?_ ?_)|(refine pln_ ?_)|(refine cl_ rfl _ _ (impl_ReadShort_D s p hs hr.2) rfl rfl ?_;rintro _ rfl)|(refine awH_ rfl (r_bad_D s p) [0] ?_;rintro _ _ _ ⟨rfl,rfl,rfl⟩ _)|(refine rh_ [] ?_)|(refine wtr_ (id:=3) [0] (.early 0 (.early 1 (.early 2 (.early 3 (.early 5 (.early 6 (.early 7 (.two 4 (.one 8 (.one 9 (.early 10 (.early 11 (.early 12 (.early 13 (.early 14 (.early 15 (.one 16 .done))))))))) 8 (.one 4 (.one 9 (.early 10 (.early 11 (.early 12 (.early 13 (.early 14 (.early 15 (.one 16 .done))))))))))))))))) ?_)|fail)<;>(try refine nm_ ?_))
  all_goals (refine ⟨?_⟩)
  all_goals first|contradiction|exact ⟨_,_,txt_none (by omega) hp,⟨hp,(by decide)⟩,rfl,rfl⟩|exact ⟨_,_,txt_none (by omega) hp,⟨hp,(by decide)⟩,rfl,rfl,rfl⟩|exact ⟨_,_,txt_got (by omega),⟨txt_got_ok (by omega) h1,txt_got_sz (by omega) h5⟩,rfl,rfl⟩|exact ⟨_,_,txt_got (by omega),⟨txt_got_ok (by omega) h1,txt_got_sz (by omega) h5⟩,rfl,rfl,rfl⟩
end Go.Proofs.YtgoeccemfgniiaaGreat
