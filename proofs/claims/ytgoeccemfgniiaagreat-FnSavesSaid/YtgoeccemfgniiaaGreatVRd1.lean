/- Rd1, Rd2 (what is wanted of them). -/
import Derived.Test.YtgoeccemfgniiaaGreatVRdm
import Derived.Test.YtgoeccemfgniiaaGreatVCl1
namespace Go.Proofs.YtgoeccemfgniiaaGreat
open Go.RowKit
set_option linter.unusedVariables false
set_option linter.unusedSimpArgs false
set_option maxRecDepth 100000
set_option maxHeartbeats 1000000
theorem impl_ReadVar_D (s:ByteArray) (p:Int) (hs:s.size≤4611686018427387904) (hp:p≤4611686018427387904):Spec Tryz.prog 211 [.sc (.string s),.sc (.int .i64 p)] (fun d=>d = .tup [.sc (.int .i64 (readV s p).1),.sc (.int .i64 (readV s p).2)]∧(((readV s p).2=-1∧(readV s p).1=0)∨(0≤(readV s p).1∧0 < (readV s p).2∧(readV s p).2≤s.size))):=by
  have ex0:=@and7;have ex1:=@shl7;have ex2:=@orAdd
  refine sp_ (rs:= [.tmp 4,.tmp 5]) (nt:=44) Tryz.func211 rfl fun X hX=>?_
  refine nm_ ?_
  repeat' ((first|contradiction|(with_reducible exact tt_)|(refine bk_ (fun h h'=>?_) (fun h h'=>?_))|(refine and_ ?_ ?_)|(refine pln_ ?_)|(refine lpU_ 0xc3 (ι:=Nat × Int × Int) (fun ⟨i,n,q⟩=> [(6,.sc (.int .i64 n)),(7,.sc (.int .i64 (i:Int))),(1,.sc (.int .i64 q))]) (fun ⟨i,n,q⟩=>i≤9∧(0≤n∧n < 128 ^ i)∧varGo s p.toNat (9 - i) i n=readV s p∧q=p+i) (fun ⟨i,n,q⟩=>9 - i) (0,0,p) ?_ ?_;(focus (exact ⟨by omega,⟨by decide,by decide⟩,readV_pos (by omega),by simp⟩));rintro _ hN0 ⟨i,n,q⟩ hinv;(try dsimp only at hinv);obtain ⟨hi,hn,hv,hqe⟩:=hinv;subst hqe;replace hv:=Lib.hid hv;have hb:=bytB_rng s (p.toNat+i);have hp0:0≤p:=(by omega);have hq:(p+(i:Int)).toNat=p.toNat+i:=(by omega);by_cases h8:i≤8;have hw:=var_max (x:=bytB s (p.toNat+i)) hn.1 hn.2 h8;skip)|(refine hN0.go ((i+1,_,_)) ?_ ?_;(focus (exact ⟨by show i+1≤9;omega,var_lt hn.1 hn.2,(varGo_next (by omega) (by omega) (by omega)).trans hv.out,by show _=p+((i+1:Nat):Int);omega⟩));(focus (show 9 - (i+1) < 9 - i;omega)))|fail)<;>(try refine nm_ ?_))
  all_goals clear ex0 ex1 ex2
  all_goals (refine ⟨?_⟩)
  all_goals first|contradiction|(exfalso;omega)|exact readV_rng s p|(rw [readV_bad (by omega)];done)|(rw [← hv.out,varGo_end (by omega)];done)|(rw [← hv.out,varGo_zero (by omega) (by omega) (by omega) (by omega)];done)|(rw [← hv.out,varGo_hitI (by omega) (by omega) (by omega) (by omega) (by omega)];done)
theorem impl_ReadShort_D (s:ByteArray) (p:Int) (hs:s.size≤4611686018427387904) (hp:p≤4611686018427387904):Spec Tryz.prog 214 [.sc (.string s),.sc (.int .i64 p)] (fun d=>d = .tup [.sc (.string (readS s p).1),.sc (.int .i64 (readS s p).2)]):=by
  refine sp_ (rs:= [.tmp 4,.tmp 5]) (nt:=33) Tryz.func214 rfl fun X hX=>?_
  refine nm_ ?_
  repeat' ((first|contradiction|(with_reducible exact tt_)|(refine bk_ (fun h h'=>?_) (fun h h'=>?_))|(refine and_ ?_ ?_)|(refine pln_ ?_)|(refine cl_ rfl _ _ (impl_ReadVar_D _ _ (by first|assumption|omega) (by first|assumption|omega)) rfl rfl ?_;rintro _ ⟨rfl,hv⟩)|fail)<;>(try refine nm_ ?_))
  all_goals (refine ⟨?_⟩)
  all_goals first|contradiction|(unfold readS;first|(rw [if_pos (by omega)];done)|(rw [if_neg (by omega)];done))
end Go.Proofs.YtgoeccemfgniiaaGreat
namespace Go.Proofs.YtgoeccemfgniiaaGreat
open Go.RowKit
set_option linter.unusedVariables false
set_option linter.unusedSimpArgs false
set_option maxRecDepth 100000
set_option maxHeartbeats 1000000
theorem r_bad_D (s:ByteArray) (p:Int):SpecH Tryz.prog 213 [.ptr 0 0] [(0,⟨145,2,1, [.sc (.string s),.sc (.int .i64 (p))]⟩)] 1 (fun d os' nb'=>d = .sc (.bool (decide (p < 0)))∧os' = [(0,⟨145,2,1, [.sc (.string s),.sc (.int .i64 (p))]⟩)]∧nb' = 1):=by
  refine spH_ (rs:= [.tmp 2]) (nt:=8) Tryz.func213 rfl fun X hX=>?_
  refine nm_ ?_
  repeat' ((first|contradiction|(with_reducible exact tt_)|(refine bk_ (fun h h'=>?_) (fun h h'=>?_))|(refine and_ ?_ ?_)|(refine pln_ ?_)|(refine rh_ [] ?_)|fail)<;>(try refine nm_ ?_))
  all_goals (refine ⟨?_⟩)
  all_goals first|rfl
theorem r_must_D (s:ByteArray) (p:Int) (b:Bool):SpecH Tryz.prog 212 [.ptr 0 0,.sc (.bool b)] [(0,⟨145,2,1, [.sc (.string s),.sc (.int .i64 (p))]⟩)] 1 (fun d os' nb'=>d = .tup []∧os' = [(0,⟨145,2,1, [.sc (.string s),.sc (.int .i64 (cond b p (-1)))]⟩)]∧nb' = 1):=by
  refine spH_ (rs:= []) (nt:=9) Tryz.func212 rfl fun X hX=>?_
  refine nm_ ?_
  repeat' ((first|contradiction|(with_reducible exact tt_)|(refine bk_ (fun h h'=>?_) (fun h h'=>?_))|(refine and_ ?_ ?_)|(refine pln_ ?_)|(refine rh_ [] ?_)|fail)<;>(try refine nm_ ?_))
  all_goals (refine ⟨?_⟩)
  all_goals (cases b<;>first|rfl|contradiction)
theorem r_numk_D (s:ByteArray) (p:Int) (hs:s.size≤4611686018427387904) (k:Nat) (hp:okQ s (k+1) p):SpecH Tryz.prog 122 [.ptr 0 0] [(0,⟨145,2,1, [.sc (.string s),.sc (.int .i64 (p))]⟩)] 1 (fun d os' nb'=>∃ x q,Got (readV s p) x q∧(okQ s k q∧(0≤x∧x≤9223372036854775807))∧d = .sc (.int .i64 x)∧os' = [(0,⟨145,2,1, [.sc (.string s),.sc (.int .i64 (q))]⟩)]∧nb' = 1):=by
  have hr:=okQ_rng hp hs;have h1:=okQ_num hp (Got.self _);have h3:=readV_rng s p;have h4:=readV_max s p
  refine spH_ (rs:= [.tmp 2]) (nt:=20) Tryz.func122 rfl fun X hX=>?_
  refine nm_ ?_
  repeat' ((first|contradiction|(with_reducible exact tt_)|(refine bk_ (fun h h'=>?_) (fun h h'=>?_))|(refine and_ ?_ ?_)|(refine pln_ ?_)|(refine cl_ rfl _ _ (impl_ReadVar_D s p hs hr.2) rfl rfl ?_;rintro _ ⟨rfl,hv⟩)|(refine rh_ [] ?_)|(refine wtr_ (id:=2) [0] (.early 0 (.early 1 (.early 2 (.early 3 (.early 5 (.early 6 (.early 7 (.two 4 (.one 8 (.one 9 (.early 10 (.early 11 (.early 12 (.early 13 (.early 14 (.early 15 (.one 16 .done))))))))) 8 (.one 4 (.one 9 (.early 10 (.early 11 (.early 12 (.early 13 (.early 14 (.early 15 (.one 16 .done))))))))))))))))) ?_)|fail)<;>(try refine nm_ ?_))
  all_goals (refine ⟨?_⟩)
  all_goals first|contradiction|exact ⟨_,_,Got.self _,⟨h1,(by omega)⟩,rfl,rfl⟩|exact ⟨_,_,Got.self _,⟨h1,(by omega)⟩,rfl,rfl,rfl⟩
theorem r_num_D (s:ByteArray) (p:Int) (hs:s.size≤4611686018427387904) (hp:okP s p):SpecH Tryz.prog 122 [.ptr 0 0] [(0,⟨145,2,1, [.sc (.string s),.sc (.int .i64 (p))]⟩)] 1 (fun d os' nb'=>∃ x q,Got (readV s p) x q∧(okP s q∧(0≤x∧x≤9223372036854775807))∧d = .sc (.int .i64 x)∧os' = [(0,⟨145,2,1, [.sc (.string s),.sc (.int .i64 (q))]⟩)]∧nb' = 1):=by
  have hr:=okP_rng hp hs;have h1:=okP_num hp;have h3:=readV_rng s p;have h4:=readV_max s p
  refine spH_ (rs:= [.tmp 2]) (nt:=20) Tryz.func122 rfl fun X hX=>?_
  refine nm_ ?_
  repeat' ((first|contradiction|(with_reducible exact tt_)|(refine bk_ (fun h h'=>?_) (fun h h'=>?_))|(refine and_ ?_ ?_)|(refine pln_ ?_)|(refine cl_ rfl _ _ (impl_ReadVar_D s p hs hr.2) rfl rfl ?_;rintro _ ⟨rfl,hv⟩)|(refine rh_ [] ?_)|(refine wtr_ (id:=2) [0] (.early 0 (.early 1 (.early 2 (.early 3 (.early 5 (.early 6 (.early 7 (.two 4 (.one 8 (.one 9 (.early 10 (.early 11 (.early 12 (.early 13 (.early 14 (.early 15 (.one 16 .done))))))))) 8 (.one 4 (.one 9 (.early 10 (.early 11 (.early 12 (.early 13 (.early 14 (.early 15 (.one 16 .done))))))))))))))))) ?_)|fail)<;>(try refine nm_ ?_))
  all_goals (refine ⟨?_⟩)
  all_goals first|contradiction|exact ⟨_,_,Got.self _,⟨h1,(by omega)⟩,rfl,rfl⟩|exact ⟨_,_,Got.self _,⟨h1,(by omega)⟩,rfl,rfl,rfl⟩
theorem r_count_D (s:ByteArray) (p:Int) (hs:s.size≤4611686018427387904) (hp:okP s p) (m:Int) (hm:0≤m):SpecH Tryz.prog 123 [.ptr 0 0,.sc (.int .i64 m)] [(0,⟨145,2,1, [.sc (.string s),.sc (.int .i64 (p))]⟩)] 1 (fun d os' nb'=>∃ x q,Got (cntR s p m) x q∧(okP s q∧(0≤x∧x≤m))∧d = .sc (.int .i64 x)∧os' = [(0,⟨145,2,1, [.sc (.string s),.sc (.int .i64 (q))]⟩)]∧nb' = 1):=by
  have hr:=okP_rng hp hs
  refine spH_ (rs:= [.tmp 4]) (nt:=16) Tryz.func123 rfl fun X hX=>?_
  refine nm_ ?_
  repeat' ((first|contradiction|(with_reducible exact tt_)|(refine bk_ (fun h h'=>?_) (fun h h'=>?_))|(refine and_ ?_ ?_)|(refine pln_ ?_)|(refine awH_ rfl (r_num_D s p hs hp) [0] ?_;rintro _ _ _ ⟨x,q,hg,⟨hq,hx⟩,rfl,rfl,rfl⟩ _)|(refine awH_ rfl (r_must_D s _ _) [0] ?_;rintro _ _ _ ⟨rfl,rfl,rfl⟩ _)|(refine awH_ rfl (r_bad_D s _) [0] ?_;rintro _ _ _ ⟨rfl,rfl,rfl⟩ _)|(refine rh_ [] ?_)|fail)<;>(try refine nm_ ?_))
  all_goals (refine ⟨?_⟩)
  all_goals (have e2:=okP_cnt (most:=m) hp;have e3:=cnt_rng (s:=s) (p:=p) hm;have e4:=readV_rng s p;rw [hg.eq] at e4;have h0:=h;simp only [decide_eq_true_eq,decide_eq_false_iff_not] at h0;by_cases hxm:x≤m<;>simp only [hxm,decide_true,decide_false,cond_true,cond_false] at h0 ⊢<;>(first|(exfalso;omega)|(have hq1:q=-1:=(by unfold okP at hq;omega);subst hq1;rw [cnt_no hg (by omega)] at e2 e3;refine ⟨_,_,⟨cnt_no hg (by omega)⟩,⟨e2,e3⟩,rfl,?_⟩;first|rfl|exact ⟨rfl,rfl⟩)|(rw [cnt_no hg (by omega)] at e2 e3;refine ⟨_,_,⟨cnt_no hg (by omega)⟩,⟨e2,e3⟩,rfl,?_⟩;first|rfl|exact ⟨rfl,rfl⟩)|(rw [cnt_yes hg (by omega)] at e2 e3;refine ⟨_,_,⟨cnt_yes hg (by omega)⟩,⟨e2,e3⟩,rfl,?_⟩;first|rfl|exact ⟨rfl,rfl⟩)))
theorem r_text_D (s:ByteArray) (p:Int) (hs:s.size≤4611686018427387904) (hp:okP s p):SpecH Tryz.prog 124 [.ptr 0 0] [(0,⟨145,2,1, [.sc (.string s),.sc (.int .i64 (p))]⟩)] 1 (fun d os' nb'=>∃ x q,Got (txtR s p) x q∧(okP s q∧strOk x)∧d = .sc (.string x)∧os' = [(0,⟨145,2,1, [.sc (.string s),.sc (.int .i64 (q))]⟩)]∧nb' = 1):=by
  have hr:=okP_rng hp hs;have h1:=okP_txt hp;have h5:=txt_size hp
  refine spH_ (rs:= [.tmp 2]) (nt:=23) Tryz.func124 rfl fun X hX=>?_
  refine nm_ ?_
  repeat' ((first|contradiction|(with_reducible exact tt_)|(refine bk_ (fun h h'=>?_) (fun h h'=>?_))|(refine and_ ?_ ?_)|(refine pln_ ?_)|(refine cl_ rfl _ _ (impl_ReadShort_D s p hs hr.2) rfl rfl ?_;rintro _ rfl)|(refine awH_ rfl (r_bad_D s p) [0] ?_;rintro _ _ _ ⟨rfl,rfl,rfl⟩ _)|(refine rh_ [] ?_)|(refine wtr_ (id:=3) [0] (.early 0 (.early 1 (.early 2 (.early 3 (.early 5 (.early 6 (.early 7 (.two 4 (.one 8 (.one 9 (.early 10 (.early 11 (.early 12 (.early 13 (.early 14 (.early 15 (.one 16 .done))))))))) 8 (.one 4 (.one 9 (.early 10 (.early 11 (.early 12 (.early 13 (.early 14 (.early 15 (.one 16 .done))))))))))))))))) ?_)|fail)<;>(try refine nm_ ?_))
  all_goals (refine ⟨?_⟩)
  all_goals first|contradiction|exact ⟨_,_,txt_none (by omega) hp,⟨hp,(by decide)⟩,rfl,rfl⟩|exact ⟨_,_,txt_none (by omega) hp,⟨hp,(by decide)⟩,rfl,rfl,rfl⟩|exact ⟨_,_,txt_got (by omega),⟨txt_got_ok (by omega) h1,txt_got_sz (by omega) h5⟩,rfl,rfl⟩|exact ⟨_,_,txt_got (by omega),⟨txt_got_ok (by omega) h1,txt_got_sz (by omega) h5⟩,rfl,rfl,rfl⟩
end Go.Proofs.YtgoeccemfgniiaaGreat
