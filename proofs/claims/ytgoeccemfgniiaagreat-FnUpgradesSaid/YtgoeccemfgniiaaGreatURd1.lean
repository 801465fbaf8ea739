/- Rd1 (what is wanted of them). -/
import Derived.Test.YtgoeccemfgniiaaGreatURdm
import Derived.Test.YtgoeccemfgniiaaGreatUCl1
namespace Go.Proofs.YtgoeccemfgniiaaGreat
open Go.RowKit
set_option linter.unusedVariables false
set_option linter.unusedSimpArgs false
set_option maxRecDepth 100000
set_option maxHeartbeats 1000000
theorem spec_ReadVar_D (s:ByteArray) (p:Int) (hs:s.size≤4611686018427387904) (hp:p≤4611686018427387904):Spec Tryz.prog 308 [.sc (.string s),.sc (.int .i64 p)] (fun d=>d = .tup [.sc (.int .i64 (readV s p).1),.sc (.int .i64 (readV s p).2)]∧(((readV s p).2=-1∧(readV s p).1=0)∨(0≤(readV s p).1∧0 < (readV s p).2∧(readV s p).2≤s.size))):=by
  have ex0:=@tmodE;have ex1:=@shl7;have ex2:=@wrap64
  refine sp_ (rs:= [.tmp 4,.tmp 5]) (nt:=54) Tryz.func308 rfl fun X hX=>?_
  refine nm_ ?_
  repeat' ((first|contradiction|(with_reducible exact tt_)|(refine bk_ (fun h h'=>?_) (fun h h'=>?_))|(refine and_ ?_ ?_)|(refine pln_ ?_)|(refine cl_ rfl _ _ (l01In_D _ _ _) rfl rfl ?_;rintro _ rfl)|(refine lpU_ 0xc3 (ι:=Nat × Int) (fun ⟨i,n⟩=> [(6,.sc (.int .i64 n)),(7,.sc (.int .i64 (i:Int)))]) (fun ⟨i,n⟩=>i≤9∧(0≤n∧n < 128 ^ i)∧varGo s p.toNat (9 - i) i n=readV s p) (fun ⟨i,n⟩=>9 - i) (0,0) ?_ ?_;(focus (exact ⟨by omega,⟨by decide,by decide⟩,readV_pos (by omega)⟩));rintro _ hN0 ⟨i,n⟩ hinv;(try dsimp only at hinv);obtain ⟨hi,hn,hv⟩:=hinv;replace hv:=Lib.hid hv;have hb:=bytB_rng s (p.toNat+i);have hp0:0≤p:=(by omega);have hq:(p+(i:Int)).toNat=p.toNat+i:=(by omega);by_cases h8:i≤8;have hw:=var_max (x:=bytB s (p.toNat+i)) hn.1 hn.2 h8;skip)|(refine hN0.go ((i+1,_)) ?_ ?_;(focus (exact ⟨by show i+1≤9;omega,var_lt hn.1 hn.2,(varGo_next (by omega) (by omega) (by omega)).trans hv.out⟩));(focus (show 9 - (i+1) < 9 - i;omega)))|fail)<;>(try refine nm_ ?_))
  all_goals clear ex0 ex1 ex2
  all_goals (refine ⟨?_⟩)
  all_goals first|contradiction|(exfalso;omega)|exact readV_rng s p|(rw [readV_bad (by omega)];done)|(rw [← hv.out,varGo_end (by omega)];done)|(rw [← hv.out,varGo_zero (by omega) (by omega) (by omega) (by omega)];done)|(rw [← hv.out,varGo_hitI (by omega) (by omega) (by omega) (by omega) (by omega)];done)
theorem impl_ReadVar_D (s:ByteArray) (p:Int) (hs:s.size≤4611686018427387904) (hp:p≤4611686018427387904):Spec Tryz.prog 211 [.sc (.string s),.sc (.int .i64 p)] (fun d=>d = .tup [.sc (.int .i64 (readV s p).1),.sc (.int .i64 (readV s p).2)]∧(((readV s p).2=-1∧(readV s p).1=0)∨(0≤(readV s p).1∧0 < (readV s p).2∧(readV s p).2≤s.size))):=by
  have ex0:=@and7;have ex1:=@shl7;have ex2:=@orAdd
  refine sp_ (rs:= [.tmp 4,.tmp 5]) (nt:=44) Tryz.func211 rfl fun X hX=>?_
  refine nm_ ?_
  repeat' ((first|contradiction|(with_reducible exact tt_)|(refine bk_ (fun h h'=>?_) (fun h h'=>?_))|(refine and_ ?_ ?_)|(refine pln_ ?_)|(refine lpU_ 0xc3 (ι:=Nat × Int × Int) (fun ⟨i,n,q⟩=> [(6,.sc (.int .i64 n)),(7,.sc (.int .i64 (i:Int))),(1,.sc (.int .i64 q))]) (fun ⟨i,n,q⟩=>i≤9∧(0≤n∧n < 128 ^ i)∧varGo s p.toNat (9 - i) i n=readV s p∧q=p+i) (fun ⟨i,n,q⟩=>9 - i) (0,0,p) ?_ ?_;(focus (exact ⟨by omega,⟨by decide,by decide⟩,readV_pos (by omega),by simp⟩));rintro _ hN0 ⟨i,n,q⟩ hinv;(try dsimp only at hinv);obtain ⟨hi,hn,hv,hqe⟩:=hinv;subst hqe;replace hv:=Lib.hid hv;have hb:=bytB_rng s (p.toNat+i);have hp0:0≤p:=(by omega);have hq:(p+(i:Int)).toNat=p.toNat+i:=(by omega);by_cases h8:i≤8;have hw:=var_max (x:=bytB s (p.toNat+i)) hn.1 hn.2 h8;skip)|(refine hN0.go ((i+1,_,_)) ?_ ?_;(focus (exact ⟨by show i+1≤9;omega,var_lt hn.1 hn.2,(varGo_next (by omega) (by omega) (by omega)).trans hv.out,by show _=p+((i+1:Nat):Int);omega⟩));(focus (show 9 - (i+1) < 9 - i;omega)))|fail)<;>(try refine nm_ ?_))
  all_goals clear ex0 ex1 ex2
  all_goals (refine ⟨?_⟩)
  all_goals first|contradiction|(exfalso;omega)|exact readV_rng s p|(rw [readV_bad (by omega)];done)|(rw [← hv.out,varGo_end (by omega)];done)|(rw [← hv.out,varGo_zero (by omega) (by omega) (by omega) (by omega)];done)|(rw [← hv.out,varGo_hitI (by omega) (by omega) (by omega) (by omega) (by omega)];done)
theorem spec_ReadShort_D (s:ByteArray) (p:Int) (hs:s.size≤4611686018427387904) (hp:p≤4611686018427387904):Spec Tryz.prog 309 [.sc (.string s),.sc (.int .i64 p)] (fun d=>d = .tup [.sc (.string (readS s p).1),.sc (.int .i64 (readS s p).2)]):=by
  refine sp_ (rs:= [.tmp 4,.tmp 5]) (nt:=33) Tryz.func309 rfl fun X hX=>?_
  refine nm_ ?_
  repeat' ((first|contradiction|(with_reducible exact tt_)|(refine bk_ (fun h h'=>?_) (fun h h'=>?_))|(refine and_ ?_ ?_)|(refine pln_ ?_)|(refine cl_ rfl _ _ (spec_ReadVar_D _ _ (by first|assumption|omega) (by first|assumption|omega)) rfl rfl ?_;rintro _ ⟨rfl,hv⟩)|fail)<;>(try refine nm_ ?_))
  all_goals (refine ⟨?_⟩)
  all_goals first|contradiction|(unfold readS;first|(rw [if_pos (by omega)];done)|(rw [if_neg (by omega)];done))
theorem impl_ReadShort_D (s:ByteArray) (p:Int) (hs:s.size≤4611686018427387904) (hp:p≤4611686018427387904):Spec Tryz.prog 214 [.sc (.string s),.sc (.int .i64 p)] (fun d=>d = .tup [.sc (.string (readS s p).1),.sc (.int .i64 (readS s p).2)]):=by
  refine sp_ (rs:= [.tmp 4,.tmp 5]) (nt:=33) Tryz.func214 rfl fun X hX=>?_
  refine nm_ ?_
  repeat' ((first|contradiction|(with_reducible exact tt_)|(refine bk_ (fun h h'=>?_) (fun h h'=>?_))|(refine and_ ?_ ?_)|(refine pln_ ?_)|(refine cl_ rfl _ _ (impl_ReadVar_D _ _ (by first|assumption|omega) (by first|assumption|omega)) rfl rfl ?_;rintro _ ⟨rfl,hv⟩)|fail)<;>(try refine nm_ ?_))
  all_goals (refine ⟨?_⟩)
  all_goals first|contradiction|(unfold readS;first|(rw [if_pos (by omega)];done)|(rw [if_neg (by omega)];done))
end Go.Proofs.YtgoeccemfgniiaaGreat
