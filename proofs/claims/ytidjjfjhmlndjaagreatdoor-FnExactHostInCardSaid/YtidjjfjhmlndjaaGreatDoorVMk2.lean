/- Mk2, Mk3 (what is wanted of them). -/
import Derived.Test.YtidjjfjhmlndjaaGreatDoorVMk1
namespace Go.Proofs.YtidjjfjhmlndjaaGreatDoor
open Go.RowKit
set_option linter.unusedVariables false
set_option linter.unusedSimpArgs false
set_option maxRecDepth 100000
set_option maxHeartbeats 1000000
/-- How many marks a row takes, at most. -/
structure Few {α:Type} (P:α→Prop) (xs:List α):Prop where
  out:∀ x,x ∈ xs→P x
theorem Few.head {α:Type}{P:α→Prop}{x:α}{r:List α} (h:Few P (x::r)):P x:=h.out x (List.mem_cons_self ..)
theorem Few.tail {α:Type}{P:α→Prop}{x:α}{r:List α} (h:Few P (x::r)):Few P r:=⟨fun y hy=>h.out y (List.mem_cons_of_mem _ hy)⟩
end Go.Proofs.YtidjjfjhmlndjaaGreatDoor
namespace Go.Proofs.YtidjjfjhmlndjaaGreatDoor
open Go.RowKit
set_option linter.unusedVariables false
set_option linter.unusedSimpArgs false
set_option maxRecDepth 100000
set_option maxHeartbeats 1000000
theorem mkL_at:∀ (n:Nat) (k:Int) (i:Nat),i < n→(mkL n k).getD i default=⟨markT (k+2*i).toNat,markT (k+2*i+1).toNat⟩
  |n+1,k,0,_=>by show (⟨markT k.toNat,markT (k+1).toNat⟩:LabelD)=_;rw [show k+2*((0:Nat):Int)=k by omega]
  |n+1,k,i+1,h=>by
    show (mkL n (k+1+1)).getD i default=_
    rw [mkL_at n (k+1+1) i (by omega),show k+1+1+2*(i:Int)=k+2*((i+1:Nat):Int) by omega]
theorem mkT_at:∀ (n:Nat) (k:Int) (i:Nat),i < n→(mkT n k).getD i default=⟨markT (k+3*i).toNat,markT (k+3*i+1).toNat,k+3*i+1+1⟩
  |n+1,k,0,_=>by show (⟨markT k.toNat,markT (k+1).toNat,k+1+1⟩:TaintD)=_;rw [show k+3*((0:Nat):Int)=k by omega]
  |n+1,k,i+1,h=>by
    show (mkT n (k+1+1+1)).getD i default=_
    rw [mkT_at n (k+1+1+1) i (by omega),show k+1+1+1+3*(i:Int)=k+3*((i+1:Nat):Int) by omega]
theorem laws_heldLabelS_D (n:Nat) (k0:Int) (h0:0 < k0) (h1:k0≤1900000000000000000) (hn:n≤1048576):Spec Tryz.prog 88 [.sl n (labelsD (mkL n k0)),.sc (.int .i64 k0)] (fun d=>d = .sc (.int .i64 (k0+2*(n:Int)))):=by
  have hat:=mkL_at n k0;have hln:=mkL_len n k0
  have ex0:=@mkL_len
  refine sp_ (rs:= [.tmp 4]) (nt:=33) Tryz.func88 rfl fun X hX=>?_
  refine nm_ ?_
  repeat' ((first|contradiction|(with_reducible exact tt_)|((with_reducible show Wk (AwStepF _ _ _ _ _ _ _));first|(refine cl_ rfl _ _ (laws_markText_D _ (by omega) (by omega)) rfl rfl ?_;rintro _ ⟨rfl,hz⟩))|((with_reducible show Wk (AwStep _ _ _ _ _));first|(refine pln_ ?_))|((with_reducible show Wk (AwCode _ _ _ _ _));first|(refine wo_ (id:=4) [] [(0,true),(1,true),(2,true),(3,true),(4,true),(5,true),(6,false),(7,true)] ?_)|(refine wo_ (id:=7) [] [(0,true),(1,true),(2,true),(3,true),(4,true),(5,true),(6,false),(7,true)] ?_)|(refine lpU_ 0x23 (ι:=Nat × Int) (fun ⟨i,k⟩=> [(1,.sc (.int .i64 k)),(5,.sc (.int .i64 (i:Int)))]) (fun ⟨i,k⟩=>i≤n∧k=k0+2*(i:Int)) (fun ⟨i,k⟩=>n - i) (0,k0) ?_ ?_;(focus (exact ⟨Nat.zero_le _,by omega⟩));rintro _ hN0 ⟨i,k⟩ hinv;(try dsimp only at hinv);obtain ⟨hi,hk⟩:=hinv;by_cases hlt:i < n;have hx:=hat i hlt;subst hk;skip))|((with_reducible show Wk (boolK _ _ _ _));first|(refine bk_ (fun h h'=>?_) (fun h h'=>?_)))|((with_reducible show Wk (_∧_));first|(refine and_ ?_ ?_))|(refine hN0.go ((i+1,_)) ?_ ?_;(focus (exact ⟨by show i+1≤n;omega,by show _=k0+2*((i+1:Nat):Int);omega⟩));(focus (show n - (i+1) < n - i;omega)))|fail)<;>(try refine nm_ ?_))
  all_goals clear ex0
  all_goals (refine ⟨?_⟩)
  all_goals first|contradiction|(exfalso;omega)|(exfalso;simp_all;done)|(obtain rfl:i=n:=(by omega);rfl)
theorem laws_heldTaintS_D (n:Nat) (k0:Int) (h0:0 < k0) (h1:k0≤1900000000000000000) (hn:n≤1048576):Spec Tryz.prog 89 [.sl n (taintsD (mkT n k0)),.sc (.int .i64 k0)] (fun d=>d = .sc (.int .i64 (k0+3*(n:Int)))):=by
  have hat:=mkT_at n k0;have hln:=mkT_len n k0
  have ex0:=@mkT_len
  refine sp_ (rs:= [.tmp 4]) (nt:=42) Tryz.func89 rfl fun X hX=>?_
  refine nm_ ?_
  repeat' ((first|contradiction|(with_reducible exact tt_)|((with_reducible show Wk (AwStepF _ _ _ _ _ _ _));first|(refine cl_ rfl _ _ (laws_markText_D _ (by omega) (by omega)) rfl rfl ?_;rintro _ ⟨rfl,hz⟩))|((with_reducible show Wk (AwStep _ _ _ _ _));first|(refine pln_ ?_))|((with_reducible show Wk (AwCode _ _ _ _ _));first|(refine wo_ (id:=4) [] [(0,true),(1,true),(2,true),(3,true),(4,true),(5,true),(6,false),(7,true)] ?_)|(refine wo_ (id:=7) [] [(0,true),(1,true),(2,true),(3,true),(4,true),(5,true),(6,false),(7,true)] ?_)|(refine lpU_ 0x23 (ι:=Nat × Int) (fun ⟨i,k⟩=> [(1,.sc (.int .i64 k)),(5,.sc (.int .i64 (i:Int)))]) (fun ⟨i,k⟩=>i≤n∧k=k0+3*(i:Int)) (fun ⟨i,k⟩=>n - i) (0,k0) ?_ ?_;(focus (exact ⟨Nat.zero_le _,by omega⟩));rintro _ hN0 ⟨i,k⟩ hinv;(try dsimp only at hinv);obtain ⟨hi,hk⟩:=hinv;by_cases hlt:i < n;have hx:=hat i hlt;subst hk;skip))|((with_reducible show Wk (boolK _ _ _ _));first|(refine bk_ (fun h h'=>?_) (fun h h'=>?_)))|((with_reducible show Wk (_∧_));first|(refine and_ ?_ ?_))|(refine hN0.go ((i+1,_)) ?_ ?_;(focus (exact ⟨by show i+1≤n;omega,by show _=k0+3*((i+1:Nat):Int);omega⟩));(focus (show n - (i+1) < n - i;omega)))|fail)<;>(try refine nm_ ?_))
  all_goals clear ex0
  all_goals (refine ⟨?_⟩)
  all_goals first|contradiction|(exfalso;omega)|(exfalso;simp_all;done)|(obtain rfl:i=n:=(by omega);rfl)
end Go.Proofs.YtidjjfjhmlndjaaGreatDoor
