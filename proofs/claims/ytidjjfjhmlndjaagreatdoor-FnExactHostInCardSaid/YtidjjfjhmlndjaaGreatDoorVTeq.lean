/- Teq (what is wanted of them). -/
import Derived.Test.YtidjjfjhmlndjaaGreatDoorVTcp
namespace Go.Proofs.YtidjjfjhmlndjaaGreatDoor
open Go.RowKit Go.Sort Go.Shelf Go.Lib
set_option linter.unusedVariables false
set_option linter.unusedSimpArgs false
theorem tnt_equal (k1 k2 v1 v2:ByteArray) (e1 e2:Int) (W:World):(Op.equalIn 10000 118 (.agg #[.string k1,.string v1,.int .i64 e1]) (.agg #[.string k2,.string v2,.int .i64 e2])).run Tryz.prog W = .ok (eqB k1 k2&&(eqB v1 v2&&(e1==e2))) W:=by
  have hu:Tryz.prog.underlying 118=some (.struct (Tryz.prog.fieldsOf 118)):=by kernel_rfl
  rw [show (10000:Nat)=9999+1 from rfl,run_equalIn_struct W 9999 118 _ _ hu (by kernel_rfl)]
  have hks:eqFs Tryz.prog (Tryz.prog.fieldsOf 118).toList 0=some [.s,.s,.i]:=by kernel_rfl
  have hr:∀ (k v:ByteArray) (e:Int) (q:Nat) (d:D) (u:Value),([.sc (.string k),.sc (.string v),.sc (.int .i64 e)]:List D)[q]? = some d→([.string k,.string v,.int .i64 e]:List Value)[0+q]? = some u→Rep1 (roEnv fun _=>False) W d u:=fun k v e q d u h1 h2=>by
    rcases q with _|_|_|q<;>simp at h1 h2<;>subst h1<;>subst h2<;>exact ⟨rfl,rfl⟩
  have h:=run_eqK (E:=roEnv fun _=>False) (w0:=W) (w:=W) (xs:= [.string k1,.string v1,.int .i64 e1]) (ys:= [.string k2,.string v2,.int .i64 e2]) (xa:= [.sc (.string k1),.sc (.string v1),.sc (.int .i64 e1)]) (xb:= [.sc (.string k2),.sc (.string v2),.sc (.int .i64 e2)]) (r:=(k1.toList==k2.toList)&&((v1.toList==v2.toList)&&((e1==e2)&&true))) hks rfl rfl rfl (hr k1 v1 e1) (hr k2 v2 e2) 9998
  rw [Bool.and_true] at h
  exact h
theorem tnt_eql (xs:List TaintD) (x y:Nat) (W:World):Sem.run Tryz.prog (binOp .eql 118 (.agg (tntE xs x).toArray) (.agg (tntE xs y).toArray)) W = .ok (.bool (taintSame (xs.getD x default) (xs.getD y default))) W:=by
  have h:=tnt_equal (xs.getD x default).key (xs.getD y default).key (xs.getD x default).value (xs.getD y default).value (xs.getD x default).effect (xs.getD y default).effect W
  simp only [tntE,run_eql_struct,h,Result.andThen_ok]
  rfl
theorem tnt_neq (xs:List TaintD) (x y:Nat) (W:World):Sem.run Tryz.prog (binOp .neq 118 (.agg (tntE xs x).toArray) (.agg (tntE xs y).toArray)) W = .ok (.bool (!taintSame (xs.getD x default) (xs.getD y default))) W:=by
  have h:=tnt_equal (xs.getD x default).key (xs.getD y default).key (xs.getD x default).value (xs.getD y default).value (xs.getD x default).effect (xs.getD y default).effect W
  simp only [tntE,run_neq_struct,h,Result.andThen_ok]
  rfl
end Go.Proofs.YtidjjfjhmlndjaaGreatDoor
