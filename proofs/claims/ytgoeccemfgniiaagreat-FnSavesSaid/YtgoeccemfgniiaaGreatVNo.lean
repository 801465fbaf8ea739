/- No, Dk4, Jo (what is wanted of them). -/
import Derived.Test.YtgoeccemfgniiaaGreatVNn
import Derived.Test.YtgoeccemfgniiaaGreatVAwc
import Derived.Test.YtgoeccemfgniiaaGreatVDk1
import Derived.Test.YtgoeccemfgniiaaGreatVDkDel
import Derived.Test.YtgoeccemfgniiaaGreatVAwb
namespace Go.Proofs.YtgoeccemfgniiaaGreat
open Go.RowKit
set_option maxRecDepth 100000
theorem ite_ {c:Prop} [Decidable c] {f:D→St}{x y:Option D}{k:St→Prop}{e:Prop} (h1:c→Wk (stepK (Option.map f x) k e)) (h2:¬ c→Wk (stepK (Option.map f y) k e)):Wk (stepK (Option.map f (if c then x else y)) k e):=by
  split
  · rename_i h
    exact h1 h
  · rename_i h
    exact h2 h
theorem gpos2 {c:Prop} [Decidable c] {α:Type}{a b:α} (h:c):(if c then some a else some b)=some a:=if_pos h
theorem gneg2 {c:Prop} [Decidable c] {α:Type}{a b:α} (h:¬ c):(if c then some a else some b)=some b:=if_neg h
theorem bleT_ {n m:Nat} (h:n≤m):Nat.ble n m=true:=Nat.ble_eq_true_of_le h
theorem bleF_ {n m:Nat} (h:m < n):Nat.ble n m=false:=by
  cases e:Nat.ble n m with
  |false=>rfl
  |true=>have:=Nat.le_of_ble_eq_true e;omega
attribute [push_cast] gpos2 gneg2 bleT_ bleF_
theorem tps_dry {cs:List D} (h:cs.all D.tp=true):cs.all D.dryC=true:=all_to h fun d h=>by cases d<;>first|rfl|cases h
theorem dryO_ {os:List (Nat × Ob)} (h:dryO os=true:=by first|rfl|(simp [dryO,tps_dry (strsD_tp _),tps_dry (intsD_tp _),tps_dry (u8D_tp _),tps_dry (labelsD_tp _),tps_dry (filesD_tp _),tps_dry (taintsD_tp _),tps_dry (tolersD_tp _),tps_dry (needsT_tp _),tps_dry (hostsT_tp _),tps_dry (placedsT_tp _),D.dryC]<;>fail)):dryO os=true:=h
theorem boH_ {X:Ctx}{P:Program}{o:Oper}{s:St}{wr:List Nat}{nb:Nat}{f:FuncId}{xs:Array Operand}{ats:Array TypeId}{K:St→Prop} (ho:o.op = .call { callee:=.value (.func f),args:=xs,argTypes:=ats }) (gs:List Gop) {ds:List D}{Q:D→List (Nat × Ob)→Nat→Prop} (hs:SpecH P f ds [] 0 Q)
    (hk:∀ d os' nb',Q d os' nb'→(d.dryT=true∧dryO os' = true)∧Wk (K ((s.back [] os' nb').put o.dst (d.ren (tau [] s.nb))))) (hds:xs.toList.map (gops s gs).ev=ds:=by first|exact nme_ rfl|exact rfl) (hok:gopsOk s gs=true:=by first|rfl|exact cal2_ rfl|exact gok2_) (hno:ds.all D.noid=true:=by rfl):Wk (AwStepF X P o s wr nb K):=⟨awborHF gs hok ho ds Q hs hds hno fun d os' nb' h=>⟨(hk d os' nb' h).1,(hk d os' nb' h).2.out⟩⟩
theorem mn2_ {X:Ctx}{P:Program}{o:Oper}{s:St}{wr:List Nat}{nb:Nat}{x y:Operand}{ats:Array TypeId}{K:St→Prop}{k:IntKind}{m n:Int} (ho:o.op = .call { callee:=.builtin .min,args:=#[x,y],argTypes:=ats }) (h:Wk (K (s.put o.dst (.sc (.int k (if n < m then n else m)))))) (hx:s.ev x = .sc (.int k m):=by first|exact nme_ rfl|exact rfl) (hy:s.ev y = .sc (.int k n):=by first|exact nme_ rfl|exact rfl):Wk (AwStepF X P o s wr nb K):=⟨minF ho hx hy h.out⟩
end Go.Proofs.YtgoeccemfgniiaaGreat
namespace Go.Proofs.YtgoeccemfgniiaaGreat
open Go.RowKit
set_option linter.unusedVariables false
set_option linter.unusedSimpArgs false
set_option maxRecDepth 100000
set_option maxHeartbeats 4000000
theorem filesD_app (a b:List FileD):filesD a++filesD b=filesD (a++b):=by simp [filesD,flatD]
theorem flat_take_of {α:Type}{cells:α→List D}{size:Nat} (hs:∀ x,(cells x).length=size) (xs:List α) (k:Nat) (h:k≤xs.length):(flatD cells xs).take (k*size)=flatD cells (xs.take k):=by
  have hl:(flatD cells (xs.take k)).length=k*size:=by rw [flat_len hs,List.length_take,Nat.min_eq_left h]
  have e:flatD cells xs=flatD cells (xs.take k)++flatD cells (xs.drop k):=by
    unfold flatD
    rw [← List.flatMap_append,List.take_append_drop]
  rw [e,← hl,List.take_left]
theorem flat_drop_of {α:Type}{cells:α→List D}{size:Nat} (hs:∀ x,(cells x).length=size) (xs:List α) (k:Nat):(flatD cells xs).drop (k*size)=flatD cells (xs.drop k):=by
  rcases Nat.lt_or_ge xs.length k with h|h
  · rw [List.drop_of_length_le (by rw [flat_len hs];exact Nat.mul_le_mul_right _ (Nat.le_of_lt h)),List.drop_of_length_le (Nat.le_of_lt h)]
    rfl
  · have hl:(flatD cells (xs.take k)).length=k*size:=by rw [flat_len hs,List.length_take,Nat.min_eq_left h]
    have e:flatD cells xs=flatD cells (xs.take k)++flatD cells (xs.drop k):=by
      unfold flatD
      rw [← List.flatMap_append,List.take_append_drop]
    rw [e,← hl,List.drop_left]
/-- The first k files, under a name of their own. -/
theorem take_ex (fs:List FileD) (k:Nat) (h:k≤fs.length):∃ a,a=fs.take k∧a.length=k∧(filesD fs).take (k*3)=filesD a:=⟨_,rfl,by rw [List.length_take];omega,flat_take_of fileCells_len fs k h⟩
theorem drop_ex (fs:List FileD) (k:Nat):∃ b,b=fs.drop k∧b.length=fs.length - k∧((filesD fs).drop (k*3)).take ((fs.length - k)*3)=filesD b:=by
  refine ⟨_,rfl,List.length_drop,?_⟩
  rw [show (filesD fs).drop (k*3)=filesD (fs.drop k) from flat_drop_of fileCells_len fs k]
  exact List.take_of_length_le (by rw [filesD_len,List.length_drop];exact Nat.le_refl _)
theorem row_close {gs:List FileD}{n:Nat}{xs:List FileD} (e:xs=gs) (hn:n=xs.length):D.agg [.sl n (filesD xs)]=D.agg [.sl gs.length (filesD gs)]:=by subst e;subst hn;rfl
theorem filesD_set2 (fs:List FileD) (k:Nat) (v:Int) (h:k < fs.length):(filesD fs).set (k*3+2) (.sc (.int .i64 v))=filesD (fs.set k ⟨(fs.getD k default).name,(fs.getD k default).text,v⟩):=by
  have e:filesD fs=filesD (fs.take k)++(fileCells (fs.getD k default)++filesD (fs.drop (k+1))):=by
    conv=>lhs;rw [← List.take_append_drop k fs,getD_drop fs h]
    simp [filesD,flatD]
  have e2:fs.set k ⟨(fs.getD k default).name,(fs.getD k default).text,v⟩=fs.take k++(⟨(fs.getD k default).name,(fs.getD k default).text,v⟩::fs.drop (k+1)):=by
    rw [List.set_eq_take_append_cons_drop,if_pos h]
  have hl:(filesD (fs.take k)).length=k*3:=by rw [filesD_len,List.length_take,Nat.min_eq_left (by omega)]
  rw [e,e2,List.set_append_right _ _ (by omega),hl,Nat.add_sub_cancel_left]
  simp [filesD,flatD,fileCells]
theorem wr_bad {fs:List FileD}{nm tx:ByteArray} (h:¬ (diskB fs=true∧nmB nm=true∧tx.size≤20000)):wrR fs nm tx=(fs,1):=if_neg h
theorem wr_full {fs:List FileD}{nm tx:ByteArray} (h:diskB fs=true∧nmB nm=true∧tx.size≤20000) (h2:fileB fs nm < 0∧4≤fs.length):wrR fs nm tx=(fs,3):=by rw [wrR,if_pos h,if_pos h2]
theorem wr_good {fs:List FileD}{nm tx:ByteArray} (h:diskB fs=true∧nmB nm=true∧tx.size≤20000) (h2:¬ (fileB fs nm < 0∧4≤fs.length)):wrR fs nm tx=(putF ⟨nm,tx,0⟩ fs,0):=by rw [wrR,if_pos h,if_neg h2]
theorem sy_bad {fs:List FileD}{nm:ByteArray} (h:diskB fs=false):syR fs nm=(fs,1):=if_neg (by rw [h];decide)
theorem sy_none {fs:List FileD}{nm:ByteArray} (h:diskB fs=true) (h2:fileB fs nm < 0):syR fs nm=(fs,2):=by rw [syR,if_pos h,if_pos h2]
theorem sy_good {fs:List FileD}{nm:ByteArray} (h:diskB fs=true) (h2:0≤fileB fs nm):syR fs nm=(syF fs (fileB fs nm).toNat,0):=by rw [syR,if_pos h,if_neg (by omega)]
theorem mv_bad {fs:List FileD}{fr nm:ByteArray} (h:¬ (diskB fs=true∧nmB nm=true)):mvR fs fr nm=(fs,1):=if_neg h
theorem mv_none {fs:List FileD}{fr nm:ByteArray} (h:diskB fs=true∧nmB nm=true) (h2:fileB fs fr < 0):mvR fs fr nm=(fs,2):=by rw [mvR,if_pos h,if_pos h2]
theorem mv_good {fs:List FileD}{fr nm:ByteArray} (h:diskB fs=true∧nmB nm=true) (h2:0≤fileB fs fr):mvR fs fr nm=(mvF fs (fileB fs fr).toNat nm,0):=by rw [mvR,if_pos h,if_neg (by omega)]
theorem step_0 {fs:List FileD}{tx:ByteArray}{st:Int} (h:st=0):stepR fs tx st=wrR fs newNm tx:=if_pos h
theorem step_1 {fs:List FileD}{tx:ByteArray}{st:Int} (h:st=1):stepR fs tx st=syR fs newNm:=by rw [stepR,if_neg (by omega),if_pos h]
theorem step_2 {fs:List FileD}{tx:ByteArray}{st:Int} (h:st=2):stepR fs tx st=mvR fs newNm stNm:=by rw [stepR,if_neg (by omega),if_neg (by omega),if_pos h]
theorem step_x {fs:List FileD}{tx:ByteArray}{st:Int} (h0:¬ st=0) (h1:¬ st=1) (h2:¬ st=2):stepR fs tx st=(fs,12):=by rw [stepR,if_neg h0,if_neg h1,if_neg h2]
theorem till_go {tx:ByteArray}{gs:List FileD}{m i:Int}{R:List FileD × Int} (hR:stepsR tx (m - i).toNat i gs=R) (hi:i < m) (h:(stepR gs tx i).2=0):stepsR tx (m - (i+1)).toNat (i+1) (stepR gs tx i).1=R:=by
  rw [show (m - i).toNat=(m - (i+1)).toNat+1 by omega] at hR
  exact steps_go hR h
theorem till_no {tx:ByteArray}{gs:List FileD}{m i:Int}{R:List FileD × Int} (hR:stepsR tx (m - i).toNat i gs=R) (hi:i < m) (h:¬ (stepR gs tx i).2=0):stepR gs tx i=R:=by
  rw [show (m - i).toNat=(m - (i+1)).toNat+1 by omega] at hR
  exact steps_no hR h
theorem till_end {tx:ByteArray}{gs:List FileD}{m i:Int}{R:List FileD × Int} (hR:stepsR tx (m - i).toNat i gs=R) (hi:m≤i):(gs,0)=R:=by
  rw [show (m - i).toNat=0 by omega] at hR
  exact hR
theorem spec_l29Without_D (fs:List FileD) (q:Int) (hq:0≤q) (hk:q < fs.length) (hn:fs.length≤1048580):Spec Tryz.prog 323 [.agg [.sl fs.length (filesD fs)],.sc (.int .i64 q)] (fun d=>d = .agg [.sl (fs.eraseIdx q.toNat).length (filesD (fs.eraseIdx q.toNat))]):=by
  obtain ⟨k,rfl⟩:=Int.eq_ofNat_of_zero_le hq;have ek:((k:Int)).toNat=k:=(by omega);rw [ek];obtain ⟨a,ea,la,ta⟩:=take_ex fs k (by omega);obtain ⟨b,eb,lb,tb⟩:=drop_ex fs (k+1);replace ea:=Lib.hid ea;replace eb:=Lib.hid eb;have kk:((k:Int)+1).toNat=k+1:=(by omega)
  have ex0:=@filesD_app;have ex1:=@Nat.sub_zero
  refine spG_ (rs:= [.cell 4 35]) (nt:=18) Tryz.func323 rfl fun X hX=>?_
  refine nm_ ?_
  repeat' ((first|contradiction|(with_reducible exact tt_)|(refine bk_ (fun h h'=>?_) (fun h h'=>?_))|(refine and_ ?_ ?_)|(refine pln_ ?_)|(refine app_ rfl ?_)|(refine rgg_ [.frz 5] ?_;refine nm_ ?_;fail_if_success (show Wk False))|(refine rgg_ [.frz 4] ?_;refine nm_ ?_;fail_if_success (show Wk False))|(refine rgg_ [.frz 3] ?_;refine nm_ ?_;fail_if_success (show Wk False))|(refine rgg_ [.frz 6] ?_;refine nm_ ?_;fail_if_success (show Wk False))|(refine wo_ (id:=1) [1] [(1,true),(2,true),(3,true),(4,true),(6,true),(7,true),(8,true),(9,true),(10,true),(0,false),(5,false),(11,false),(12,true),(13,false)] ?_)|fail)<;>(try refine nm_ ?_))
  all_goals clear ex0 ex1
  all_goals (refine ⟨?_⟩)
  all_goals first|contradiction|(exfalso;omega)|(exact row_close (gs:=fs.eraseIdx k) (xs:=a++b) (by rw [ea.out,eb.out];exact (List.eraseIdx_eq_take_drop_succ ..).symm) (by rw [List.length_append];omega))
theorem l29Copy_H (fs:List FileD) (hn:fs.length≤1048580):SpecH Tryz.prog 71 [.agg [.sl fs.length (filesD fs)]] [] 0 (fun d os' nb'=>d = .agg [.own 0 0 fs.length]∧os' = [(0,⟨160,3,(fs).length,filesD (fs)⟩)]∧nb' = 1):=by
  refine spH_ (rs:= [.cell 2 35]) (nt:=8) Tryz.func71 rfl fun X hX=>?_
  refine nm_ ?_
  repeat' ((first|contradiction|(with_reducible exact tt_)|(refine bk_ (fun h h'=>?_) (fun h h'=>?_))|(refine and_ ?_ ?_)|(refine pln_ ?_)|(refine app_ rfl ?_)|(refine rh_ [3] ?_)|fail)<;>(try refine nm_ ?_))
  all_goals (refine ⟨?_⟩)
  all_goals first|exact ⟨rfl,rfl,rfl⟩
end Go.Proofs.YtgoeccemfgniiaaGreat
namespace Go.Proofs.YtgoeccemfgniiaaGreat
open Go.RowKit
structure JnG (k:Nat) (S:St) (N:St→Prop):Prop where
  out:∀ s gs ρ,gopsOk s gs=true→FitR k ρ (gops s gs) S→N s
theorem JnG.go {k:Nat}{S:St}{N:St→Prop} (h:JnG k S N) {s:St} (gs:List Gop) (ρ:List Nat) (hf:gopsOk s gs=true:=by first|rfl|exact cal2_ rfl|exact gok2_) (h0:FitR k ρ (gops s gs) S:=by refine ⟨⟨?_,?_,?_⟩,(by (try refine frn2_ ?_);(repeat (first|exact True.intro|(simp only [fitR_nil,fitR_none];done)|(simp only [fitR_nil,fitR_none])|(refine fitR_step (by first|rfl|exact si2_) (by first|rfl|exact si2_) ?_)))<;>fail),?_,?_,?_,?_⟩<;>(first|rfl|decide|(rw [hX];decide)|exact si2_|fail)):Wk (N s):=⟨h.out s gs ρ hf h0⟩
end Go.Proofs.YtgoeccemfgniiaaGreat
