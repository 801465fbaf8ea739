/- Fr2 (what is wanted of them). -/
import Derived.Test.YtidjjfjhmlndjaaGreatDoorVFr1
namespace Go.Proofs.YtidjjfjhmlndjaaGreatDoor
open Go.RowKit
set_option linter.unusedVariables false
set_option linter.unusedSimpArgs false
set_option maxRecDepth 100000
set_option maxHeartbeats 4000000
theorem bl_ext2 (s:ByteArray) (b i:Nat):bl (s.extract b i)=((bl s).take i).drop b:=by
  unfold bl
  rw [ByteArray.data_extract,Array.toList_extract,List.extract_eq_take_drop,List.drop_take]
/-- A text of bytes under 128. -/
structure AscT (s:ByteArray):Prop where
  sz:s.size≤400
  lo:∀ i,i < s.size→bytB s i < 128
def oneS (n:Int):ByteArray:=strOf [IntKind.u8.wrap n]
theorem one_ext {s:ByteArray}{i:Nat} (h:i < s.size):eqB (oneS (bytB s i)) (s.extract i (i+1))=true:=by
  obtain ⟨b,h1,h2⟩:=bytB_bl h
  have e:oneS (bytB s i)=s.extract i (i+1):=by
    have e1:bl (s.extract i (i+1)) = [b]:=by
      rw [bl_ext2]
      obtain ⟨h3,h4⟩:=List.getElem?_eq_some_iff.1 h1
      rw [List.take_succ_eq_append_getElem h3,h4,List.drop_append_of_le_length (by rw [List.length_take];omega),List.drop_of_length_le (by rw [List.length_take];omega)]
      rfl
    rw [← ba_bl (s.extract i (i+1)),e1,← strOf_ns]
    have hb:=b.toNat_lt
    unfold oneS
    rw [h2,wr8q (by omega)]
    rfl
  rw [e]
  exact eqS_rfl _
mutual
def szTr:TreeD→Nat
  |⟨_,_,_,_,_,cs⟩=>1+szTrs cs
def szTrs:List TreeD→Nat
  | []=>0
  |x::r=>szTr x+szTrs r
end
mutual
def dpTr:TreeD→Nat
  |⟨_,_,_,_,_,cs⟩=>dpTrs cs+1
def dpTrs:List TreeD→Nat
  | []=>0
  |x::r=>max (dpTr x) (dpTrs r)
end
theorem szTr_eq (t:TreeD):szTr t=1+szTrs t.kids:=by cases t;rw [szTr]
theorem dpTr_eq (t:TreeD):dpTr t=dpTrs t.kids+1:=by cases t;rw [dpTr]
theorem szTrs_cons (x:TreeD) (r:List TreeD):szTrs (x::r)=szTr x+szTrs r:=by rw [szTrs]
theorem szTrs_nil:szTrs []=0:=by rw [szTrs]
theorem dpTrs_cons (x:TreeD) (r:List TreeD):dpTrs (x::r)=max (dpTr x) (dpTrs r):=by rw [dpTrs]
theorem dpTrs_nil:dpTrs []=0:=by rw [dpTrs]
theorem szTrs_app:∀ a b:List TreeD,szTrs (a++b)=szTrs a+szTrs b
  | [],b=>by rw [List.nil_append,szTrs_nil,Nat.zero_add]
  |x::r,b=>by rw [List.cons_append,szTrs_cons,szTrs_cons,szTrs_app r b,Nat.add_assoc]
theorem dpTrs_app:∀ a b:List TreeD,dpTrs (a++b)=max (dpTrs a) (dpTrs b)
  | [],b=>by rw [List.nil_append,dpTrs_nil,Nat.max_eq_right (Nat.zero_le _)]
  |x::r,b=>by rw [List.cons_append,dpTrs_cons,dpTrs_cons,dpTrs_app r b,Nat.max_assoc]
theorem szTrs_take {xs:List TreeD}{k:Nat} (h:k < xs.length):szTrs (xs.take (k+1))=szTrs (xs.take k)+szTr (xs.getD k default):=by
  rw [take_snoc xs k h,szTrs_app,szTrs_cons,szTrs_nil];rfl
theorem dpTrs_take {xs:List TreeD}{k:Nat} (h:k < xs.length):dpTrs (xs.take (k+1))=max (dpTrs (xs.take k)) (dpTr (xs.getD k default)):=by
  rw [take_snoc xs k h,dpTrs_app,dpTrs_cons,dpTrs_nil,Nat.max_eq_left (Nat.zero_le (dpTr _))]
theorem szTrs_le (xs:List TreeD) (k:Nat):szTrs (xs.take k)≤szTrs xs:=by
  have h:=szTrs_app (xs.take k) (xs.drop k)
  rw [List.take_append_drop] at h
  omega
theorem dpTrs_le (xs:List TreeD) (k:Nat):dpTrs (xs.take k)≤dpTrs xs:=by
  have h:=dpTrs_app (xs.take k) (xs.drop k)
  rw [List.take_append_drop] at h
  omega
/-- What a right tree is, but for size and depth; all its texts are of plain letters. -/
inductive ShT:TreeD→Prop
  |text {s:ByteArray} (ha:AscT s):ShT (textTr s)
  |int {n:Int} (hn:intOk n):ShT (intTr n)
  |list {l:List TreeD} (hn:l.length≤300) (h:∀ x ∈ l,ShT x):ShT (listTr l)
  |map {ks:List ByteArray}{cs:List TreeD} (hn:ks.length≤300) (he:cs.length=ks.length) (ha:∀ i,i < ks.length→AscT (ks.getD i default)) (hl:∀ i,0 < i→i < ks.length→lessB (ks.getD (i - 1) default) (ks.getD i default)=true) (h:∀ x ∈ cs,ShT x):ShT (mapTr ks cs)
theorem ShT.kid {t x:TreeD} (h:ShT t) (hx:x ∈ t.kids):ShT x:=by
  cases h with
  |text _=>cases hx
  |int _=>cases hx
  |list _ h=>exact h x hx
  |map _ _ _ _ h=>exact h x hx
theorem ShT.len {t:TreeD} (h:ShT t):t.kids.length≤300:=by
  cases h with
  |text _=>exact Nat.zero_le _
  |int _=>exact Nat.zero_le _
  |list hn _=>exact hn
  |map hn he _ _ _=>exact Nat.le_trans (Nat.le_of_eq he) hn
theorem less_asym {a b:ByteArray} (h:lessB a b=true):lessB b a=false∧eqB a b=false:=by
  refine ⟨?_,?_⟩
  · cases h2:lessB b a with
    |false=>rfl
    |true=>have:=lessB_sto.tr _ _ _ h h2;rw [lessB_sto.irr] at this;cases this
  · cases h2:eqB a b with
    |false=>rfl
    |true=>rw [eqB_eq h2,lessB_sto.irr] at h;cases h
theorem runeOk_A (n:Int) (h0:0≤n) (h1:n < 128):Spec Tryz.prog 386 [.sc (.int .i64 n)] (fun d=>d = .sc (.bool true)):=by
  refine sp_ (rs:= [.tmp 2]) (nt:=10) Tryz.func386 rfl fun X hX=>?_
  refine nm_ ?_
  repeat' ((first|contradiction|(with_reducible exact tt_)|((with_reducible show Wk (AwStepF _ _ _ _ _ _ _));first|(refine cl_ rfl _ _ (l01In_D _ _ _) rfl rfl ?_;rintro _ rfl))|((with_reducible show Wk (AwStep _ _ _ _ _));first|(refine pln_ ?_))|((with_reducible show Wk (boolK _ _ _ _));first|(refine bk_ (fun h h'=>?_) (fun h h'=>?_)))|((with_reducible show Wk (_∧_));first|(refine and_ ?_ ?_))|fail)<;>(try refine nm_ ?_))
  all_goals (refine ⟨?_⟩)
  all_goals first|contradiction|(exfalso;omega)|(unfold inB;simp;omega)|(simp [inB];omega)
theorem runeText_A (n:Int) (h0:0≤n) (h1:n < 128):Spec Tryz.prog 378 [.sc (.int .i64 n)] (fun d=>d = .sc (.string (oneS n))):=by
  refine sp_ (rs:= [.tmp 2]) (nt:=65) Tryz.func378 rfl fun X hX=>?_
  refine nm_ ?_
  repeat' ((first|contradiction|(with_reducible exact tt_)|((with_reducible show Wk (AwStepF _ _ _ _ _ _ _));first|(refine cl_ rfl _ _ (runeOk_A n h0 h1) rfl rfl ?_;rintro _ rfl)|(refine byt_ rfl ?_))|((with_reducible show Wk (AwStep _ _ _ _ _));first|(refine pln_ ?_))|((with_reducible show Wk (boolK _ _ _ _));first|(refine bk_ (fun h h'=>?_) (fun h h'=>?_)))|((with_reducible show Wk (_∧_));first|(refine and_ ?_ ?_))|fail)<;>(try refine nm_ ?_))
  all_goals (refine ⟨?_⟩)
  all_goals first|contradiction|(exfalso;omega)|rfl
theorem runeAt_A (s:ByteArray) (i:Nat) (hi:i < s.size) (hs:s.size≤1048576) (hb:bytB s i < 128):Spec Tryz.prog 370 [.sc (.string s),.sc (.int .i64 (i:Int))] (fun d=>d = .tup [.sc (.int .i64 (bytB s i)),.sc (.int .i64 ((i:Int)+1))]):=by
  have hbr:=bytB_rng s i;have hex:=one_ext hi;have hex2:eqB (oneS (bytB s i)) (s.extract i ((i:Int)+1).toNat)=true:=by (rw [show ((i:Int)+1).toNat=i+1 by omega];exact hex)
  refine sp_ (rs:= [.tmp 4,.tmp 5]) (nt:=75) Tryz.func370 rfl fun X hX=>?_
  refine nm_ ?_
  repeat' ((first|contradiction|(with_reducible exact tt_)|((with_reducible show Wk (AwStepF _ _ _ _ _ _ _));first|(refine cl_ rfl _ _ (l01In_D _ _ _) rfl rfl ?_;rintro _ rfl)|(refine cl_ rfl _ _ (runeText_A (bytB s i) (by omega) hb) rfl rfl ?_;rintro _ rfl))|((with_reducible show Wk (AwStep _ _ _ _ _));first|(refine pln_ ?_))|((with_reducible show Wk (AwCode _ _ _ _ _));first|(refine wo_ (id:=24) [] [(0,true),(2,true),(3,true),(4,true),(5,true),(6,true),(7,true),(1,false),(8,true)] ?_)|(refine lpU_ 0x383 (ι:=Nat) (fun k=> [(8,.sc (.int .i64 (bytB s i))),(9,.sc (.int .i64 1))]) (fun k=>True) (fun k=>0) 0 ?_ ?_;(focus (trivial));rintro _ hN0 k hinv;(try dsimp only at hinv);skip))|((with_reducible show Wk (boolK _ _ _ _));first|(refine bk_ (fun h h'=>?_) (fun h h'=>?_)))|((with_reducible show Wk (_∧_));first|(refine and_ ?_ ?_))|((with_reducible show Wk (stepK _ _ _));first|(refine ite_ (fun hs=>?_) (fun hs=>?_)))|fail)<;>(try refine nm_ ?_))
  all_goals (refine ⟨?_⟩)
  all_goals first|contradiction|(exfalso;omega)|rfl
theorem runesOf_A (s:ByteArray) (ha:AscT s):Spec Tryz.prog 354 [.sc (.string s)] (fun d=>∃ o:List Int,d = .tup [.sl o.length (intsD o),.sc (.bool true)]):=by
  have hs:=ha.sz
  have ex0:=@ints_put
  refine spG_ (rs:= [.tmp 2,.tmp 3]) (nt:=28) Tryz.func354 rfl fun X hX=>?_
  refine nm_ ?_
  repeat' ((first|contradiction|(with_reducible exact tt_)|((with_reducible show Wk (AwStepF _ _ _ _ _ _ _));first|(refine cl_ rfl _ _ (runeAt_A s i (by omega) (by omega) (hlo (by omega))) rfl rfl ?_;rintro _ rfl)|(refine app_ rfl ?_))|((with_reducible show Wk (AwStep _ _ _ _ _));first|(refine pln_ ?_))|((with_reducible show Wk (AwCode _ _ _ _ _));first|(refine lpK_ (ι:=Nat × List Int) [] [0] 0x31 (fun ⟨i,o⟩=> [(5,.sc (.int .i64 (i:Int))),(4,.own 0 0 o.length)]) (fun ⟨i,o⟩=> [(0,⟨3,1,o.length,intsD o⟩)]) (fun ⟨i,o⟩=>i≤s.size∧o.length≤i) (fun ⟨i,o⟩=>s.size - i) (0, []) ?_ ?_;(focus (exact ⟨Nat.zero_le _,Nat.le_refl _⟩));rintro _ hN0 ⟨i,o⟩ hinv;(try dsimp only at hinv);obtain ⟨hi,hol⟩:=hinv;have hbr:=bytB_rng s i;have hlo:=fun h:i < s.size=>ha.lo i h;skip))|((with_reducible show Wk (boolK _ _ _ _));first|(refine bk_ (fun h h'=>?_) (fun h h'=>?_)))|((with_reducible show Wk (_∧_));first|(refine and_ ?_ ?_))|((with_reducible show Wk (retOkG _ _ _ _));first|(refine rgg_ [.frz 0] ?_))|(refine hN0.run ((i+1,o ++ [bytB s i])) [] [2] ?_ ?_;(focus (exact ⟨by show i+1≤s.size;omega,by rw [List.length_append];show o.length+1≤i+1;omega⟩));(focus (show s.size - (i+1) < s.size - i;omega)))|fail)<;>(try refine nm_ ?_))
  all_goals clear ex0
  all_goals (refine ⟨?_⟩)
  all_goals first|contradiction|(exfalso;omega)|(exact ⟨o,rfl⟩)
theorem utf8Ok_A (s:ByteArray) (ha:AscT s):Spec Tryz.prog 319 [.sc (.string s)] (fun d=>d = .sc (.bool true)):=by
  refine sp_ (rs:= [.tmp 2]) (nt:=11) Tryz.func319 rfl fun X hX=>?_
  refine nm_ ?_
  repeat' ((first|contradiction|(with_reducible exact tt_)|((with_reducible show Wk (AwStepF _ _ _ _ _ _ _));first|(refine cl_ rfl _ _ (runesOf_A s ha) rfl rfl ?_;rintro _ ⟨o,rfl⟩))|((with_reducible show Wk (AwStep _ _ _ _ _));first|(refine pln_ ?_))|((with_reducible show Wk (boolK _ _ _ _));first|(refine bk_ (fun h h'=>?_) (fun h h'=>?_)))|((with_reducible show Wk (_∧_));first|(refine and_ ?_ ?_))|fail)<;>(try refine nm_ ?_))
  all_goals (refine ⟨?_⟩)
  all_goals first|contradiction|(exfalso;omega)|rfl
theorem l08Text_A (s:ByteArray) (ha:AscT s):Spec Tryz.prog 252 [.sc (.string s)] (fun d=>d = .sc (.bool true)):=by
  have hs:=ha.sz
  refine sp_ (rs:= [.tmp 2]) (nt:=10) Tryz.func252 rfl fun X hX=>?_
  refine nm_ ?_
  repeat' ((first|contradiction|(with_reducible exact tt_)|((with_reducible show Wk (AwStepF _ _ _ _ _ _ _));first|(refine cl_ rfl _ _ (utf8Ok_A s ha) rfl rfl ?_;rintro _ rfl))|((with_reducible show Wk (AwStep _ _ _ _ _));first|(refine pln_ ?_))|((with_reducible show Wk (boolK _ _ _ _));first|(refine bk_ (fun h h'=>?_) (fun h h'=>?_)))|((with_reducible show Wk (_∧_));first|(refine and_ ?_ ?_))|fail)<;>(try refine nm_ ?_))
  all_goals (refine ⟨?_⟩)
  all_goals first|contradiction|(exfalso;omega)|rfl
def SzS (t:TreeD):Prop:=szTr t≤100000→Spec Tryz.prog 187 [.agg (treeC t)] (fun d=>d = .sc (.int .i64 ((szTr t):Int)))
def DpS (t:TreeD):Prop:=dpTr t≤100000→Spec Tryz.prog 186 [.agg (treeC t)] (fun d=>d = .sc (.int .i64 ((dpTr t):Int)))
theorem treeSize_step (t:TreeD) (hcl:t.kids.length≤1048576) (hb:szTr t≤100000) (ih:Hid (∀ x ∈ t.kids,SzS x)):Spec Tryz.prog 187 [.agg (treeC t)] (fun d=>d = .sc (.int .i64 ((szTr t:Nat):Int))):=by
  have he:=szTr_eq t;unfold treeC
  refine sp_ (rs:= [.tmp 2]) (nt:=21) Tryz.func187 rfl fun X hX=>?_
  refine nm_ ?_
  repeat' ((first|contradiction|(with_reducible exact tt_)|((with_reducible show Wk (AwStepF _ _ _ _ _ _ _));first|(refine cl_ rfl _ _ (ih.out (t.kids.getD i default) (getD_mem (by omega)) (by have:=htk (by omega);omega)) rfl rfl ?_;rintro _ rfl))|((with_reducible show Wk (AwStep _ _ _ _ _));first|(refine pln_ ?_))|((with_reducible show Wk (AwCode _ _ _ _ _));first|(refine lpU_ 0x1a (ι:=Nat × Int) (fun ⟨i,m⟩=> [(3,.sc (.int .i64 m)),(4,.sc (.int .i64 (i:Int)))]) (fun ⟨i,m⟩=>i≤t.kids.length∧m=1+(szTrs (t.kids.take i):Int)) (fun ⟨i,m⟩=>t.kids.length - i) (0,1) ?_ ?_;(focus (exact ⟨Nat.zero_le _,by show (1:Int)=1+((szTrs []:Nat):Int);rw [szTrs_nil];rfl⟩));rintro _ hN0 ⟨i,m⟩ hinv;(try dsimp only at hinv);obtain ⟨hi,hm⟩:=hinv;have hmb:0≤m∧m≤100000:=(by have:=szTrs_le t.kids i;omega);replace hm:=Lib.hid hm;have hle:=szTrs_le t.kids i;have hle2:=szTrs_le t.kids (i+1);have htk:=fun h:i < t.kids.length=>szTrs_take h;have hxb:i < t.kids.length→m+(szTr (t.kids.getD i default):Int)≤100000:=(by intro h;have h3:=htk h;have hm:=hm.out;omega);skip))|((with_reducible show Wk (boolK _ _ _ _));first|(refine bk_ (fun h h'=>?_) (fun h h'=>?_)))|((with_reducible show Wk (_∧_));first|(refine and_ ?_ ?_))|(refine hN0.go ((i+1,m+(szTr (t.kids.getD i default):Int))) ?_ ?_;(focus (exact ⟨by show i+1≤t.kids.length;omega,by have h3:=htk (by omega);have hm:=hm.out;show m+(szTr (t.kids.getD i default):Int)=1+(szTrs (t.kids.take (i+1)):Int);omega⟩));(focus (show t.kids.length - (i+1) < t.kids.length - i;omega)))|fail)<;>(try refine nm_ ?_))
  all_goals (refine ⟨?_⟩)
  all_goals first|contradiction|(exfalso;omega)|(refine i64E ?_;have hm:=hm.out;have e:i=t.kids.length:=(by omega);rw [e,List.take_of_length_le (Nat.le_refl _)] at hm;omega)
theorem treeDepth_step (t:TreeD) (hcl:t.kids.length≤1048576) (hb:dpTr t≤100000) (ih:Hid (∀ x ∈ t.kids,DpS x)):Spec Tryz.prog 186 [.agg (treeC t)] (fun d=>d = .sc (.int .i64 ((dpTr t:Nat):Int))):=by
  have he:=dpTr_eq t;unfold treeC
  refine sp_ (rs:= [.tmp 2]) (nt:=25) Tryz.func186 rfl fun X hX=>?_
  refine nm_ ?_
  repeat' ((first|contradiction|(with_reducible exact tt_)|((with_reducible show Wk (AwStepF _ _ _ _ _ _ _));first|(refine cl_ rfl _ _ (ih.out (t.kids.getD i default) (getD_mem (by omega)) (by have:=htk (by omega);rw [Nat.max_def] at this;split at this<;>omega)) rfl rfl ?_;rintro _ rfl))|((with_reducible show Wk (AwStep _ _ _ _ _));first|(refine pln_ ?_))|((with_reducible show Wk (AwCode _ _ _ _ _));first|(refine lpU_ 0x1a (ι:=Nat × Int) (fun ⟨i,m⟩=> [(3,.sc (.int .i64 m)),(4,.sc (.int .i64 (i:Int)))]) (fun ⟨i,m⟩=>i≤t.kids.length∧m=(dpTrs (t.kids.take i):Int)) (fun ⟨i,m⟩=>t.kids.length - i) (0,0) ?_ ?_;(focus (exact ⟨Nat.zero_le _,by show (0:Int)=((dpTrs []:Nat):Int);rw [dpTrs_nil];rfl⟩));rintro _ hN0 ⟨i,m⟩ hinv;(try dsimp only at hinv);obtain ⟨hi,hm⟩:=hinv;have hmb:0≤m∧m≤100000:=(by have:=dpTrs_le t.kids i;omega);replace hm:=Lib.hid hm;have hle:=dpTrs_le t.kids i;have hle2:=dpTrs_le t.kids (i+1);have htk:=fun h:i < t.kids.length=>dpTrs_take h;have hxb:i < t.kids.length→(dpTr (t.kids.getD i default):Int)≤100000:=(by intro h;have h3:=htk h;rw [Nat.max_def] at h3;split at h3<;>omega);skip))|((with_reducible show Wk (boolK _ _ _ _));first|(refine bk_ (fun h h'=>?_) (fun h h'=>?_)))|((with_reducible show Wk (_∧_));first|(refine and_ ?_ ?_))|(refine hN0.go ((i+1,(dpTr (t.kids.getD i default):Int))) ?_ ?_;(focus (first|(exact ⟨by show i+1≤t.kids.length;omega,by have h3:=htk (by omega);have hm:=hm.out;rw [Nat.max_def] at h3;show (dpTr (t.kids.getD i default):Int)=(dpTrs (t.kids.take (i+1)):Int);split at h3<;>omega⟩)|(exact ⟨by show i+1≤t.kids.length;omega,by have h3:=htk (by omega);have hm:=hm.out;rw [Nat.max_def] at h3;show m=(dpTrs (t.kids.take (i+1)):Int);split at h3<;>omega⟩)));(focus (show t.kids.length - (i+1) < t.kids.length - i;omega)))|(refine hN0.go ((i+1,m)) ?_ ?_;(focus (first|(exact ⟨by show i+1≤t.kids.length;omega,by have h3:=htk (by omega);have hm:=hm.out;rw [Nat.max_def] at h3;show (dpTr (t.kids.getD i default):Int)=(dpTrs (t.kids.take (i+1)):Int);split at h3<;>omega⟩)|(exact ⟨by show i+1≤t.kids.length;omega,by have h3:=htk (by omega);have hm:=hm.out;rw [Nat.max_def] at h3;show m=(dpTrs (t.kids.take (i+1)):Int);split at h3<;>omega⟩)));(focus (show t.kids.length - (i+1) < t.kids.length - i;omega)))|fail)<;>(try refine nm_ ?_))
  all_goals (refine ⟨?_⟩)
  all_goals first|contradiction|(exfalso;omega)|(refine i64E ?_;have hm:=hm.out;have e:i=t.kids.length:=(by omega);rw [e,List.take_of_length_le (Nat.le_refl _)] at hm;omega)
theorem size_all:∀ t:TreeD,ShT t→SzS t:=TreeD.ind fun t ih h hb=>treeSize_step t (Nat.le_trans h.len (by decide)) hb (Lib.hid fun x hx=>ih x hx (h.kid hx))
theorem depth_all:∀ t:TreeD,ShT t→DpS t:=TreeD.ind fun t ih h hb=>treeDepth_step t (Nat.le_trans h.len (by decide)) hb (Lib.hid fun x hx=>ih x hx (h.kid hx))
def ShS (t:TreeD):Prop:=Spec Tryz.prog 188 [.agg (treeC t)] (fun d=>d = .sc (.bool true))
theorem asc_0:AscT ⟨#[]⟩:=⟨Nat.zero_le _,fun i h=>absurd h (Nat.not_lt_zero _)⟩
theorem shape_text (s:ByteArray) (ha:AscT s):Spec Tryz.prog 188 [.agg [.sc (.int .i64 4),.sc (.bool false),.sc (.int .i64 0),.sc (.string s),.sl 0 [],.sl 0 []]] (fun d=>d = .sc (.bool true)):=by
  refine sp_ (rs:= [.tmp 2]) (nt:=124) Tryz.func188 rfl fun X hX=>?_
  refine nm_ ?_
  repeat' ((first|contradiction|(with_reducible exact tt_)|((with_reducible show Wk (AwStepF _ _ _ _ _ _ _));first|(refine cl_ rfl _ _ (l01In_D _ _ _) rfl rfl ?_;rintro _ rfl)|(refine cl_ rfl _ _ (l08Text_A s ha) rfl rfl ?_;rintro _ rfl))|((with_reducible show Wk (AwStep _ _ _ _ _));first|(refine pln_ ?_))|((with_reducible show Wk (AwCode _ _ _ _ _));first|(refine wtr_ (id:=8) [] (.early 0 (.early 1 (.early 2 (.early 3 (.early 4 (.one 5 (.early 6 (.early 7 (.early 8 (.early 9 (.early 10 (.early 11 (.early 12 (.early 13 (.early 14 (.early 15 (.early 17 (.early 18 (.early 19 (.early 20 (.two 16 (.one 21 (.early 22 (.early 23 (.early 24 .done)))) 21 (.one 16 (.early 22 (.early 23 (.early 24 .done))))))))))))))))))))))))) ?_)|((with_reducible show Wk (AwCode _ _ (.loop (.seq (.seq (.region 11 _ _) _) _)) _ _));refine lpU_ 0x12 (ι:=Nat) (fun k=> [(4,.sc (.int .i64 (k:Int)))]) (fun k=>k=0) (fun k=>0) 0 ?_ ?_;(focus (rfl));rintro _ hN1 k hinv;(try dsimp only at hinv);have hk:k=0:=hinv;skip)|((with_reducible show Wk (AwCode _ _ (.loop (.seq (.seq (.region 6 _ _) _) _)) _ _));refine lpU_ 0xa (ι:=Nat) (fun k=> [(3,.sc (.int .i64 (k:Int)))]) (fun k=>k=0) (fun k=>0) 0 ?_ ?_;(focus (rfl));rintro _ hN0 k hinv;(try dsimp only at hinv);have hk:k=0:=hinv;skip))|((with_reducible show Wk (boolK _ _ _ _));first|(refine bk_ (fun h h'=>?_) (fun h h'=>?_)))|((with_reducible show Wk (_∧_));first|(refine and_ ?_ ?_))|(refine hN1.go (k) ?_ ?_;(focus (exact hinv));(focus (omega)))|(refine hN0.go (k) ?_ ?_;(focus (exact hinv));(focus (omega)))|fail)<;>(try refine nm_ ?_))
  all_goals (refine ⟨?_⟩)
  all_goals first|contradiction|(exfalso;omega)|rfl|(exfalso;simp_all;done)
theorem shape_int (n:Int):Spec Tryz.prog 188 [.agg [.sc (.int .i64 3),.sc (.bool false),.sc (.int .i64 n),.sc (.string ⟨#[]⟩),.sl 0 [],.sl 0 []]] (fun d=>d = .sc (.bool true)):=by
  refine sp_ (rs:= [.tmp 2]) (nt:=124) Tryz.func188 rfl fun X hX=>?_
  refine nm_ ?_
  repeat' ((first|contradiction|(with_reducible exact tt_)|((with_reducible show Wk (AwStepF _ _ _ _ _ _ _));first|(refine cl_ rfl _ _ (l01In_D _ _ _) rfl rfl ?_;rintro _ rfl)|(refine cl_ rfl _ _ (l08Text_A _ asc_0) rfl rfl ?_;rintro _ rfl))|((with_reducible show Wk (AwStep _ _ _ _ _));first|(refine pln_ ?_))|((with_reducible show Wk (AwCode _ _ _ _ _));first|(refine wtr_ (id:=8) [] (.early 0 (.early 1 (.early 2 (.early 3 (.early 4 (.one 5 (.early 6 (.early 7 (.early 8 (.early 9 (.early 10 (.early 11 (.early 12 (.early 13 (.early 14 (.early 15 (.early 17 (.early 18 (.early 19 (.early 20 (.two 16 (.one 21 (.early 22 (.early 23 (.early 24 .done)))) 21 (.one 16 (.early 22 (.early 23 (.early 24 .done))))))))))))))))))))))))) ?_)|((with_reducible show Wk (AwCode _ _ (.loop (.seq (.seq (.region 11 _ _) _) _)) _ _));refine lpU_ 0x12 (ι:=Nat) (fun k=> [(4,.sc (.int .i64 (k:Int)))]) (fun k=>k=0) (fun k=>0) 0 ?_ ?_;(focus (rfl));rintro _ hN1 k hinv;(try dsimp only at hinv);have hk:k=0:=hinv;skip)|((with_reducible show Wk (AwCode _ _ (.loop (.seq (.seq (.region 6 _ _) _) _)) _ _));refine lpU_ 0xa (ι:=Nat) (fun k=> [(3,.sc (.int .i64 (k:Int)))]) (fun k=>k=0) (fun k=>0) 0 ?_ ?_;(focus (rfl));rintro _ hN0 k hinv;(try dsimp only at hinv);have hk:k=0:=hinv;skip))|((with_reducible show Wk (boolK _ _ _ _));first|(refine bk_ (fun h h'=>?_) (fun h h'=>?_)))|((with_reducible show Wk (_∧_));first|(refine and_ ?_ ?_))|(refine hN1.go (k) ?_ ?_;(focus (exact hinv));(focus (omega)))|(refine hN0.go (k) ?_ ?_;(focus (exact hinv));(focus (omega)))|fail)<;>(try refine nm_ ?_))
  all_goals (refine ⟨?_⟩)
  all_goals first|contradiction|(exfalso;omega)|rfl|(exfalso;simp_all;done)
theorem shape_list (l:List TreeD) (hn:l.length≤300) (ih:Hid (∀ x ∈ l,ShS x)):Spec Tryz.prog 188 [.agg [.sc (.int .i64 5),.sc (.bool false),.sc (.int .i64 0),.sc (.string ⟨#[]⟩),.sl 0 [],.sl l.length (treesD l)]] (fun d=>d = .sc (.bool true)):=by
  refine sp_ (rs:= [.tmp 2]) (nt:=124) Tryz.func188 rfl fun X hX=>?_
  refine nm_ ?_
  repeat' ((first|contradiction|(with_reducible exact tt_)|((with_reducible show Wk (AwStepF _ _ _ _ _ _ _));first|(refine cl_ rfl _ _ (l01In_D _ _ _) rfl rfl ?_;rintro _ rfl)|(refine cl_ rfl _ _ (l08Text_A _ asc_0) rfl rfl ?_;rintro _ rfl)|(refine cl_ rfl _ _ (ih.out (l.getD j default) (getD_mem (by omega))) rfl rfl ?_;rintro _ rfl))|((with_reducible show Wk (AwStep _ _ _ _ _));first|(refine pln_ ?_))|((with_reducible show Wk (AwCode _ _ _ _ _));first|(refine wtr_ (id:=8) [] (.early 0 (.early 1 (.early 2 (.early 3 (.early 4 (.one 5 (.early 6 (.early 7 (.early 8 (.early 9 (.early 10 (.early 11 (.early 12 (.early 13 (.early 14 (.early 15 (.early 17 (.early 18 (.early 19 (.early 20 (.two 16 (.one 21 (.early 22 (.early 23 (.early 24 .done)))) 21 (.one 16 (.early 22 (.early 23 (.early 24 .done))))))))))))))))))))))))) ?_)|((with_reducible show Wk (AwCode _ _ (.loop (.seq (.seq (.region 11 _ _) _) _)) _ _));refine lpU_ 0x12 (ι:=Nat) (fun j=> [(4,.sc (.int .i64 (j:Int)))]) (fun j=>j≤l.length) (fun j=>l.length - j) 0 ?_ ?_;(focus (exact Nat.zero_le _));rintro _ hN1 j hinv;(try dsimp only at hinv);have hj:j≤l.length:=hinv;skip)|((with_reducible show Wk (AwCode _ _ (.loop (.seq (.seq (.region 6 _ _) _) _)) _ _));refine lpU_ 0xa (ι:=Nat) (fun k=> [(3,.sc (.int .i64 (k:Int)))]) (fun k=>k=0) (fun k=>0) 0 ?_ ?_;(focus (rfl));rintro _ hN0 k hinv;(try dsimp only at hinv);have hk:k=0:=hinv;skip))|((with_reducible show Wk (boolK _ _ _ _));first|(refine bk_ (fun h h'=>?_) (fun h h'=>?_)))|((with_reducible show Wk (_∧_));first|(refine and_ ?_ ?_))|(refine hN1.go (j+1) ?_ ?_;(focus (show j+1≤l.length;omega));(focus (show l.length - (j+1) < l.length - j;omega)))|(refine hN0.go (k) ?_ ?_;(focus (exact hinv));(focus (omega)))|fail)<;>(try refine nm_ ?_))
  all_goals (refine ⟨?_⟩)
  all_goals first|contradiction|(exfalso;omega)|rfl|(exfalso;simp_all;done)
theorem shape_map (ks:List ByteArray) (cs:List TreeD) (hn:ks.length≤300) (he:cs.length=ks.length) (hka:Hid (∀ i,i < ks.length→AscT (ks.getD i default))) (hkl:Hid (∀ i,0 < i→i < ks.length→lessB (ks.getD (i - 1) default) (ks.getD i default)=true)) (ih:Hid (∀ x ∈ cs,ShS x)):Spec Tryz.prog 188 [.agg [.sc (.int .i64 6),.sc (.bool false),.sc (.int .i64 0),.sc (.string ⟨#[]⟩),.sl ks.length (strsD ks),.sl cs.length (treesD cs)]] (fun d=>d = .sc (.bool true)):=by
  refine sp_ (rs:= [.tmp 2]) (nt:=124) Tryz.func188 rfl fun X hX=>?_
  refine nm_ ?_
  repeat' ((first|contradiction|(with_reducible exact tt_)|((with_reducible show Wk (AwStepF _ _ _ _ _ _ _));first|(refine cl_ rfl _ _ (l01In_D _ _ _) rfl rfl ?_;rintro _ rfl)|(refine cl_ rfl _ _ (l08Text_A _ asc_0) rfl rfl ?_;rintro _ rfl)|(refine cl_ rfl _ _ (l08Text_A (ks.getD k default) (hx (by omega))) rfl rfl ?_;rintro _ rfl)|(refine cl_ rfl _ _ (ih.out (cs.getD j default) (getD_mem (by omega))) rfl rfl ?_;rintro _ rfl))|((with_reducible show Wk (AwStep _ _ _ _ _));first|(refine pln_ ?_))|((with_reducible show Wk (AwCode _ _ _ _ _));first|(refine wtr_ (id:=8) [] (.early 0 (.early 1 (.early 2 (.early 3 (.early 4 (.one 5 (.early 6 (.early 7 (.early 8 (.early 9 (.early 10 (.early 11 (.early 12 (.early 13 (.early 14 (.early 15 (.early 17 (.early 18 (.early 19 (.early 20 (.two 16 (.one 21 (.early 22 (.early 23 (.early 24 .done)))) 21 (.one 16 (.early 22 (.early 23 (.early 24 .done))))))))))))))))))))))))) ?_)|((with_reducible show Wk (AwCode _ _ (.loop (.seq (.seq (.region 11 _ _) _) _)) _ _));refine lpU_ 0x12 (ι:=Nat) (fun j=> [(4,.sc (.int .i64 (j:Int)))]) (fun j=>j≤cs.length) (fun j=>cs.length - j) 0 ?_ ?_;(focus (exact Nat.zero_le _));rintro _ hN1 j hinv;(try dsimp only at hinv);have hj:j≤cs.length:=hinv;skip)|((with_reducible show Wk (AwCode _ _ (.loop (.seq (.seq (.region 6 _ _) _) _)) _ _));refine lpU_ 0xa (ι:=Nat) (fun k=> [(3,.sc (.int .i64 (k:Int)))]) (fun k=>k≤ks.length) (fun k=>ks.length - k) 0 ?_ ?_;(focus (exact Nat.zero_le _));rintro _ hN0 k hinv;(try dsimp only at hinv);have hk:k≤ks.length:=hinv;have hx:=fun h:k < ks.length=>hka.out k h;have hl2:0 < k→k < ks.length→lessB (ks.getD ((k:Int) - 1).toNat default) (ks.getD k default)=true:=(by intro h h2;rw [show ((k:Int) - 1).toNat=k - 1 by omega];exact hkl.out k h h2);skip))|((with_reducible show Wk (boolK _ _ _ _));first|(refine bk_ (fun h h'=>?_) (fun h h'=>?_)))|((with_reducible show Wk (_∧_));first|(refine and_ ?_ ?_))|(refine hN1.go (j+1) ?_ ?_;(focus (show j+1≤cs.length;omega));(focus (show cs.length - (j+1) < cs.length - j;omega)))|(refine hN0.go (k+1) ?_ ?_;(focus (show k+1≤ks.length;omega));(focus (show ks.length - (k+1) < ks.length - k;omega)))|fail)<;>(try refine nm_ ?_))
  all_goals (refine ⟨?_⟩)
  all_goals first|contradiction|(exfalso;omega)|rfl|(exfalso;have:=hl2 (by omega) (by omega);simp_all;done)|(exfalso;simp_all;done)
theorem shape_all {t:TreeD} (h:ShT t):ShS t:=by
  induction h with
  |text ha=>exact shape_text _ ha
  |@int n _=>exact shape_int n
  |list hn h ih=>exact shape_list _ hn (Lib.hid ih)
  |map hn he ha hl h ih=>exact shape_map _ _ hn he (Lib.hid ha) (Lib.hid hl) (Lib.hid ih)
theorem treeOk_K (t:TreeD) (hs:ShT t) (hd:dpTr t≤8) (hz:szTr t≤300):Spec Tryz.prog 95 [.agg (treeC t)] (fun d=>d = .sc (.bool true)):=by
  refine sp_ (rs:= [.tmp 2]) (nt:=15) Tryz.func95 rfl fun X hX=>?_
  refine nm_ ?_
  repeat' ((first|contradiction|(with_reducible exact tt_)|((with_reducible show Wk (AwStepF _ _ _ _ _ _ _));first|(refine cl_ rfl _ _ (depth_all t hs (by omega)) rfl rfl ?_;rintro _ rfl)|(refine cl_ rfl _ _ (size_all t hs (by omega)) rfl rfl ?_;rintro _ rfl)|(refine cl_ rfl _ _ (shape_all hs) rfl rfl ?_;rintro _ rfl))|((with_reducible show Wk (AwStep _ _ _ _ _));first|(refine pln_ ?_))|((with_reducible show Wk (boolK _ _ _ _));first|(refine bk_ (fun h h'=>?_) (fun h h'=>?_)))|((with_reducible show Wk (_∧_));first|(refine and_ ?_ ?_))|fail)<;>(try refine nm_ ?_))
  all_goals (refine ⟨?_⟩)
  all_goals first|contradiction|(exfalso;omega)|rfl
theorem noPod_0 :Spec Tryz.prog 179 [.agg [.sc (.string ⟨#[]⟩),.sc (.slice none 0 0),.sc (.int .i64 0),.sc (.int .i64 0),.sc (.int .i64 0),.sc (.slice none 0 0),.sc (.slice none 0 0)]] (fun d=>d = .sc (.bool true)):=by
  refine sp_ (rs:= [.tmp 2]) (nt:=39) Tryz.func179 rfl fun X hX=>?_
  refine nm_ ?_
  repeat' ((first|contradiction|(with_reducible exact tt_)|((with_reducible show Wk (AwStep _ _ _ _ _));first|(refine pln_ ?_))|((with_reducible show Wk (boolK _ _ _ _));first|(refine bk_ (fun h h'=>?_) (fun h h'=>?_)))|((with_reducible show Wk (_∧_));first|(refine and_ ?_ ?_))|fail)<;>(try refine nm_ ?_))
  all_goals (refine ⟨?_⟩)
  all_goals first|contradiction|(exfalso;omega)|rfl
theorem noHost_0 :Spec Tryz.prog 177 [.agg [.sc (.string ⟨#[]⟩),.sc (.slice none 0 0),.sc (.int .i64 0),.sc (.int .i64 0),.sc (.int .i64 0),.sc (.slice none 0 0)]] (fun d=>d = .sc (.bool true)):=by
  refine sp_ (rs:= [.tmp 2]) (nt:=33) Tryz.func177 rfl fun X hX=>?_
  refine nm_ ?_
  repeat' ((first|contradiction|(with_reducible exact tt_)|((with_reducible show Wk (AwStep _ _ _ _ _));first|(refine pln_ ?_))|((with_reducible show Wk (boolK _ _ _ _));first|(refine bk_ (fun h h'=>?_) (fun h h'=>?_)))|((with_reducible show Wk (_∧_));first|(refine and_ ?_ ?_))|fail)<;>(try refine nm_ ?_))
  all_goals (refine ⟨?_⟩)
  all_goals first|contradiction|(exfalso;omega)|rfl
theorem manOk_P (p:PodD) (hb:podB p=true):Spec Tryz.prog 92 [.agg [.sc (.int .i64 1),.sc (.string p.name),.sl p.labels.length (labelsD p.labels),.sc (.int .i64 p.cpu),.sc (.int .i64 p.mem),.sc (.int .i64 p.rank),.sl p.needs.length (needsD p.needs),.sl p.tolers.length (tolersD p.tolers),.sc (.string ⟨#[]⟩),.sc (.slice none 0 0),.sc (.int .i64 0),.sc (.int .i64 0),.sc (.int .i64 0),.sc (.slice none 0 0)]] (fun d=>d = .sc (.bool true)):=by
  have ex0:=@podCells.eq_1
  refine sp_ (rs:= [.tmp 2]) (nt:=31) Tryz.func92 rfl fun X hX=>?_
  refine nm_ ?_
  repeat' ((first|contradiction|(with_reducible exact tt_)|((with_reducible show Wk (AwStepF _ _ _ _ _ _ _));first|(refine cl_ rfl _ _ (spec_PodOk_D p) rfl rfl ?_;rintro _ rfl;(rw [hb]))|(refine cl_ rfl _ _ (noHost_0) rfl rfl ?_;rintro _ rfl)|(refine cl_ rfl _ _ (noPod_0) rfl rfl ?_;rintro _ rfl))|((with_reducible show Wk (AwStep _ _ _ _ _));first|(refine pln_ ?_))|((with_reducible show Wk (boolK _ _ _ _));first|(refine bk_ (fun h h'=>?_) (fun h h'=>?_)))|((with_reducible show Wk (_∧_));first|(refine and_ ?_ ?_))|fail)<;>(try refine nm_ ?_))
  all_goals clear ex0
  all_goals (refine ⟨?_⟩)
  all_goals first|contradiction|(exfalso;omega)|rfl
theorem manOk_H (x:HostD) (hb:hostB x=true):Spec Tryz.prog 92 [.agg [.sc (.int .i64 2),.sc (.string ⟨#[]⟩),.sc (.slice none 0 0),.sc (.int .i64 0),.sc (.int .i64 0),.sc (.int .i64 0),.sc (.slice none 0 0),.sc (.slice none 0 0),.sc (.string x.name),.sl x.labels.length (labelsD x.labels),.sc (.int .i64 x.cpu),.sc (.int .i64 x.mem),.sc (.int .i64 x.slots),.sl x.taints.length (taintsD x.taints)]] (fun d=>d = .sc (.bool true)):=by
  have ex0:=@hostCells.eq_1
  refine sp_ (rs:= [.tmp 2]) (nt:=31) Tryz.func92 rfl fun X hX=>?_
  refine nm_ ?_
  repeat' ((first|contradiction|(with_reducible exact tt_)|((with_reducible show Wk (AwStepF _ _ _ _ _ _ _));first|(refine cl_ rfl _ _ (noHost_0) rfl rfl ?_;rintro _ rfl)|(refine cl_ rfl _ _ (spec_HostOk_D x) rfl rfl ?_;rintro _ rfl;(rw [hb]))|(refine cl_ rfl _ _ (noPod_0) rfl rfl ?_;rintro _ rfl))|((with_reducible show Wk (AwStep _ _ _ _ _));first|(refine pln_ ?_))|((with_reducible show Wk (boolK _ _ _ _));first|(refine bk_ (fun h h'=>?_) (fun h h'=>?_)))|((with_reducible show Wk (_∧_));first|(refine and_ ?_ ?_))|fail)<;>(try refine nm_ ?_))
  all_goals clear ex0
  all_goals (refine ⟨?_⟩)
  all_goals first|contradiction|(exfalso;omega)|rfl
theorem manTree_P (p:PodD) (hb:podB p=true) (hc1:p.cpu≤9223372036854775807) (hm1:p.mem≤9223372036854775807):Spec Tryz.prog 37 [.agg [.sc (.int .i64 1),.sc (.string p.name),.sl p.labels.length (labelsD p.labels),.sc (.int .i64 p.cpu),.sc (.int .i64 p.mem),.sc (.int .i64 p.rank),.sl p.needs.length (needsD p.needs),.sl p.tolers.length (tolersD p.tolers),.sc (.string ⟨#[]⟩),.sc (.slice none 0 0),.sc (.int .i64 0),.sc (.int .i64 0),.sc (.int .i64 0),.sc (.slice none 0 0)]] (fun d=>d = .agg (treeC (podTr p))):=by
  have ex0:=@podCells.eq_1
  refine sp_ (rs:= [.cell 2 67]) (nt:=16) Tryz.func37 rfl fun X hX=>?_
  refine nm_ ?_
  repeat' ((first|contradiction|(with_reducible exact tt_)|((with_reducible show Wk (AwStepF _ _ _ _ _ _ _));first|(refine cl_ rfl _ _ (manOk_P p hb) rfl rfl ?_;rintro _ rfl)|(refine cl_ rfl _ _ (podTree_K p hb hc1 hm1) rfl rfl ?_;rintro _ rfl))|((with_reducible show Wk (AwStep _ _ _ _ _));first|(refine pln_ ?_))|((with_reducible show Wk (boolK _ _ _ _));first|(refine bk_ (fun h h'=>?_) (fun h h'=>?_)))|((with_reducible show Wk (_∧_));first|(refine and_ ?_ ?_))|fail)<;>(try refine nm_ ?_))
  all_goals clear ex0
  all_goals (refine ⟨?_⟩)
  all_goals first|contradiction|(exfalso;omega)|rfl
theorem manTree_H (x:HostD) (hb:hostB x=true) (hc1:x.cpu≤9223372036854775807) (hm1:x.mem≤9223372036854775807):Spec Tryz.prog 37 [.agg [.sc (.int .i64 2),.sc (.string ⟨#[]⟩),.sc (.slice none 0 0),.sc (.int .i64 0),.sc (.int .i64 0),.sc (.int .i64 0),.sc (.slice none 0 0),.sc (.slice none 0 0),.sc (.string x.name),.sl x.labels.length (labelsD x.labels),.sc (.int .i64 x.cpu),.sc (.int .i64 x.mem),.sc (.int .i64 x.slots),.sl x.taints.length (taintsD x.taints)]] (fun d=>d = .agg (treeC (hostTr x))):=by
  have ex0:=@hostCells.eq_1
  refine sp_ (rs:= [.cell 2 67]) (nt:=16) Tryz.func37 rfl fun X hX=>?_
  refine nm_ ?_
  repeat' ((first|contradiction|(with_reducible exact tt_)|((with_reducible show Wk (AwStepF _ _ _ _ _ _ _));first|(refine cl_ rfl _ _ (manOk_H x hb) rfl rfl ?_;rintro _ rfl)|(refine cl_ rfl _ _ (hostTree_K x hb hc1 hm1) rfl rfl ?_;rintro _ rfl))|((with_reducible show Wk (AwStep _ _ _ _ _));first|(refine pln_ ?_))|((with_reducible show Wk (boolK _ _ _ _));first|(refine bk_ (fun h h'=>?_) (fun h h'=>?_)))|((with_reducible show Wk (_∧_));first|(refine and_ ?_ ?_))|fail)<;>(try refine nm_ ?_))
  all_goals clear ex0
  all_goals (refine ⟨?_⟩)
  all_goals first|contradiction|(exfalso;omega)|rfl
theorem treeOk_M (ks:List ByteArray) (cs:List TreeD) {n m:Nat} (hn:ks.length=n) (hm:cs.length=m) (hs:ShT (mapTr ks cs)) (hd:dpTr (mapTr ks cs)≤8) (hz:szTr (mapTr ks cs)≤300):Spec Tryz.prog 95 [.agg [.sc (.int .i64 6),.sc (.bool false),.sc (.int .i64 0),.sc (.string ⟨#[]⟩),.sl n (strsD ks),.sl m (treesD cs)]] (fun d=>d = .sc (.bool true)):=by
  subst hn
  subst hm
  exact treeOk_K (mapTr ks cs) hs hd hz
theorem putKid_K (ks:List ByteArray) (cs:List TreeD) (k:ByteArray) (c:TreeD) (hc:cs.length=ks.length) (hl:Hid (kLt ks k=true)) (hf:TFine c) (hfs:Hid (∀ x ∈ cs,TFine x)) (h1:ShT (mapTr ks cs)) (h2:dpTr (mapTr ks cs)≤8) (h3:szTr (mapTr ks cs)≤300) (g1:ShT (mapTr (ks ++ [k]) (cs ++ [c]))) (g2:dpTr (mapTr (ks ++ [k]) (cs ++ [c]))≤8) (g3:szTr (mapTr (ks ++ [k]) (cs ++ [c]))≤300):Spec Tryz.prog 38 [.agg [.sc (.int .i64 6),.sc (.bool false),.sc (.int .i64 0),.sc (.string ⟨#[]⟩),.sl ks.length (strsD ks),.sl cs.length (treesD cs)],.sc (.string k),.agg (treeC c)] (fun d=>d = .tup [.agg (treeC (mapTr (ks ++ [k]) (cs ++ [c]))),.sc (.bool true)]):=by
  have hkn:=h1.len;have hkn2:cs.length≤300:=hkn
  have ex0:=@treeC.eq_1;have ex1:=@mapTr_k;have ex2:=@mapTr_c;have ex3:=@mapTr_i;have ex4:=@mapTr_f;have ex5:=@mapTr_n;have ex6:=@mapTr_t
  refine sp_ (rs:= [.cell 6 67,.tmp 7]) (nt:=102) Tryz.func38 rfl fun X hX=>?_
  refine nm_ ?_
  repeat' ((first|contradiction|(with_reducible exact tt_)|((with_reducible show Wk (AwStepF _ _ _ _ _ _ _));first|(refine cl_ rfl _ _ (treeOk_M ks cs rfl hc h1 h2 h3) rfl rfl ?_;rintro _ rfl)|(refine cl_ rfl _ _ (l08Copy_X (cs.getD i default) (hfs.out _ (getD_mem (by omega)))) rfl rfl ?_;rintro _ rfl)|(refine cl_ rfl _ _ (l08Copy_X c hf) rfl rfl ?_;rintro _ rfl)|(refine app_ rfl ?_)|(refine afz_ [7,9] ?_;refine nm_ ?_;refine cl_ rfl _ _ (treeOk_M (us ++ [k]) (ws ++ [c]) (by rw [List.length_append,hul];rfl) (by rw [List.length_append,hwl];rfl) (by rw [hU.out,List.take_of_length_le (show ks.length≤i by omega),hW.out,List.take_of_length_le (show cs.length≤i by omega)];exact g1) (by rw [hU.out,List.take_of_length_le (show ks.length≤i by omega),hW.out,List.take_of_length_le (show cs.length≤i by omega)];exact g2) (by rw [hU.out,List.take_of_length_le (show ks.length≤i by omega),hW.out,List.take_of_length_le (show cs.length≤i by omega)];exact g3)) rfl rfl ?_;rintro _ rfl))|((with_reducible show Wk (AwStep _ _ _ _ _));first|(refine pln_ ?_))|((with_reducible show Wk (AwCode _ _ _ _ _));first|(refine wtr_ (id:=10) [3,5] (.early 0 (.early 2 (.two 1 (.one 3 (.one 4 (.one 5 (.early 6 (.one 7 .done))))) 3 (.two 1 (.one 4 (.one 5 (.early 6 (.one 7 .done)))) 4 (.one 1 (.one 5 (.early 6 (.one 7 .done)))))))) ?_)|(refine wtr_ (id:=13) [3,4] (.early 0 (.early 2 (.early 3 (.early 4 (.early 5 (.early 6 (.two 1 (.one 7 (.one 8 (.early 9 (.one 10 .done)))) 7 (.one 1 (.one 8 (.early 9 (.one 10 .done))))))))))) ?_)|(refine wtr_ (id:=14) [3,5] (.early 0 (.early 2 (.early 3 (.early 4 (.early 5 (.early 6 (.two 1 (.one 7 (.one 8 (.one 9 (.early 10 (.one 11 .done))))) 7 (.two 1 (.one 8 (.one 9 (.early 10 (.one 11 .done)))) 8 (.one 1 (.one 9 (.early 10 (.one 11 .done)))))))))))) ?_)|(refine wtr_ (id:=17) [3,5] (.early 0 (.early 2 (.two 1 (.one 3 (.one 4 (.one 5 (.early 6 (.one 7 .done))))) 3 (.two 1 (.one 4 (.one 5 (.early 6 (.one 7 .done)))) 4 (.one 1 (.one 5 (.early 6 (.one 7 .done)))))))) ?_)|(refine nilC_ 3 4 9 1 (by simp [nilAt,St.ob,cellOb,List.lookup_cons]) ?_;refine nm_ ?_;refine nilC_ 3 5 67 6 (by simp [nilAt,St.ob,cellOb,List.lookup_cons]) ?_;refine nm_ ?_;refine lpK_ (ι:=Nat × List ByteArray × List TreeD) [] [0,1,2,3,4,5] 0x76a (fun ⟨i,us,ws⟩=> [(9,.sc (.bool false)),(10,.sc (.int .i64 (i:Int)))]) (fun ⟨i,us,ws⟩=> [(3,⟨67,6,1, [.sc (.int .i64 6),.sc (.bool false),.sc (.int .i64 0),.sc (.string ⟨#[]⟩),.own 4 0 us.length,.own 5 0 ws.length]⟩),(4,⟨9,1,us.length,strsD us⟩),(5,⟨67,6,ws.length,treesD ws⟩)]) (fun ⟨i,us,ws⟩=>i≤ks.length∧us=ks.take i∧ws=cs.take i) (fun ⟨i,us,ws⟩=>ks.length - i) (0, [], []) ?_ ?_;(focus (exact ⟨Nat.zero_le _,rfl,rfl⟩));rintro _ hN0 ⟨i,us,ws⟩ hinv;(try dsimp only at hinv);obtain ⟨hi,hU,hW⟩:=hinv;have hul:us.length=i:=(by rw [hU,List.length_take];omega);have hwl:ws.length=i:=(by rw [hW,List.length_take];omega);replace hU:=Lib.hid hU;replace hW:=Lib.hid hW;have hlt:=fun h:i < ks.length=>kLt_at hl.out h;skip))|((with_reducible show Wk (boolK _ _ _ _));first|(refine bk_ (fun h h'=>?_) (fun h h'=>?_)))|((with_reducible show Wk (_∧_));first|(refine and_ ?_ ?_))|(refine hN0.run ((i+1,us ++ [(ks.getD i default)],ws ++ [(cs.getD i default)])) [] [0,1,2,3,7,9] ?_ ?_;(focus (exact ⟨by show i+1≤ks.length;omega,by rw [hU.out];exact (take_snoc ks i (by omega)).symm,by rw [hW.out];exact (take_snoc cs i (by omega)).symm⟩));(focus (show ks.length - (i+1) < ks.length - i;omega)))|fail)<;>(try refine nm_ ?_))
  all_goals clear ex0 ex1 ex2 ex3 ex4 ex5 ex6
  all_goals (refine ⟨?_⟩)
  all_goals first|contradiction|(exfalso;omega)|(exfalso;have q1:=hlt (by omega);have q2:=(less_asym q1).2;simp_all;done)|(have e1:=hU.out;rw [List.take_of_length_le (show ks.length≤i by omega)] at e1;have e2:=hW.out;rw [List.take_of_length_le (show cs.length≤i by omega)] at e2;have ei:i=ks.length:=(by omega);rw [e1,e2,ei];first|done|rfl|(rw [mapTr_d _ _ (by simp [hc])];simp;done)|(simp [hc];done))
end Go.Proofs.YtidjjfjhmlndjaaGreatDoor
