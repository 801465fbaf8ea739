/- Nt1 (what is wanted of them). -/
import Derived.Test.YtidjjfjhmlndjaaGreatDoorVNe1
import Derived.Test.YtidjjfjhmlndjaaGreatDoorVCl8
import Derived.Test.YtidjjfjhmlndjaaGreatDoorVCl9
import Derived.Test.YtidjjfjhmlndjaaGreatDoorVCl10
import Derived.Test.YtidjjfjhmlndjaaGreatDoorVMk2
namespace Go.Proofs.YtidjjfjhmlndjaaGreatDoor
open Go.RowKit
set_option linter.unusedVariables false
set_option linter.unusedSimpArgs false
set_option maxRecDepth 100000
set_option maxHeartbeats 4000000
mutual
def treeN:TreeD→Nat
  |⟨_,_,_,_,_,cs⟩=>1+treesN cs
def treesN:List TreeD→Nat
  | []=>0
  |x::r=>treeN x+treesN r
end
theorem treeN_eq (t:TreeD):treeN t=1+treesN t.kids:=by cases t;rw [treeN]
theorem treesN_cons (x:TreeD) (r:List TreeD):treesN (x::r)=treeN x+treesN r:=by rw [treesN]
theorem treesN_nil:treesN []=0:=by rw [treesN]
theorem treesN_app:∀ a b:List TreeD,treesN (a++b)=treesN a+treesN b
  | [],b=>by rw [List.nil_append,treesN_nil,Nat.zero_add]
  |x::r,b=>by rw [List.cons_append,treesN_cons,treesN_cons,treesN_app r b,Nat.add_assoc]
theorem treesN_take {xs:List TreeD}{k:Nat} (h:k < xs.length):treesN (xs.take (k+1))=treesN (xs.take k)+treeN (xs.getD k default):=by
  rw [List.take_succ_eq_append_getElem h,treesN_app,treesN_cons,treesN_nil,Nat.add_zero,List.getD_eq_getElem?_getD,List.getElem?_eq_getElem h]
  rfl
theorem treesN_all {xs:List TreeD}{k:Nat} (h:xs.length≤k):treesN (xs.take k)=treesN xs:=by rw [List.take_of_length_le h]
/-- What the model can hold at all. -/
inductive TRaw:TreeD→Prop
  |mk {t:TreeD} (ht:strRaw t.text) (hi:intOk t.num) (hk:rowRaw strRaw t.keys) (hl:t.kids.length≤9223372036854775807) (hc:∀ x ∈ t.kids,TRaw x):TRaw t
theorem TRaw.text {t:TreeD} (h:TRaw t):strRaw t.text:=by cases h;assumption
theorem TRaw.num {t:TreeD} (h:TRaw t):intOk t.num:=by cases h;assumption
theorem TRaw.keys {t:TreeD} (h:TRaw t):rowRaw strRaw t.keys:=by cases h;assumption
theorem TRaw.kids {t:TreeD} (h:TRaw t):t.kids.length≤9223372036854775807:=by cases h;assumption
theorem TRaw.mem {t x:TreeD} (h:TRaw t) (hx:x ∈ t.kids):TRaw x:=by cases h with|mk _ _ _ _ hc=>exact hc x hx
def SzT (t:TreeD):Prop:=∀ (n:Int) (_:0≤n) (_:n≤1048576),Spec Tryz.prog 26 [.agg (treeC t),.sc (.int .i64 n)] (fun d=>∃ r:Int,d = .sc (.int .i64 r)∧-1≤r∧r≤n∧(0≤r→TFine t∧r+(treeN t:Int)≤n+1))
def SzL (xs:List TreeD):Prop:=∀ (n:Int) (_:0≤n) (_:n≤1048576),Spec Tryz.prog 16 [.sl xs.length (treesD xs),.sc (.int .i64 n)] (fun d=>∃ r:Int,d = .sc (.int .i64 r)∧-1≤r∧r≤n∧(0≤r→xs.length≤1048576∧(∀ x ∈ xs,TFine x)∧r+(treesN xs:Int)≤n))
theorem all_memD {α:Type} [Inhabited α] {P:α→Prop}{xs:List α}{k:Nat} (hk:xs.length≤k) (h:∀ j,j < k→P (xs.getD j default)):∀ x ∈ xs,P x:=by
  intro x hx
  obtain ⟨j,hj,e⟩:=List.getElem_of_mem hx
  have:=h j (by omega)
  rw [List.getD_eq_getElem?_getD,List.getElem?_eq_getElem hj,e] at this
  exact this
def treesZ (m:Nat):List D:=rowD [.sc (.int .i64 0),.sc (.bool false),.sc (.int .i64 0),.sc (.string ⟨#[]⟩),.sc (.slice none 0 0),.sc (.slice none 0 0)] m
theorem treesZ_zero (m:Nat):rowD [.sc (.int .i64 0),.sc (.bool false),.sc (.int .i64 0),.sc (.string ⟨#[]⟩),.sc (.slice none 0 0),.sc (.slice none 0 0)] m=treesZ m:=rfl
theorem treesZ_cons (m:Nat):treesZ (m+1) = .sc (.int .i64 0)::.sc (.bool false)::.sc (.int .i64 0)::.sc (.string ⟨#[]⟩)::.sc (.slice none 0 0)::.sc (.slice none 0 0)::treesZ m:=rfl
theorem treesZ_nil:treesZ 0 = []:=rfl
theorem treesZ_len (m:Nat):(treesZ m).length=m*6:=rowD_len _ m
theorem treesZ_tp (m:Nat):(treesZ m).all D.tp=true:=rowD_all rfl m
theorem treesZ_in (p:Nat→Bool) (m:Nat):(treesZ m).all (D.in1 p)=true:=tps_in (treesZ_tp m) p
theorem treesZ_ren (f:Nat→Nat) (m:Nat):(treesZ m).map (D.ren1 f)=treesZ m:=tps_ren (treesZ_tp m) f
theorem treesZ_frz (i:Nat) (x:Ob) (m:Nat):(treesZ m).map (D.frz1 i x)=treesZ m:=tps_frz (treesZ_tp m) i x
theorem treesZ_lt (q m:Nat):(treesZ m).all (D.lt1 q)=true:=tps_lt (treesZ_tp m) q
theorem treesZ_abs (i:Nat) (x:Ob) (m:Nat):(treesZ m).map (D.abs1 i x)=treesZ m:=tps_abs (treesZ_tp m) i x
theorem treesZ_own (i n k m:Nat):own1 i n (treesZ m) k=(k==1):=own1_all (treesZ_tp m) i n k
theorem treesT_s0 (a:List TreeD) (B:List D) (d:D):(treesT a++B).set (a.length*6) d=treesT a++B.set 0 d:=set_at (treesT_len a) 0 d
theorem treesT_s1 (a:List TreeD) (B:List D) (d:D):(treesT a++B).set (a.length*6+1) d=treesT a++B.set 1 d:=set_at (treesT_len a) 1 d
theorem treesT_s2 (a:List TreeD) (B:List D) (d:D):(treesT a++B).set (a.length*6+2) d=treesT a++B.set 2 d:=set_at (treesT_len a) 2 d
theorem treesT_s3 (a:List TreeD) (B:List D) (d:D):(treesT a++B).set (a.length*6+3) d=treesT a++B.set 3 d:=set_at (treesT_len a) 3 d
theorem treesT_s4 (a:List TreeD) (B:List D) (d:D):(treesT a++B).set (a.length*6+4) d=treesT a++B.set 4 d:=set_at (treesT_len a) 4 d
theorem treesT_g4 (a:List TreeD) (B:List D):(treesT a++B)[a.length*6+4]? = B[4]? :=get_at (treesT_len a) 4
theorem treesT_s5 (a:List TreeD) (B:List D) (d:D):(treesT a++B).set (a.length*6+5) d=treesT a++B.set 5 d:=set_at (treesT_len a) 5 d
theorem treesT_g5 (a:List TreeD) (B:List D):(treesT a++B)[a.length*6+5]? = B[5]? :=get_at (treesT_len a) 5
theorem treesT_cons (x:TreeD) (r:List TreeD):treesT (x::r) = .sc (.int .i64 x.kind)::.sc (.bool x.flag)::.sc (.int .i64 x.num)::.sc (.string x.text)::.tr 9 1 x.keys.length (strsD x.keys)::.tr 67 6 x.kids.length (treesT x.kids)::treesT r:=by
  rw [treesT_con,treeCellsT_eq];rfl
theorem treesT_mid (a:List TreeD) (x:TreeD) (B:List D):treesT (a ++ [x])++B=treesT a++(.sc (.int .i64 x.kind)::.sc (.bool x.flag)::.sc (.int .i64 x.num)::.sc (.string x.text)::.tr 9 1 x.keys.length (strsD x.keys)::.tr 67 6 x.kids.length (treesT x.kids)::B):=by
  unfold treesT;rw [flat_snoc,List.append_assoc,treeCellsT_eq];rfl
def ToT (x:TreeD):Prop:=SpecH Tryz.prog 28 [.agg (treeC x)] [] 0 (fun d os' nb'=>d = .agg [.sc (.int .i64 x.kind),.sc (.bool x.flag),.sc (.int .i64 x.num),.sc (.string x.text),.own 0 0 x.keys.length,.own 1 0 x.kids.length]∧os' = [(0,⟨9,1,x.keys.length,strsD x.keys⟩),(1,⟨67,6,x.kids.length,treesT x.kids⟩)]∧nb' = 2)
def ToL (xs:List TreeD):Prop:=SpecH Tryz.prog 18 [.sl xs.length (treesD xs)] [] 0 (fun d os' nb'=>d = .own 0 0 xs.length∧os' = [(0,⟨67,6,xs.length,treesT xs⟩)]∧nb' = 1)
theorem szTreeS_step (xs:List TreeD) (n:Int) (hn0:0≤n) (hn1:n≤1048576) (hl:xs.length≤9223372036854775807) (ih:Hid (∀ x ∈ xs,SzT x)):Spec Tryz.prog 16 [.sl xs.length (treesD xs),.sc (.int .i64 n)] (fun d=>∃ r:Int,d = .sc (.int .i64 r)∧-1≤r∧r≤n∧(0≤r→xs.length≤1048576∧(∀ x ∈ xs,TFine x)∧r+(treesN xs:Int)≤n)):=by
  refine sp_ (rs:= [.tmp 4]) (nt:=27) Tryz.func16 rfl fun X hX=>?_
  refine nm_ ?_
  repeat' ((first|contradiction|(with_reducible exact tt_)|((with_reducible show Wk (AwStepF _ _ _ _ _ _ _));first|(refine cl_ rfl _ _ (ih.out (xs.getD k default) (getD_mem (by omega)) m (by omega) (by omega)) rfl rfl ?_;rintro _ ⟨r1,rfl,ha1,hb1,hc1⟩))|((with_reducible show Wk (AwStep _ _ _ _ _));first|(refine pln_ ?_))|((with_reducible show Wk (AwCode _ _ _ _ _));first|(refine lpU_ 0x23 (ι:=Nat × Int) (fun ⟨k,m⟩=> [(1,.sc (.int .i64 m)),(5,.sc (.int .i64 (k:Int)))]) (fun ⟨k,m⟩=>k≤xs.length∧(0≤m∧m≤n - xs.length∧m+(treesN (xs.take k):Int)≤n - xs.length+k)∧∀ j,j < k→TFine (xs.getD j default)) (fun ⟨k,m⟩=>xs.length - k) (0,n - xs.length) ?_ ?_;(focus (exact ⟨by omega,⟨by omega,by omega,by show _+((treesN []:Nat):Int)≤_;rw [treesN_nil];omega⟩,fun j h=>by omega⟩));rintro _ hN0 ⟨k,m⟩ hinv;(try dsimp only at hinv);obtain ⟨hk,hm,hj⟩:=hinv;replace hj:=Lib.hid hj;have htk:=fun h:k < xs.length=>treesN_take h;have hta:=fun h:xs.length≤k=>treesN_all h;skip))|((with_reducible show Wk (boolK _ _ _ _));first|(refine bk_ (fun h h'=>?_) (fun h h'=>?_)))|((with_reducible show Wk (_∧_));first|(refine and_ ?_ ?_))|(refine hN0.go ((k+1,_)) ?_ ?_;(focus (exact ⟨by show k+1≤xs.length;omega,(by have q:=(hc1 (by omega)).2;have q2:=htk (by omega);show 0≤_∧_≤n - (xs.length:Int)∧_+((treesN (xs.take (k+1)):Nat):Int)≤n - (xs.length:Int)+((k+1:Nat):Int);rw [q2];omega),row_step hj.out (hc1 (by omega)).1⟩));(focus (show xs.length - (k+1) < xs.length - k;omega)))|fail)<;>(try refine nm_ ?_))
  all_goals (refine ⟨?_⟩)
  all_goals first|contradiction|(exact ⟨-1,rfl,by omega,by omega,fun h=>absurd h (by decide)⟩)|(refine ⟨_,rfl,by omega,by omega,fun _=>⟨by omega,all_memD (by omega) hj.out,by rw [← hta (by omega)];omega⟩⟩)
theorem szTree_step (t:TreeD) (n:Int) (hn0:0≤n) (hn1:n≤1048576) (hr:TRaw t) (ih:Hid (SzL t.kids)):Spec Tryz.prog 26 [.agg (treeC t),.sc (.int .i64 n)] (fun d=>∃ r:Int,d = .sc (.int .i64 r)∧-1≤r∧r≤n∧(0≤r→TFine t∧r+(treeN t:Int)≤n+1)):=by
  have q1:t.text.size≤9223372036854775807:=hr.text;have q2:=hr.keys;have q3:=hr.num;replace q2:=Lib.hid q2;replace q3:=Lib.hid q3;unfold treeC
  refine sp_ (rs:= [.tmp 4]) (nt:=25) Tryz.func26 rfl fun X hX=>?_
  refine nm_ ?_
  repeat' ((first|contradiction|(with_reducible exact tt_)|((with_reducible show Wk (AwStepF _ _ _ _ _ _ _));first|(refine cl_ rfl _ _ (laws_szStringS_D t.keys _ (by omega) (by omega) q2.out) rfl rfl ?_;rintro _ ⟨r1,rfl,ha1,hb1,hc1⟩)|(refine cl_ rfl _ _ (ih.out _ (by omega) (by omega)) rfl rfl ?_;rintro _ ⟨r2,rfl,ha2,hb2,hc2⟩))|((with_reducible show Wk (AwStep _ _ _ _ _));first|(refine pln_ ?_))|((with_reducible show Wk (boolK _ _ _ _));first|(refine bk_ (fun h h'=>?_) (fun h h'=>?_)))|((with_reducible show Wk (_∧_));first|(refine and_ ?_ ?_))|fail)<;>(try refine nm_ ?_))
  all_goals (refine ⟨?_⟩)
  all_goals first|contradiction|(exact ⟨-1,rfl,by omega,by omega,fun h=>absurd h (by decide)⟩)|(refine ⟨_,rfl,by omega,by omega,fun _=>⟨.mk (by show _≤_;omega) q3.out (hc1 (by omega)).1 (hc1 (by omega)).2 (hc2 (by omega)).1 (hc2 (by omega)).2.1,by rw [treeN_eq];have:=(hc2 (by omega)).2.2;omega⟩⟩)
theorem sz_all:∀ t:TreeD,TRaw t→SzT t:=TreeD.ind fun t ih hr n h0 h1=>szTree_step t n h0 h1 hr (fun m m0 m1=>szTreeS_step t.kids m m0 m1 hr.kids fun x hx=>ih x hx (hr.mem hx))
theorem toTree_step (x:TreeD) (hf:TFine x) (ih:Hid (ToL x.kids)):SpecH Tryz.prog 28 [.agg (treeC x)] [] 0 (fun d os' nb'=>d = .agg [.sc (.int .i64 x.kind),.sc (.bool x.flag),.sc (.int .i64 x.num),.sc (.string x.text),.own 0 0 x.keys.length,.own 1 0 x.kids.length]∧os' = [(0,⟨9,1,x.keys.length,strsD x.keys⟩),(1,⟨67,6,x.kids.length,treesT x.kids⟩)]∧nb' = 2):=by
  unfold treeC
  refine spH_ (rs:= [.cell 2 67]) (nt:=25) Tryz.func28 rfl fun X hX=>?_
  refine nm_ ?_
  repeat' ((first|contradiction|(with_reducible exact tt_)|((with_reducible show Wk (AwStepF _ _ _ _ _ _ _));first|(refine awH_ rfl (toStringS_H x.keys hf.keys) [] ?_;rintro _ _ _ ⟨rfl,rfl,rfl⟩ _)|(refine awH_ rfl (ih.out) [] ?_;rintro _ _ _ ⟨rfl,rfl,rfl⟩ _))|((with_reducible show Wk (AwStep _ _ _ _ _));first|(refine pln_ ?_))|((with_reducible show Wk (boolK _ _ _ _));first|(refine bk_ (fun h h'=>?_) (fun h h'=>?_)))|((with_reducible show Wk (_∧_));first|(refine and_ ?_ ?_))|((with_reducible show Wk (retOkH _ _ _ _ _));first|(refine rh_ [3,4] ?_))|fail)<;>(try refine nm_ ?_))
  all_goals (refine ⟨?_⟩)
  all_goals first|contradiction|exact ⟨rfl,rfl,rfl⟩
theorem toTreeS_step (xs:List TreeD) (hn:xs.length≤1048576) (ih:Hid (∀ x ∈ xs,ToT x)):SpecH Tryz.prog 18 [.sl xs.length (treesD xs)] [] 0 (fun d os' nb'=>d = .own 0 0 xs.length∧os' = [(0,⟨67,6,xs.length,treesT xs⟩)]∧nb' = 1):=by
  have ex0:=@treesT_s0;have ex1:=@treesT_s1;have ex2:=@treesT_s2;have ex3:=@treesT_s3;have ex4:=@treesT_s4;have ex5:=@treesT_s5;have ex6:=@treesT_g4;have ex7:=@treesT_g5;have ex8:=@treesT_cons;have ex9:=@treesT_mid;have ex10:=@treesZ_zero;have ex11:=@treesZ_cons;have ex12:=@treesZ_nil;have ex13:=@treesZ_len;have ex14:=@treesZ_in;have ex15:=@treesZ_ren;have ex16:=@treesZ_frz;have ex17:=@treesZ_lt;have ex18:=@treesZ_abs;have ex19:=@treesZ_own;have ex20:=@treesZ_tp
  refine spH_ (rs:= [.tmp 2]) (nt:=23) Tryz.func18 rfl fun X hX=>?_
  refine nm_ ?_
  repeat' ((first|contradiction|(with_reducible exact tt_)|((with_reducible show Wk (AwStepF _ _ _ _ _ _ _));first|(refine mk0_ rfl ?_)|(refine mk_ rfl ?_)|(refine awH_ rfl (ih.out (xs.getD a.length default) (getD_mem (by omega))) [] ?_;rintro _ _ _ ⟨rfl,rfl,rfl⟩ _))|((with_reducible show Wk (AwStep _ _ _ _ _));first|(refine pln_ ?_))|((with_reducible show Wk (AwCode _ _ _ _ _));first|(refine lpK_ (ι:=List TreeD × Nat) [] [0] 0x19 (fun ⟨a,m⟩=> [(4,.sc (.int .i64 (a.length:Int)))]) (fun ⟨a,m⟩=> [(0,⟨67,6,xs.length,treesT a++treesZ m⟩)]) (fun ⟨a,m⟩=>a=xs.take a.length∧a.length+m=xs.length) (fun ⟨a,m⟩=>m) ([],xs.length) ?_ ?_;(focus (exact ⟨rfl,by simp⟩));rintro _ hN0 ⟨a,m⟩ hinv;(try dsimp only at hinv);obtain ⟨hA,hlen⟩:=hinv;replace hA:=Lib.hid hA;rcases m with _|m;skip))|((with_reducible show Wk (boolK _ _ _ _));first|(refine bk_ (fun h h'=>?_) (fun h h'=>?_)))|((with_reducible show Wk (_∧_));first|(refine and_ ?_ ?_))|((with_reducible show Wk (retOkH _ _ _ _ _));first|(refine rh_ [0] ?_))|(refine hN0.run ((a ++ [xs.getD a.length default],m)) [.abs 1 0,.abs 2 0] [0] ?_ ?_;(focus (exact ⟨snoc_take hA.out hlen,by simp;omega⟩));(focus (show m < m+1;omega)))|fail)<;>(try refine nm_ ?_))
  all_goals clear ex0 ex1 ex2 ex3 ex4 ex5 ex6 ex7 ex8 ex9 ex10 ex11 ex12 ex13 ex14 ex15 ex16 ex17 ex18 ex19 ex20
  all_goals (refine ⟨?_⟩)
  all_goals (try (first|contradiction|(exfalso;omega)))
  all_goals (obtain rfl:=take_whole hA.out hlen;first|exact ⟨rfl,rfl,rfl⟩|rfl)
theorem to_all:∀ t:TreeD,TFine t→ToT t:=TreeD.ind fun t ih hr=>toTree_step t hr (toTreeS_step t.kids hr.kids fun x hx=>ih x hx (hr.mem hx))
def EqT (t:TreeD):Prop:=Spec Tryz.prog 31 [.agg (treeC t),.agg (treeC t)] (fun d=>d = .sc (.bool true))
def EqL (xs:List TreeD):Prop:=Spec Tryz.prog 22 [.sl xs.length (treesD xs),.sl xs.length (treesD xs)] (fun d=>d = .sc (.bool true))
theorem eqTree_step (t:TreeD) (hf:TFine t) (ih:Hid (EqL t.kids)):Spec Tryz.prog 31 [.agg (treeC t),.agg (treeC t)] (fun d=>d = .sc (.bool true)):=by
  unfold treeC
  have ex0:=@eqB_refl
  refine sp_ (rs:= [.tmp 4]) (nt:=37) Tryz.func31 rfl fun X hX=>?_
  refine nm_ ?_
  repeat' ((first|contradiction|(with_reducible exact tt_)|((with_reducible show Wk (AwStepF _ _ _ _ _ _ _));first|(refine cl_ rfl _ _ (laws_eqStringS_D t.keys (Nat.le_trans hf.keys (by decide))) rfl rfl ?_;rintro _ rfl)|(refine cl_ rfl _ _ (ih.out) rfl rfl ?_;rintro _ rfl))|((with_reducible show Wk (AwStep _ _ _ _ _));first|(refine pln_ ?_))|((with_reducible show Wk (boolK _ _ _ _));first|(refine bk_ (fun h h'=>?_) (fun h h'=>?_)))|((with_reducible show Wk (_∧_));first|(refine and_ ?_ ?_))|fail)<;>(try refine nm_ ?_))
  all_goals clear ex0
  all_goals (refine ⟨?_⟩)
  all_goals first|contradiction|rfl|(exfalso;omega)
theorem eqTreeS_step (xs:List TreeD) (hn:xs.length≤1048576) (ih:Hid (∀ x ∈ xs,EqT x)):Spec Tryz.prog 22 [.sl xs.length (treesD xs),.sl xs.length (treesD xs)] (fun d=>d = .sc (.bool true)):=by
  have ex0:=@eqB_refl
  refine sp_ (rs:= [.tmp 4]) (nt:=27) Tryz.func22 rfl fun X hX=>?_
  refine nm_ ?_
  repeat' ((first|contradiction|(with_reducible exact tt_)|((with_reducible show Wk (AwStepF _ _ _ _ _ _ _));first|(refine cl_ rfl _ _ (ih.out (xs.getD k default) (getD_mem (by omega))) rfl rfl ?_;rintro _ rfl))|((with_reducible show Wk (AwStep _ _ _ _ _));first|(refine pln_ ?_))|((with_reducible show Wk (AwCode _ _ _ _ _));first|(refine wo_ (id:=6) [] [(0,true),(1,true),(2,true),(3,true),(4,true),(5,true),(6,true),(7,true),(8,false),(9,true)] ?_)|(refine lpU_ 0x23 (ι:=Nat) (fun k=> [(5,.sc (.int .i64 (k:Int)))]) (fun k=>k≤xs.length) (fun k=>xs.length - k) 0 ?_ ?_;(focus (omega));rintro _ hN0 k hinv;(try dsimp only at hinv);have hk:k≤xs.length:=hinv;skip))|((with_reducible show Wk (boolK _ _ _ _));first|(refine bk_ (fun h h'=>?_) (fun h h'=>?_)))|((with_reducible show Wk (_∧_));first|(refine and_ ?_ ?_))|(refine hN0.go (k+1) ?_ ?_;(focus (show k+1≤xs.length;omega));(focus (show xs.length - (k+1) < xs.length - k;omega)))|fail)<;>(try refine nm_ ?_))
  all_goals clear ex0
  all_goals (refine ⟨?_⟩)
  all_goals first|contradiction|rfl|(exfalso;omega)
theorem eq_all:∀ t:TreeD,TFine t→EqT t:=TreeD.ind fun t ih hr=>eqTree_step t hr (eqTreeS_step t.kids hr.kids fun x hx=>ih x hx (hr.mem hx))
theorem laws_eqFault_D (f:FaultD):Spec Tryz.prog 21 [.agg [.sc (.int .i64 (f).code),.sc (.int .i64 (f).at_),.sc (.string (f).path)],.agg [.sc (.int .i64 (f).code),.sc (.int .i64 (f).at_),.sc (.string (f).path)]] (fun d=>d = .sc (.bool true)):=by
  have ex0:=@eqB_refl
  refine sp_ (rs:= [.tmp 4]) (nt:=20) Tryz.func21 rfl fun X hX=>?_
  refine nm_ ?_
  repeat' ((first|contradiction|(with_reducible exact tt_)|((with_reducible show Wk (AwStep _ _ _ _ _));first|(refine pln_ ?_))|((with_reducible show Wk (boolK _ _ _ _));first|(refine bk_ (fun h h'=>?_) (fun h h'=>?_)))|((with_reducible show Wk (_∧_));first|(refine and_ ?_ ?_))|fail)<;>(try refine nm_ ?_))
  all_goals clear ex0
  all_goals (refine ⟨?_⟩)
  all_goals first|contradiction|rfl|(exfalso;omega)
def MkL (xs:List TreeD):Prop:=∀ (k0:Int) (_:0 < k0) (_:k0+1048580*(treesN xs:Int)≤10000000000000),SpecH Tryz.prog 23 [.own 0 0 xs.length,.sc (.int .i64 k0)] [(0,⟨67,6,xs.length,treesT xs⟩)] 1 (fun d os' nb'=>∃ (k1:Int) (ys:List TreeD),(k0≤k1∧k1≤k0+1048580*(treesN xs:Int)∧ys.length=xs.length)∧d = .sc (.int .i64 k1)∧os' = [(0,⟨67,6,xs.length,treesT ys⟩)]∧nb' = 1)
structure MkF (xs:List TreeD):Prop where
  out:∀ x ∈ xs,TFine x∧MkL x.kids
theorem MkF.head {x:TreeD}{r:List TreeD} (h:MkF (x::r)):TFine x∧MkL x.kids:=h.out x (List.mem_cons_self ..)
theorem MkF.tail {x:TreeD}{r:List TreeD} (h:MkF (x::r)):MkF r:=⟨fun y hy=>h.out y (List.mem_cons_of_mem _ hy)⟩
theorem markTreeS_step (xs:List TreeD) (k0:Int) (h0:0 < k0) (h1:k0+1048580*(treesN xs:Int)≤10000000000000) (hn:xs.length≤1048576) (hF0:MkF xs):SpecH Tryz.prog 23 [.own 0 0 xs.length,.sc (.int .i64 k0)] [(0,⟨67,6,xs.length,treesT xs⟩)] 1 (fun d os' nb'=>∃ (k1:Int) (ys:List TreeD),(k0≤k1∧k1≤k0+1048580*(treesN xs:Int)∧ys.length=xs.length)∧d = .sc (.int .i64 k1)∧os' = [(0,⟨67,6,xs.length,treesT ys⟩)]∧nb' = 1):=by
  have ex0:=@treesT_s0;have ex1:=@treesT_s1;have ex2:=@treesT_s2;have ex3:=@treesT_s3;have ex4:=@treesT_s4;have ex5:=@treesT_s5;have ex6:=@treesT_g4;have ex7:=@treesT_g5;have ex8:=@treesT_cons;have ex9:=@treesT_mid;have ex10:=@mkW_len
  refine spH_ (rs:= [.tmp 4]) (nt:=58) Tryz.func23 rfl fun X hX=>?_
  refine nm_ ?_
  repeat' ((first|contradiction|(with_reducible exact tt_)|((with_reducible show Wk (AwStepF _ _ _ _ _ _ _));first|(refine cl_ rfl _ _ (laws_markText_D _ (by omega) (by omega)) rfl rfl ?_;rintro _ ⟨rfl,hz⟩)|(refine awH_ rfl (laws_markStringS_D x.keys (k+1+1+1+1) (by omega) (by omega) (by omega)) [1] ?_;rintro _ _ _ ⟨rfl,rfl,rfl⟩ _)|(refine awH_ rfl (hxm.out (k+1+1+1+1+1*(x.keys.length:Int)) (by omega) (by omega)) [2] ?_;rintro _ _ _ ⟨k1,ys,⟨hk1,hk2,hys⟩,rfl,rfl,rfl⟩ _))|((with_reducible show Wk (AwStep _ _ _ _ _));first|(refine opn_ 0 (a.length*6+4) ?_)|(refine opn_ 0 (a.length*6+5) ?_)|(refine pln_ ?_))|((with_reducible show Wk (AwCode _ _ _ _ _));first|(refine lpK_ (ι:=List TreeD × List TreeD × Int) [] [0] 0x23 (fun ⟨a,r,k⟩=> [(1,.sc (.int .i64 k)),(5,.sc (.int .i64 (a.length:Int)))]) (fun ⟨a,r,k⟩=> [(0,⟨67,6,xs.length,treesT a++treesT r⟩)]) (fun ⟨a,r,k⟩=>(a.length+r.length=xs.length∧k+1048580*(treesN r:Int)≤k0+1048580*(treesN xs:Int)∧k0≤k)∧MkF r) (fun ⟨a,r,k⟩=>r.length) ([],xs,k0) ?_ ?_;(focus (exact ⟨⟨by simp,Int.le_refl _,Int.le_refl _⟩,hF0⟩));rintro _ hN0 ⟨a,r,k⟩ hinv;(try dsimp only at hinv);obtain ⟨⟨hlen,hk,hkk⟩,hF⟩:=hinv;rcases r with _|⟨x,r⟩<;>(simp only [List.length_nil,List.length_cons] at hlen;(try (rw [treesN_cons,treeN_eq] at hk;have hx:=hF.head.1.keys;have hxm:=Lib.hid hF.head.2;have hF2:=hF.tail)));skip))|((with_reducible show Wk (boolK _ _ _ _));first|(refine bk_ (fun h h'=>?_) (fun h h'=>?_)))|((with_reducible show Wk (_∧_));first|(refine and_ ?_ ?_))|((with_reducible show Wk (retOkH _ _ _ _ _));first|(refine rh_ [] ?_))|(refine hN0.run ((a ++ [⟨k,(k+1).tmod 3==0,k+1+1,markT (k+1+1+1).toNat,mkW x.keys.length (k+1+1+1+1),ys⟩],r,_)) [.abs 1 0,.abs 2 0] [0] ?_ ?_;(focus (exact ⟨⟨by simp;omega,by show _+1048580*(treesN r:Int)≤_;omega,by show k0≤_;omega⟩,hF2⟩));(focus (show r.length < (x::r).length;simp)))|fail)<;>(try refine nm_ ?_))
  all_goals clear ex0 ex1 ex2 ex3 ex4 ex5 ex6 ex7 ex8 ex9 ex10
  all_goals (refine ⟨?_⟩)
  all_goals (try (first|contradiction|(exfalso;omega)))
  all_goals (rw [treesN_nil] at hk;refine ⟨k,a,⟨by omega,by omega,by omega⟩,?_⟩;first|exact ⟨rfl,rfl,rfl⟩|exact ⟨rfl,rfl⟩|rfl)
theorem mk_all:∀ t:TreeD,TFine t→MkL t.kids:=TreeD.ind fun t ih hr k0 h0 h1=>markTreeS_step t.kids k0 h0 h1 hr.kids ⟨fun x hx=>⟨hr.mem hx,ih x hx (hr.mem hx)⟩⟩
theorem laws_markTreeS_D (xs:List TreeD) (k0:Int) (h0:0 < k0) (h1:k0+1048580*(treesN xs:Int)≤10000000000000) (hn:xs.length≤1048576) (hr:∀ x ∈ xs,TFine x):SpecH Tryz.prog 23 [.own 0 0 xs.length,.sc (.int .i64 k0)] [(0,⟨67,6,xs.length,treesT xs⟩)] 1 (fun d os' nb'=>∃ (k1:Int) (ys:List TreeD),(k0≤k1∧k1≤k0+1048580*(treesN xs:Int)∧ys.length=xs.length)∧d = .sc (.int .i64 k1)∧os' = [(0,⟨67,6,xs.length,treesT ys⟩)]∧nb' = 1):=markTreeS_step xs k0 h0 h1 hn ⟨fun x hx=>⟨hr x hx,mk_all x (hr x hx)⟩⟩
end Go.Proofs.YtidjjfjhmlndjaaGreatDoor
