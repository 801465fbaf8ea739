/- Mk1 (what is wanted of them). -/
import Derived.Test.YtidjjfjhmlndjaaGreatDoorVNn
import Derived.Test.YtidjjfjhmlndjaaGreatDoorVMark
namespace Go.Proofs.YtidjjfjhmlndjaaGreatDoor
open Go.RowKit
set_option linter.unusedVariables false
set_option linter.unusedSimpArgs false
set_option maxRecDepth 100000
set_option maxHeartbeats 1000000
theorem set_at {A B:List D}{n:Nat} (h:A.length=n) (j:Nat) (d:D):(A++B).set (n+j) d=A++B.set j d:=by
  rw [List.set_append_right _ _ (by omega)]
  congr 2
  omega
theorem get_at {A B:List D}{n:Nat} (h:A.length=n) (j:Nat):(A++B)[n+j]? = B[j]? :=by
  rw [List.getElem?_append_right (by omega)]
  congr 1
  omega
theorem strsD_set (a:List ByteArray) (B:List D) (d:D):(strsD a++B).set a.length d=strsD a++B.set 0 d:=set_at (strsD_len a) 0 d
theorem strsD_con2 (x:ByteArray) (r:List ByteArray):strsD (x::r) = .sc (.string x)::strsD r:=rfl
theorem strsD_mid (a:List ByteArray) (x:ByteArray) (B:List D):strsD (a ++ [x])++B=strsD a++(.sc (.string x)::B):=by simp [strsD]
theorem labelsD_s0 (a:List LabelD) (B:List D) (d:D):(labelsD a++B).set (a.length*2) d=labelsD a++B.set 0 d:=set_at (labelsD_len a) 0 d
theorem labelsD_s1 (a:List LabelD) (B:List D) (d:D):(labelsD a++B).set (a.length*2+1) d=labelsD a++B.set 1 d:=set_at (labelsD_len a) 1 d
theorem labelsD_cons (x:LabelD) (r:List LabelD):labelsD (x::r) = .sc (.string x.key)::.sc (.string x.value)::labelsD r:=rfl
theorem labelsD_mid (a:List LabelD) (x:LabelD) (B:List D):labelsD (a ++ [x])++B=labelsD a++(.sc (.string x.key)::.sc (.string x.value)::B):=by
  unfold labelsD;rw [flat_snoc,List.append_assoc];rfl
theorem taintsD_s0 (a:List TaintD) (B:List D) (d:D):(taintsD a++B).set (a.length*3) d=taintsD a++B.set 0 d:=set_at (taintsD_len a) 0 d
theorem taintsD_s1 (a:List TaintD) (B:List D) (d:D):(taintsD a++B).set (a.length*3+1) d=taintsD a++B.set 1 d:=set_at (taintsD_len a) 1 d
theorem taintsD_s2 (a:List TaintD) (B:List D) (d:D):(taintsD a++B).set (a.length*3+2) d=taintsD a++B.set 2 d:=set_at (taintsD_len a) 2 d
theorem taintsD_cons (x:TaintD) (r:List TaintD):taintsD (x::r) = .sc (.string x.key)::.sc (.string x.value)::.sc (.int .i64 x.effect)::taintsD r:=rfl
theorem taintsD_mid (a:List TaintD) (x:TaintD) (B:List D):taintsD (a ++ [x])++B=taintsD a++(.sc (.string x.key)::.sc (.string x.value)::.sc (.int .i64 x.effect)::B):=by
  unfold taintsD;rw [flat_snoc,List.append_assoc];rfl
def mkW:Nat→Int→List ByteArray
  |0,_=> []
  |n+1,k=>markT k.toNat::mkW n (k+1)
def mkL:Nat→Int→List LabelD
  |0,_=> []
  |n+1,k=>⟨markT k.toNat,markT (k+1).toNat⟩::mkL n (k+1+1)
def mkT:Nat→Int→List TaintD
  |0,_=> []
  |n+1,k=>⟨markT k.toNat,markT (k+1).toNat,k+1+1⟩::mkT n (k+1+1+1)
theorem mkW_len:∀ (n:Nat) (k:Int),(mkW n k).length=n
  |0,_=>rfl
  |n+1,k=>by rw [mkW,List.length_cons,mkW_len n]
theorem mkL_len:∀ (n:Nat) (k:Int),(mkL n k).length=n
  |0,_=>rfl
  |n+1,k=>by rw [mkL,List.length_cons,mkL_len n]
theorem mkT_len:∀ (n:Nat) (k:Int),(mkT n k).length=n
  |0,_=>rfl
  |n+1,k=>by rw [mkT,List.length_cons,mkT_len n]
theorem mk_step {α:Type}{a l l':List α}{x:α}{R:List α} (h:a++l' = R) (e:l' = x::l):(a ++ [x])++l=R:=by rw [← h,e];simp
theorem mk_end {α:Type}{a l R:List α} (h:a++l=R) (e:l = []):a=R:=by rw [← h,e];simp
theorem markT_size (k:Nat) (h:k≤2000000000000000000):(markT k).size≤2000000000000000001:=by
  have:=digsM_len k
  show (109::digsM k).toArray.size≤_
  simp
  omega
theorem laws_markText_D (k:Int) (h0:0 < k) (h1:k≤2000000000000000000):Spec Tryz.prog 60 [.sc (.int .i64 k)] (fun d=>d = .sc (.string (markT k.toNat))∧(markT k.toNat).size≤2000000000000000001):=by
  refine spec_of (callable Tryz.func60 rfl (by kernel_rfl)) fun ro w args hro hsz hrep=>?_
  have hs:args.size=1:=hsz
  obtain ⟨l⟩:=args
  obtain ⟨a,rfl⟩:∃ a,l = [a]:=List.length_eq_one_iff.1 hs
  have ha:a = .int .i64 k:=(hrep 0 _ rfl).1
  subst ha
  refine (markText_any k w h0 h1).mono ?_
  rintro e w' ⟨he,hb⟩
  exact ⟨_,_,⟨rfl,markT_size _ (by omega)⟩,he,⟨rfl,rfl⟩,hb⟩
/-- A cell that holds a slice of its own: it is opened. -/
def isTr (s:St) (i c:Nat):Bool:=match s.ob i with
  |some x=>match x.cs[c]? with
    |some (.tr _ _ _ _)=>true
    |_=>false
  |none=>false
theorem opn_ {X:Ctx}{P:Program}{o:Oper}{s:St}{K:St→Prop} (i c:Nat) (h:Wk (AwStep X P o (s.opn i c) K)) (_hc:isTr s i c=true:=by first|rfl|(simp [isTr,St.ob,cellOb,List.lookup_cons,List.getElem?_cons_succ, *]<;>fail)):Wk (AwStep X P o s K):=⟨awgop [.opn i c] rfl h.out⟩
theorem laws_markStringS_D (xs:List ByteArray) (k0:Int) (h0:0 < k0) (h1:k0≤1900000000000000000) (hn:xs.length≤4194304):SpecH Tryz.prog 14 [.own 0 0 xs.length,.sc (.int .i64 k0)] [(0,⟨9,1,xs.length,strsD xs⟩)] 1 (fun d os' nb'=>d = .sc (.int .i64 (k0+1*(xs.length:Int)))∧os' = [(0,⟨9,1,xs.length,strsD (mkW xs.length k0)⟩)]∧nb' = 1):=by
  have ex0:=@strsD_set;have ex1:=@strsD_con2;have ex2:=@strsD_mid
  refine spH_ (rs:= [.tmp 4]) (nt:=20) Tryz.func14 rfl fun X hX=>?_
  refine nm_ ?_
  repeat' ((first|contradiction|(with_reducible exact tt_)|((with_reducible show Wk (AwStepF _ _ _ _ _ _ _));first|(refine cl_ rfl _ _ (laws_markText_D _ (by omega) (by omega)) rfl rfl ?_;rintro _ ⟨rfl,hz⟩))|((with_reducible show Wk (AwStep _ _ _ _ _));first|(refine pln_ ?_))|((with_reducible show Wk (AwCode _ _ _ _ _));first|(refine lpK_ (ι:=List ByteArray × List ByteArray × Int) [] [0] 0x23 (fun ⟨a,r,k⟩=> [(1,.sc (.int .i64 k)),(5,.sc (.int .i64 (a.length:Int)))]) (fun ⟨a,r,k⟩=> [(0,⟨9,1,xs.length,strsD a++strsD r⟩)]) (fun ⟨a,r,k⟩=>a++mkW r.length k=mkW xs.length k0∧(a.length+r.length=xs.length∧k+1*(r.length:Int)=k0+1*(xs.length:Int)∧k0≤k)) (fun ⟨a,r,k⟩=>r.length) ([],xs,k0) ?_ ?_;(focus (exact ⟨rfl,by simp,rfl,Int.le_refl _⟩));rintro _ hN0 ⟨a,r,k⟩ hinv;(try dsimp only at hinv);obtain ⟨hR,hlen,hk,hkk⟩:=hinv;replace hR:=Lib.hid hR;rcases r with _|⟨x,r⟩<;>(simp only [List.length_nil,List.length_cons] at hlen hk);skip))|((with_reducible show Wk (boolK _ _ _ _));first|(refine bk_ (fun h h'=>?_) (fun h h'=>?_)))|((with_reducible show Wk (_∧_));first|(refine and_ ?_ ?_))|((with_reducible show Wk (retOkH _ _ _ _ _));first|(refine rh_ [] ?_))|(refine hN0.run ((a ++ [markT k.toNat],r,_)) [] [0] ?_ ?_;(focus (exact ⟨mk_step hR.out rfl,by simp;omega,by show _+1*(r.length:Int)=_;omega,by show k0≤_;omega⟩));(focus (show r.length < (x::r).length;simp)))|fail)<;>(try refine nm_ ?_))
  all_goals clear ex0 ex1 ex2
  all_goals (refine ⟨?_⟩)
  all_goals (try (first|contradiction|(exfalso;omega)))
  all_goals (have e:=mk_end hR.out rfl;have ek:k=k0+1*(xs.length:Int):=(by omega);subst e;first|rfl|(rw [ek];done))
theorem laws_markLabelS_D (xs:List LabelD) (k0:Int) (h0:0 < k0) (h1:k0≤1900000000000000000) (hn:xs.length≤1048576):SpecH Tryz.prog 86 [.own 0 0 xs.length,.sc (.int .i64 k0)] [(0,⟨217,2,xs.length,labelsD xs⟩)] 1 (fun d os' nb'=>d = .sc (.int .i64 (k0+2*(xs.length:Int)))∧os' = [(0,⟨217,2,xs.length,labelsD (mkL xs.length k0)⟩)]∧nb' = 1):=by
  have ex0:=@labelsD_s0;have ex1:=@labelsD_s1;have ex2:=@labelsD_cons;have ex3:=@labelsD_mid
  refine spH_ (rs:= [.tmp 4]) (nt:=29) Tryz.func86 rfl fun X hX=>?_
  refine nm_ ?_
  repeat' ((first|contradiction|(with_reducible exact tt_)|((with_reducible show Wk (AwStepF _ _ _ _ _ _ _));first|(refine cl_ rfl _ _ (laws_markText_D _ (by omega) (by omega)) rfl rfl ?_;rintro _ ⟨rfl,hz⟩))|((with_reducible show Wk (AwStep _ _ _ _ _));first|(refine pln_ ?_))|((with_reducible show Wk (AwCode _ _ _ _ _));first|(refine lpK_ (ι:=List LabelD × List LabelD × Int) [] [0] 0x23 (fun ⟨a,r,k⟩=> [(1,.sc (.int .i64 k)),(5,.sc (.int .i64 (a.length:Int)))]) (fun ⟨a,r,k⟩=> [(0,⟨217,2,xs.length,labelsD a++labelsD r⟩)]) (fun ⟨a,r,k⟩=>a++mkL r.length k=mkL xs.length k0∧(a.length+r.length=xs.length∧k+2*(r.length:Int)=k0+2*(xs.length:Int)∧k0≤k)) (fun ⟨a,r,k⟩=>r.length) ([],xs,k0) ?_ ?_;(focus (exact ⟨rfl,by simp,rfl,Int.le_refl _⟩));rintro _ hN0 ⟨a,r,k⟩ hinv;(try dsimp only at hinv);obtain ⟨hR,hlen,hk,hkk⟩:=hinv;replace hR:=Lib.hid hR;rcases r with _|⟨x,r⟩<;>(simp only [List.length_nil,List.length_cons] at hlen hk);skip))|((with_reducible show Wk (boolK _ _ _ _));first|(refine bk_ (fun h h'=>?_) (fun h h'=>?_)))|((with_reducible show Wk (_∧_));first|(refine and_ ?_ ?_))|((with_reducible show Wk (retOkH _ _ _ _ _));first|(refine rh_ [] ?_))|(refine hN0.run ((a ++ [⟨markT k.toNat,markT (k+1).toNat⟩],r,_)) [] [0] ?_ ?_;(focus (exact ⟨mk_step hR.out rfl,by simp;omega,by show _+2*(r.length:Int)=_;omega,by show k0≤_;omega⟩));(focus (show r.length < (x::r).length;simp)))|fail)<;>(try refine nm_ ?_))
  all_goals clear ex0 ex1 ex2 ex3
  all_goals (refine ⟨?_⟩)
  all_goals (try (first|contradiction|(exfalso;omega)))
  all_goals (have e:=mk_end hR.out rfl;have ek:k=k0+2*(xs.length:Int):=(by omega);subst e;first|rfl|(rw [ek];done))
theorem laws_markTaintS_D (xs:List TaintD) (k0:Int) (h0:0 < k0) (h1:k0≤1900000000000000000) (hn:xs.length≤1048576):SpecH Tryz.prog 87 [.own 0 0 xs.length,.sc (.int .i64 k0)] [(0,⟨118,3,xs.length,taintsD xs⟩)] 1 (fun d os' nb'=>d = .sc (.int .i64 (k0+3*(xs.length:Int)))∧os' = [(0,⟨118,3,xs.length,taintsD (mkT xs.length k0)⟩)]∧nb' = 1):=by
  have ex0:=@taintsD_s0;have ex1:=@taintsD_s1;have ex2:=@taintsD_s2;have ex3:=@taintsD_cons;have ex4:=@taintsD_mid
  refine spH_ (rs:= [.tmp 4]) (nt:=36) Tryz.func87 rfl fun X hX=>?_
  refine nm_ ?_
  repeat' ((first|contradiction|(with_reducible exact tt_)|((with_reducible show Wk (AwStepF _ _ _ _ _ _ _));first|(refine cl_ rfl _ _ (laws_markText_D _ (by omega) (by omega)) rfl rfl ?_;rintro _ ⟨rfl,hz⟩))|((with_reducible show Wk (AwStep _ _ _ _ _));first|(refine pln_ ?_))|((with_reducible show Wk (AwCode _ _ _ _ _));first|(refine lpK_ (ι:=List TaintD × List TaintD × Int) [] [0] 0x23 (fun ⟨a,r,k⟩=> [(1,.sc (.int .i64 k)),(5,.sc (.int .i64 (a.length:Int)))]) (fun ⟨a,r,k⟩=> [(0,⟨118,3,xs.length,taintsD a++taintsD r⟩)]) (fun ⟨a,r,k⟩=>a++mkT r.length k=mkT xs.length k0∧(a.length+r.length=xs.length∧k+3*(r.length:Int)=k0+3*(xs.length:Int)∧k0≤k)) (fun ⟨a,r,k⟩=>r.length) ([],xs,k0) ?_ ?_;(focus (exact ⟨rfl,by simp,rfl,Int.le_refl _⟩));rintro _ hN0 ⟨a,r,k⟩ hinv;(try dsimp only at hinv);obtain ⟨hR,hlen,hk,hkk⟩:=hinv;replace hR:=Lib.hid hR;rcases r with _|⟨x,r⟩<;>(simp only [List.length_nil,List.length_cons] at hlen hk);skip))|((with_reducible show Wk (boolK _ _ _ _));first|(refine bk_ (fun h h'=>?_) (fun h h'=>?_)))|((with_reducible show Wk (_∧_));first|(refine and_ ?_ ?_))|((with_reducible show Wk (retOkH _ _ _ _ _));first|(refine rh_ [] ?_))|(refine hN0.run ((a ++ [⟨markT k.toNat,markT (k+1).toNat,k+1+1⟩],r,_)) [] [0] ?_ ?_;(focus (exact ⟨mk_step hR.out rfl,by simp;omega,by show _+3*(r.length:Int)=_;omega,by show k0≤_;omega⟩));(focus (show r.length < (x::r).length;simp)))|fail)<;>(try refine nm_ ?_))
  all_goals clear ex0 ex1 ex2 ex3 ex4
  all_goals (refine ⟨?_⟩)
  all_goals (try (first|contradiction|(exfalso;omega)))
  all_goals (have e:=mk_end hR.out rfl;have ek:k=k0+3*(xs.length:Int):=(by omega);subst e;first|rfl|(rw [ek];done))
end Go.Proofs.YtidjjfjhmlndjaaGreatDoor
