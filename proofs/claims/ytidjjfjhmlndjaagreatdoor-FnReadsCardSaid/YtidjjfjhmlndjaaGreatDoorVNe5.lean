/- Ne5 (what is wanted of them). -/
import Derived.Test.YtidjjfjhmlndjaaGreatDoorVNe4
import Derived.Test.YtidjjfjhmlndjaaGreatDoorVNe1
namespace Go.Proofs.YtidjjfjhmlndjaaGreatDoor
open Go.RowKit
set_option linter.unusedVariables false
set_option linter.unusedSimpArgs false
set_option maxRecDepth 100000
set_option maxHeartbeats 4000000
theorem rText_0 {t:TreeD}{p:ByteArray}{f:FaultD}{key:ByteArray}{fine:ByteArray→Bool} (h:¬ f.code=0):rText t p f key fine=(⟨#[]⟩,f):=if_neg h
theorem rText_1 {t:TreeD}{p:ByteArray}{f:FaultD}{key:ByteArray}{fine:ByteArray→Bool} (h:f.code=0):rText t p f key fine=fineF t p key fine:=if_pos h
theorem rList_0 {t:TreeD}{p:ByteArray}{f:FaultD}{key:ByteArray} (h:¬ f.code=0):rList t p f key=([],f):=if_neg h
theorem rList_1 {t:TreeD}{p:ByteArray}{f:FaultD}{key:ByteArray} (h:f.code=0):rList t p f key=listF t p key 40:=if_pos h
theorem rFail_0 {f:FaultD}{c:Int}{p:ByteArray} (h:¬ f.code=0):rFail f c p=f:=if_neg h
theorem rFail_1 {f:FaultD}{c:Int}{p:ByteArray} (h:f.code=0):rFail f c p=fltF c p:=if_pos h
theorem textF_sz {t:TreeD} (hf:TFine t) (p key:ByteArray):(textF t p key).1.size≤1048576:=by
  unfold textF
  split
  · rename_i hh
    split
    · exact (hf.of hh).text
    · exact Nat.zero_le _
  · exact Nat.zero_le _
def opWd (i:Int):ByteArray:=if i=1 then ⟨#[105,110]⟩ else if i=2 then ⟨#[110,111,116,105,110]⟩ else if i=3 then ⟨#[104,97,115]⟩ else if i=4 then ⟨#[104,97,115,110,111,116]⟩ else ⟨#[]⟩
theorem opWd_1 {i:Int} (h:i=1):opWd i=⟨#[105,110]⟩:=by subst h;rfl
theorem opWd_2 {i:Int} (h:i=2):opWd i=⟨#[110,111,116,105,110]⟩:=by subst h;rfl
theorem opWd_3 {i:Int} (h:i=3):opWd i=⟨#[104,97,115]⟩:=by subst h;rfl
theorem opWd_4 {i:Int} (h:i=4):opWd i=⟨#[104,97,115,110,111,116]⟩:=by subst h;rfl
theorem opWd_0 {i:Int} (h:i≠1∧i≠2∧i≠3∧i≠4):opWd i=⟨#[]⟩:=by unfold opWd;rw [if_neg h.1,if_neg h.2.1,if_neg h.2.2.1,if_neg h.2.2.2]
theorem opWd_at {i:Nat} (h1:1≤i) (h:i < 5):opWd (i:Int)=opsW.getD i default:=by
  have:i=1∨i=2∨i=3∨i=4:=by omega
  rcases this with rfl|rfl|rfl|rfl<;>rfl
theorem r_fail_K (t:TreeD) (p:ByteArray) (f:FaultD) (c:Int) (q:ByteArray):SpecH Tryz.prog 83 [.ptr 0 0,.sc (.int .i64 c),.sc (.string q)] [(0,⟨125,10,1, [.sc (.int .i64 t.kind),.sc (.bool t.flag),.sc (.int .i64 t.num),.sc (.string t.text),.sl t.keys.length (strsD t.keys),.sl t.kids.length (treesD t.kids),.sc (.string p),.sc (.int .i64 (f).code),.sc (.int .i64 (f).at_),.sc (.string (f).path)]⟩)] 1 (fun d os' nb'=>d = .tup []∧os' = [(0,⟨125,10,1, [.sc (.int .i64 t.kind),.sc (.bool t.flag),.sc (.int .i64 t.num),.sc (.string t.text),.sl t.keys.length (strsD t.keys),.sl t.kids.length (treesD t.kids),.sc (.string p),.sc (.int .i64 (rFail f c q).code),.sc (.int .i64 (rFail f c q).at_),.sc (.string (rFail f c q).path)]⟩)]∧nb' = 1):=by
  refine spH_ (rs:= []) (nt:=18) Tryz.func83 rfl fun X hX=>?_
  refine nm_ ?_
  repeat' ((first|contradiction|(with_reducible exact tt_)|((with_reducible show Wk (AwStep _ _ _ _ _));first|(refine pln_ ?_))|((with_reducible show Wk (boolK _ _ _ _));first|(refine bk_ (fun h h'=>?_) (fun h h'=>?_)))|((with_reducible show Wk (_∧_));first|(refine and_ ?_ ?_))|((with_reducible show Wk (retOkH _ _ _ _ _));first|(refine rh_ [] ?_))|fail)<;>(try refine nm_ ?_))
  all_goals (refine ⟨?_⟩)
  all_goals first|contradiction|(exfalso;omega)|(rw [rFail_1 (by omega)];(first|exact ⟨rfl,rfl,rfl⟩|exact ⟨rfl,rfl⟩|rfl))|(rw [rFail_0 (by omega)]<;>(first|exact ⟨rfl,rfl,rfl⟩|exact ⟨rfl,rfl⟩|rfl))
theorem r_known_K (t:TreeD) (p:ByteArray) (f:FaultD) (hf:TFine t) (hp:p.size≤4194304) (keys:List ByteArray) (hn:keys.length≤1048576):SpecH Tryz.prog 77 [.ptr 0 0,.sl keys.length (strsD keys)] [(0,⟨125,10,1, [.sc (.int .i64 t.kind),.sc (.bool t.flag),.sc (.int .i64 t.num),.sc (.string t.text),.sl t.keys.length (strsD t.keys),.sl t.kids.length (treesD t.kids),.sc (.string p),.sc (.int .i64 (f).code),.sc (.int .i64 (f).at_),.sc (.string (f).path)]⟩)] 1 (fun d os' nb'=>d = .tup []∧os' = [(0,⟨125,10,1, [.sc (.int .i64 t.kind),.sc (.bool t.flag),.sc (.int .i64 t.num),.sc (.string t.text),.sl t.keys.length (strsD t.keys),.sl t.kids.length (treesD t.kids),.sc (.string p),.sc (.int .i64 (knownT t p keys).code),.sc (.int .i64 (knownT t p keys).at_),.sc (.string (knownT t p keys).path)]⟩)]∧nb' = 1):=by
  refine spH_ (rs:= []) (nt:=17) Tryz.func77 rfl fun X hX=>?_
  refine nm_ ?_
  repeat' ((first|contradiction|(with_reducible exact tt_)|((with_reducible show Wk (AwStepF _ _ _ _ _ _ _));first|(refine cl_ rfl _ _ (impl_KnownKeys_D t p keys hf hp hn) rfl rfl ?_;rintro _ rfl))|((with_reducible show Wk (AwStep _ _ _ _ _));first|(refine pln_ ?_))|((with_reducible show Wk (AwCode _ _ _ _ _));first|(refine wtr_ (id:=0) [0] (.early 0 (.early 1 (.early 2 (.early 3 (.early 5 (.early 6 (.early 7 (.early 9 (.two 4 (.one 8 (.one 10 (.early 11 (.early 12 (.one 13 .done))))) 8 (.one 4 (.one 10 (.early 11 (.early 12 (.one 13 .done)))))))))))))) ?_))|((with_reducible show Wk (boolK _ _ _ _));first|(refine bk_ (fun h h'=>?_) (fun h h'=>?_)))|((with_reducible show Wk (_∧_));first|(refine and_ ?_ ?_))|((with_reducible show Wk (retOkH _ _ _ _ _));first|(refine rh_ [] ?_))|fail)<;>(try refine nm_ ?_))
  all_goals (refine ⟨?_⟩)
  all_goals first|contradiction|(exfalso;omega)|(first|exact ⟨rfl,rfl,rfl⟩|exact ⟨rfl,rfl⟩|rfl)
theorem r_list_O (t:TreeD) (p:ByteArray) (f:FaultD) (hf:TFine t) (hp:p.size≤4194304) (key:ByteArray) (hkz:key.size≤1048576):SpecH Tryz.prog 80 [.ptr 0 0,.sc (.string key)] [(0,⟨125,10,1, [.sc (.int .i64 t.kind),.sc (.bool t.flag),.sc (.int .i64 t.num),.sc (.string t.text),.sl t.keys.length (strsD t.keys),.sl t.kids.length (treesD t.kids),.sc (.string p),.sc (.int .i64 (f).code),.sc (.int .i64 (f).at_),.sc (.string (f).path)]⟩)] 1 (fun d os' nb'=>∃ d',SubT d d'∧d' = .sl (rList t p f key).1.length (treesD (rList t p f key).1)∧os' = [(0,⟨125,10,1, [.sc (.int .i64 t.kind),.sc (.bool t.flag),.sc (.int .i64 t.num),.sc (.string t.text),.sl t.keys.length (strsD t.keys),.sl t.kids.length (treesD t.kids),.sc (.string p),.sc (.int .i64 ((rList t p f key).2).code),.sc (.int .i64 ((rList t p f key).2).at_),.sc (.string ((rList t p f key).2).path)]⟩)]∧nb' = 1):=by
  refine spH_ (rs:= [.tmp 4]) (nt:=30) Tryz.func80 rfl fun X hX=>?_
  refine nm_ ?_
  repeat' ((first|contradiction|(with_reducible exact tt_)|((with_reducible show Wk (AwStepF _ _ _ _ _ _ _));first|(refine cl_ rfl _ _ (impl_ListField_K t p key hf hp hkz 40) rfl rfl ?_;rintro _ rfl))|((with_reducible show Wk (AwStep _ _ _ _ _));first|(refine pln_ ?_))|((with_reducible show Wk (AwCode _ _ _ _ _));first|(refine wtr_ (id:=4) [0] (.early 0 (.early 1 (.early 2 (.early 3 (.early 5 (.early 6 (.early 7 (.early 9 (.two 4 (.one 8 (.one 10 (.early 11 (.early 12 (.early 13 (.early 14 (.early 15 (.early 16 (.one 17 .done))))))))) 8 (.one 4 (.one 10 (.early 11 (.early 12 (.early 13 (.early 14 (.early 15 (.early 16 (.one 17 .done)))))))))))))))))) ?_))|((with_reducible show Wk (boolK _ _ _ _));first|(refine bk_ (fun h h'=>?_) (fun h h'=>?_)))|((with_reducible show Wk (_∧_));first|(refine and_ ?_ ?_))|((with_reducible show Wk (retOkH _ _ _ _ _));first|(refine rh_ [] ?_))|fail)<;>(try refine nm_ ?_))
  all_goals (refine ⟨?_⟩)
  all_goals first|contradiction|(exfalso;omega)|(rw [rList_0 (by omega)];first|exact ⟨_,.nil,rfl,rfl,rfl⟩|exact ⟨_,.nil,rfl,rfl⟩)|(rw [rList_1 (by omega)];first|exact ⟨_,.same _,rfl,rfl,rfl⟩|exact ⟨_,.same _,rfl,rfl⟩)
theorem r_list_K (t:TreeD) (p:ByteArray) (f:FaultD) (hf:TFine t) (hp:p.size≤4194304) (key:ByteArray) (hkz:key.size≤1048576):SpecH Tryz.prog 80 [.ptr 0 0,.sc (.string key)] [(0,⟨125,10,1, [.sc (.int .i64 t.kind),.sc (.bool t.flag),.sc (.int .i64 t.num),.sc (.string t.text),.sl t.keys.length (strsD t.keys),.sl t.kids.length (treesD t.kids),.sc (.string p),.sc (.int .i64 (f).code),.sc (.int .i64 (f).at_),.sc (.string (f).path)]⟩)] 1 (fun d os' nb'=>d = .sl (rList t p f key).1.length (treesD (rList t p f key).1)∧os' = [(0,⟨125,10,1, [.sc (.int .i64 t.kind),.sc (.bool t.flag),.sc (.int .i64 t.num),.sc (.string t.text),.sl t.keys.length (strsD t.keys),.sl t.kids.length (treesD t.kids),.sc (.string p),.sc (.int .i64 ((rList t p f key).2).code),.sc (.int .i64 ((rList t p f key).2).at_),.sc (.string ((rList t p f key).2).path)]⟩)]∧nb' = 1):=(r_list_O t p f hf hp key hkz).sub
theorem r_text_K (t:TreeD) (p:ByteArray) (f:FaultD) (hf:TFine t) (hp:p.size≤4194304) (key:ByteArray) (hkz:key.size≤1048576) (g:FuncId) (caps:List D) (fine:ByteArray→Bool) (hc:caps.all D.held=true) (hg:∀ s:ByteArray,s.size≤1048576→Spec Tryz.prog g ([.sc (.string s)]++caps) (fun d=>d = .sc (.bool (fine s)))):SpecH Tryz.prog 126 [.ptr 0 0,.sc (.string key),.fn g caps] [(0,⟨125,10,1, [.sc (.int .i64 t.kind),.sc (.bool t.flag),.sc (.int .i64 t.num),.sc (.string t.text),.sl t.keys.length (strsD t.keys),.sl t.kids.length (treesD t.kids),.sc (.string p),.sc (.int .i64 (f).code),.sc (.int .i64 (f).at_),.sc (.string (f).path)]⟩)] 1 (fun d os' nb'=>d = .sc (.string (rText t p f key fine).1)∧os' = [(0,⟨125,10,1, [.sc (.int .i64 t.kind),.sc (.bool t.flag),.sc (.int .i64 t.num),.sc (.string t.text),.sl t.keys.length (strsD t.keys),.sl t.kids.length (treesD t.kids),.sc (.string p),.sc (.int .i64 ((rText t p f key fine).2).code),.sc (.int .i64 ((rText t p f key fine).2).at_),.sc (.string ((rText t p f key fine).2).path)]⟩)]∧nb' = 1):=by
  have htz:=textF_sz hf p key;have hgs:=hg _ htz
  refine spH_ (rs:= [.tmp 6]) (nt:=51) Tryz.func126 rfl fun X hX=>?_
  refine nm_ ?_
  repeat' ((first|contradiction|(with_reducible exact tt_)|((with_reducible show Wk (AwStepF _ _ _ _ _ _ _));first|(refine clC_ rfl rfl _ _ hgs rfl rfl hc ?_;rintro _ rfl)|(refine cl_ rfl _ _ (impl_TextField_D t p key hf hp hkz) rfl rfl ?_;rintro _ rfl)|(refine cl_ rfl _ _ (impl_PathKey_D p key (by omega) (by omega)) rfl rfl ?_;rintro _ rfl)|(refine awH_ rfl (r_fail_K t p (textF t p key).2 14 (pathK p key)) [0] ?_;rintro _ _ _ ⟨rfl,rfl,rfl⟩ _))|((with_reducible show Wk (AwStep _ _ _ _ _));first|(refine pln_ ?_))|((with_reducible show Wk (AwCode _ _ _ _ _));first|(refine wtr_ (id:=4) [0] (.early 0 (.early 1 (.early 2 (.early 3 (.early 5 (.early 6 (.early 7 (.early 9 (.two 4 (.one 8 (.one 10 (.early 11 (.early 12 (.early 13 (.early 14 (.early 15 (.early 16 (.one 17 .done))))))))) 8 (.one 4 (.one 10 (.early 11 (.early 12 (.early 13 (.early 14 (.early 15 (.early 16 (.one 17 .done)))))))))))))))))) ?_))|((with_reducible show Wk (boolK _ _ _ _));first|(refine bk_ (fun h h'=>?_) (fun h h'=>?_)))|((with_reducible show Wk (_∧_));first|(refine and_ ?_ ?_))|((with_reducible show Wk (retOkH _ _ _ _ _));first|(refine rh_ [] ?_))|fail)<;>(try refine nm_ ?_))
  all_goals (refine ⟨?_⟩)
  all_goals first|contradiction|(exfalso;omega)|(rw [rText_0 (by omega)]<;>(first|exact ⟨rfl,rfl,rfl⟩|exact ⟨rfl,rfl⟩|rfl))|(rw [rText_1 (by omega),fineF_a (by omega) (by assumption)];done)|(rw [rText_1 (by omega),fineF_a (by omega) (by assumption),rFail_1 (by omega)]<;>(first|exact ⟨rfl,rfl,rfl⟩|exact ⟨rfl,rfl⟩|rfl))|(rw [rText_1 (by omega),fineF_b (by first|exact .inl (by omega)|exact .inr (by assumption))]<;>(first|exact ⟨rfl,rfl,rfl⟩|exact ⟨rfl,rfl⟩|rfl))
theorem needWord_K (i:Int):Spec Tryz.prog 215 [.sc (.int .i64 i)] (fun d=>d = .sc (.string (opWd i))):=by
  refine sp_ (rs:= [.tmp 2]) (nt:=12) Tryz.func215 rfl fun X hX=>?_
  refine nm_ ?_
  repeat' ((first|contradiction|(with_reducible exact tt_)|((with_reducible show Wk (AwStep _ _ _ _ _));first|(refine pln_ ?_))|((with_reducible show Wk (boolK _ _ _ _));first|(refine bk_ (fun h h'=>?_) (fun h h'=>?_)))|((with_reducible show Wk (_∧_));first|(refine and_ ?_ ?_))|fail)<;>(try refine nm_ ?_))
  all_goals (refine ⟨?_⟩)
  all_goals first|contradiction|(exfalso;omega)|(rw [opWd_1 (by omega)];done)|(rw [opWd_2 (by omega)];done)|(rw [opWd_3 (by omega)];done)|(rw [opWd_4 (by omega)];done)|(rw [opWd_0 (by omega)];done)
theorem opOf_K (w:ByteArray):Spec Tryz.prog 129 [.sc (.string w)] (fun d=>d = .sc (.int .i64 (opW w))):=by
  refine sp_ (rs:= [.tmp 2]) (nt:=13) Tryz.func129 rfl fun X hX=>?_
  refine nm_ ?_
  repeat' ((first|contradiction|(with_reducible exact tt_)|((with_reducible show Wk (AwStepF _ _ _ _ _ _ _));first|(refine cl_ rfl _ _ (needWord_K (i:Int)) rfl rfl ?_;rintro _ rfl))|((with_reducible show Wk (AwStep _ _ _ _ _));first|(refine pln_ ?_))|((with_reducible show Wk (AwCode _ _ _ _ _));first|(refine lpU_ 0x9 (ι:=Nat) (fun i=> [(3,.sc (.int .i64 (i:Int)))]) (fun i=>(1≤i∧i≤5)∧wordI opsW w (5 - i) i=wordN opsW w) (fun i=>5 - i) 1 ?_ ?_;(focus (exact ⟨⟨Nat.le_refl _,by omega⟩,rfl⟩));rintro _ hN0 i hinv;(try dsimp only at hinv);obtain ⟨⟨hi1,hi⟩,hR⟩:=hinv;replace hR:=Lib.hid hR;have hwa:=fun h:i < 5=>opWd_at hi1 h;skip))|((with_reducible show Wk (boolK _ _ _ _));first|(refine bk_ (fun h h'=>?_) (fun h h'=>?_)))|((with_reducible show Wk (_∧_));first|(refine and_ ?_ ?_))|(refine hN0.go (i+1) ?_ ?_;(focus (exact ⟨⟨by show 1≤i+1;omega,by show i+1≤5;omega⟩,wordI_go (ws:=opsW) (by show i < 5;omega) (by assumption) hR.out⟩));(focus (show 5 - (i+1) < 5 - i;omega)))|fail)<;>(try refine nm_ ?_))
  all_goals (refine ⟨?_⟩)
  all_goals first|contradiction|(exfalso;omega)|(rw [show opW w=(i:Int) from wordI_hit (ws:=opsW) (by show i < 5;omega) (by assumption) hR.out];done)|(rw [show opW w=0 from wordI_end (ws:=opsW) (by show 5≤i;omega) hR.out];done)
theorem needIn1_K (w:ByteArray):Spec Tryz.prog 128 [.sc (.string w)] (fun d=>d = .sc (.bool (decide (opW w≠0)))):=by
  refine sp_ (rs:= [.tmp 2]) (nt:=6) Tryz.func128 rfl fun X hX=>?_
  refine nm_ ?_
  repeat' ((first|contradiction|(with_reducible exact tt_)|((with_reducible show Wk (AwStepF _ _ _ _ _ _ _));first|(refine cl_ rfl _ _ (opOf_K w) rfl rfl ?_;rintro _ rfl))|((with_reducible show Wk (AwStep _ _ _ _ _));first|(refine pln_ ?_))|((with_reducible show Wk (boolK _ _ _ _));first|(refine bk_ (fun h h'=>?_) (fun h h'=>?_)))|((with_reducible show Wk (_∧_));first|(refine and_ ?_ ?_))|fail)<;>(try refine nm_ ?_))
  all_goals (refine ⟨?_⟩)
  all_goals first|contradiction|(exfalso;omega)|rfl|(congr 2;simp [bne];done)|(congr 2;by_cases h:opW w=0<;>simp [h];done)
theorem rList_len (t:TreeD) (p:ByteArray) (f:FaultD) (key:ByteArray):(rList t p f key).1.length≤40:=by
  unfold rList
  split
  · exact listF_len t p key
  · exact Nat.zero_le _
theorem rList_fine {t:TreeD} (hf:TFine t) (p:ByteArray) (f:FaultD) (key:ByteArray) {x:TreeD} (h:x ∈ (rList t p f key).1):TFine x:=by
  unfold rList at h
  split at h
  · exact listF_fine hf p key 40 h
  · cases h
end Go.Proofs.YtidjjfjhmlndjaaGreatDoor
