/- OpenCl (what is wanted of them). -/
import Derived.Test.YtidjjfjhmlndjaaGreatDoorVOpen
import Derived.Test.YtidjjfjhmlndjaaGreatDoorVCl10
namespace Go.Proofs.YtidjjfjhmlndjaaGreatDoor
open Go.RowKit Go.ChangeShapes Go.WideShapes
/-- Cells that read as data. -/
def CR (w:World):List D→List Value→Prop
  | [], []=>True
  |d::ds,v::vs=>(RepP (fun b=>b < w.heap.size) w d v∧v.oneCell' = true)∧CR w ds vs
  |_,_=>False
theorem CR_at {w:World}:∀ {ds:List D}{vs:List Value},CR w ds vs→vs.length=ds.length∧∀ (j:Nat) (d:D) (v:Value),ds[j]? = some d→vs[j]? = some v→RepP (fun b=>b < w.heap.size) w d v∧v.oneCell' = true
  | [], [],_=>⟨rfl,fun j d v h=>by simp at h⟩
  |d::ds,v::vs,h=>by
    obtain ⟨h1,h2⟩:=CR_at h.2
    refine ⟨by simp [h1],fun j e u he hu=>?_⟩
    rcases j with _|j
    · simp only [List.getElem?_cons_zero,Option.some.injEq] at he hu
      subst he;subst hu
      exact h.1
    · exact h2 j e u (by simpa using he) (by simpa using hu)
  | [],_::_,h=>h.elim
  |_::_, [],h=>h.elim
theorem CR_str {w:World} (s:ByteArray):RepP (fun b=>b < w.heap.size) w (.sc (.string s)) (.string s)∧Value.oneCell' (.string s)=true:=⟨.sc _ rfl,rfl⟩
theorem CR_int {w:World} (n:Int):RepP (fun b=>b < w.heap.size) w (.sc (.int .i64 n)) (.int .i64 n)∧Value.oneCell' (.int .i64 n)=true:=⟨.sc _ rfl,rfl⟩
theorem CR_bool {w:World} (b:Bool):RepP (fun b=>b < w.heap.size) w (.sc (.bool b)) (.bool b)∧Value.oneCell' (.bool b)=true:=⟨.sc _ rfl,rfl⟩
theorem CR_sl {w:World}{n:Nat}{cs:List D}{v:Value} (h:RepP (fun b=>b < w.heap.size) w (.sl n cs) v):RepP (fun b=>b < w.heap.size) w (.sl n cs) v∧v.oneCell' = true:=⟨h,by cases h;rfl⟩
/-- A row whose things read as data. -/
theorem rep_rows {α:Type} [Inhabited α] {cells:α→List D}{ok:α→Prop}{size:Nat} (hs:∀ x,(cells x).length=size) (h0:0 < size) {w:World}{v:Value}{xs:List α} (h:SlR size (fun w _ cs x=>CR w (cells x) cs∧ok x) w w.heap.size v xs):
    RepP (fun b=>b < w.heap.size) w (.sl xs.length (flatD cells xs)) v∧xs.length≤maxLen∧∀ x ∈ xs,ok x:=by
  obtain ⟨A,c,rfl,hn,hc,h⟩:=h
  obtain ⟨us, hul, hus⟩ := choose_list (p := fun j v => (∃ b o, A = some ⟨b, o, none⟩ ∧ b < w.heap.size ∧ w.cell? ⟨b, o + j, none⟩ = some v) ∧ ∀ d, (flatD cells xs)[j]? = some d → RepP (fun b => b < w.heap.size) w d v) (xs.length * size) (fun j hj => by
    have hi:j / size < xs.length:=Nat.div_lt_of_lt_mul (by rw [Nat.mul_comm];exact hj)
    have hm:=Nat.mod_lt j h0
    have hjj:j / size*size+j % size=j:=by rw [Nat.mul_comm];exact Nat.div_add_mod j size
    obtain ⟨b,o,cs,hA,hb,hl,hcs,hx,_⟩:=h _ hi
    obtain ⟨h1,h2⟩:=CR_at hx
    have hlt:j % size < cs.length:=by rw [hl];exact hm
    refine ⟨cs[j % size],⟨b,o,hA,hb,?_⟩,fun d hd=>?_⟩
    · have h5:=hcs (j % size) hlt
      rw [Nat.add_assoc,hjj] at h5
      rw [h5,List.getElem?_eq_getElem hlt]
    · have h6:=flat_cell hs xs (j / size) (j % size) hi hm
      rw [hjj,hd] at h6
      have h7:xs.getD (j / size) default=xs[j / size]:=by simp [hi]
      rw [h7] at h6
      exact (h2 _ d _ h6.symm (List.getElem?_eq_getElem hlt)).1)
  refine ⟨.sl _ _ A c us (by rw [hul,flat_len hs]) hn hc (fun j u hu=>?_) (fun j d u hd hu=>?_),by omega,fun x hx=>?_⟩
  · obtain ⟨hj,rfl⟩:=List.getElem?_eq_some_iff.1 hu
    obtain ⟨⟨b,o,h1,h2,h3⟩,_⟩:=hus j hj
    exact ⟨b,o,h1,h2,h3⟩
  · obtain ⟨hj,rfl⟩:=List.getElem?_eq_some_iff.1 hu
    exact (hus j hj).2 d hd
  · obtain ⟨i,hi,rfl⟩:=List.getElem_of_mem hx
    obtain ⟨b,o,cs,_,_,_,_,_,h2⟩:=h i hi
    exact h2
theorem row_raw {α:Type} [Inhabited α] {ok:α→Prop}{xs:List α} (hd:ok default) (hl:xs.length≤maxLen) (h:∀ x ∈ xs,ok x):rowRaw ok xs:=by
  refine ⟨by unfold maxLen at hl;omega,fun k=>?_⟩
  rw [List.getD_eq_getElem?_getD]
  cases e:xs[k]? with
  |none=>exact hd
  |some x=>exact h x (List.mem_of_getElem? e)
theorem str_r:strRaw default:=by decide
theorem ms {s:ByteArray} (h:s.size≤maxLen):strRaw s:=Nat.le_trans h (by unfold maxLen;omega)
theorem strs_flat (xs:List ByteArray):strsD xs=flatD (fun x=> [.sc (.string x)]) xs:=by
  unfold strsD flatD
  induction xs with
  |nil=>rfl
  |cons x r ih=>simpa using ih
section
variable {H:Type}{enc:TypeId × Value→H}{w:World}
theorem ofString:Tryz.prog.cellsOf 9=1:=by kernel_rfl
theorem ofInt:Tryz.prog.cellsOf 3=1:=by kernel_rfl
theorem ofBool:Tryz.prog.cellsOf 4=1:=by kernel_rfl
theorem ofStrings:Tryz.prog.cellsOf 29=1:=by kernel_rfl
theorem rdb_strings {cs:List Value} (h:Rdb enc Tryz.prog w 29 cs):∃ (v:Value) (xs:List ByteArray),cs = [v]∧RepP (fun b=>b < w.heap.size) w (.sl xs.length (strsD xs)) v∧rowRaw strRaw xs:=by
  obtain ⟨v, xs, e, hr⟩ := rdb_slice (α := ByteArray) (R := fun w _ cs x => CR w [.sc (.string x)] cs ∧ strRaw x) Tryz.underlying29 ofString (by omega) (fun cs' h' => by
    obtain ⟨s,rfl,hs⟩:=rdb_string Tryz.underlying9 h'
    exact ⟨s, ⟨CR_str s, trivial⟩, ms hs⟩) h
  obtain ⟨h1,h2,h3⟩:=rep_rows (size:=1) (cells:=fun x=> [.sc (.string x)]) (fun _=>rfl) (by omega) hr
  refine ⟨v,xs,e,?_,row_raw str_r h2 h3⟩
  rw [strs_flat]
  exact h1
def ClusterD.cells (c:ClusterD):List D:= [.sl c.hosts.length (hostsD c.hosts),.sl c.pods.length (placedsD c.pods),.sc (.int .i64 c.next),.sc (.int .i64 c.w1),.sc (.int .i64 c.w2),.sc (.int .i64 c.w3)]
end
end Go.Proofs.YtidjjfjhmlndjaaGreatDoor
