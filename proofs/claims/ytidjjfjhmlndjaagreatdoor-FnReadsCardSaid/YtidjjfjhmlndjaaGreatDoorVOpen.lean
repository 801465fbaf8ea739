/- Open, OpenBt (what is wanted of them). -/
import Derived.Test.YtidjjfjhmlndjaaGreatDoorRows
import Derived.Test.YtidjjfjhmlndjaaGreatDoorVAwa
import Derived.ProofKit
import Derived.OpenShut
import Derived.Deep.Slices
import Derived.Test.YtidjjfjhmlndjaaGreatDoorVAwb
namespace Go.Proofs.YtidjjfjhmlndjaaGreatDoor
open Go.RowKit Go.ChangeShapes Go.WideShapes
theorem ownKnobNone:ownKnob Tryz.prog.godebug=none:=by kernel_rfl
theorem laidOutYes:laidOutB Tryz.prog=true:=by kernel_rfl
section
variable {H:Type}{enc:TypeId × Value→H}{P:Program}{w:World}
/-- The cells cs can be read at type t. -/
def Rdb (enc:TypeId × Value→H) (P:Program) (w:World) (t:TypeId) (cs:List Value):Prop:=∃ fuel x,DataW.trod enc P w 0 (fun _=>true) true fuel t cs=some x
theorem rdb_u8 {t:TypeId}{cs:List Value} (ht:P.underlying t=some (.int .u8)) (h:Rdb enc P w t cs):∃ n:Int,cs = [.int .u8 n]∧0≤n∧n≤255:=by
  obtain ⟨_,_,h⟩:=h
  obtain ⟨n,h1,_,h2⟩:=DataW.trod_int ht h
  refine ⟨n,h1,?_⟩
  simpa [Lit.wf,IntKind.min,IntKind.max,IntKind.signed,IntKind.bits] using h2
theorem choose_list {α:Type}{p:Nat→α→Prop}:∀ (n:Nat),(∀ i,i < n→∃ x,p i x)→∃ xs:List α,xs.length=n∧∀ i (h:i < xs.length),p i xs[i]
  |0,_=>⟨[],rfl,fun i h=>by simp at h⟩
  |n+1,h=>by
    obtain ⟨xs,hl,hx⟩:=choose_list n fun i hi=>h i (by omega)
    obtain ⟨x,hx'⟩:=h n (by omega)
    refine ⟨xs ++ [x],by simp [hl],fun i hi=>?_⟩
    by_cases hlt:i < xs.length
    · rw [List.getElem_append_left hlt];exact hx i hlt
    · have:i=n:=by simp at hi;omega
      subst this
      rw [List.getElem_append_right (by omega)]
      simpa [hl] using hx'
/-- A slice whose elements' cells read as data. -/
theorem rdb_slice {α:Type}{t e:TypeId}{cs:List Value}{size:Nat}{R:World→Nat→List Value→α→Prop} (ht:P.underlying t=some (.slice e)) (hs:P.cellsOf e=size) (h0:0 < size)
    (hR:∀ cs',Rdb enc P w e cs'→∃ x:α,R w w.heap.size cs' x) (h:Rdb enc P w t cs):∃ (v:Value) (xs:List α),cs = [v]∧SlR size R w w.heap.size v xs:=by
  obtain ⟨_,x,h⟩:=h
  rcases Go.Deep.open_slice ht h with ⟨rfl,_⟩|⟨a,len,cap,m,n,D,Pl,rfl,_,hl,hm,hmm,_,hi⟩
  · exact ⟨_, [],rfl,SlR.nil w _⟩
  · rw [hs] at hi
    have hmlen:len≤m:=by rw [hmm];simpa using hl
    obtain ⟨xs, hxl, hxs⟩ := choose_list (p := fun i x => ∃ b o cs', some a = some ⟨b, o, none⟩ ∧ b < w.heap.size ∧ cs'.length = size ∧ CellsAt w b (o + i * size) cs' ∧ R w w.heap.size cs' x) len (fun i hil => by
      obtain ⟨cs',h1,h2⟩:=hi i (by omega)
      obtain ⟨x,hx⟩:=hR cs' ⟨_,_,h2⟩
      obtain ⟨_,hlen,hat⟩:=World.cells?_some h1
      obtain ⟨cs0,h10,_⟩:=hi 0 (by omega)
      obtain ⟨_,hlen0,hat0⟩:=World.cells?_some h10
      have hz:=hat0 0 h0
      rw [List.getElem?_eq_getElem (by omega)] at hz
      have hspot:a.spot=none:=by
        rcases hsp:a.spot with _|q
        · rfl
        · simp [Addr.add,World.cell?, hsp] at hz
          split at hz<;>simp at hz
      obtain ⟨b,o,sp⟩:=a
      simp only at hspot
      subst hspot
      have hb:b < w.heap.size:=by
        have:=World.block_lt_of_cell? w _ hz
        simpa [Addr.add] using this
      refine ⟨x,b,o,cs',rfl,hb,hlen,fun j hj=>?_,hx⟩
      have:=hat j (by omega)
      rw [Addr.add_lit,Addr.add_lit] at this
      exact this)
    exact ⟨_,xs,rfl,some a,cap,by rw [hxl],by rw [hxl];exact hl,hm,fun i hi=>hxs i hi⟩
theorem rdb_of_trod {t:TypeId}{v:Value}{d:DataW H}{p:List MemPlace} (h:DataW.Trod enc P w 0 (fun _=>true) true t v d p):Rdb enc P w t v.cells.toList:=by
  obtain ⟨f,h⟩:=h
  exact ⟨f,_,h⟩
theorem trodAll_stays (hl:laidOutB P=true) {W W':World}{sp:Nat→Bool}:∀ {ts:List TypeId}{vs:List Value}{ds:List (DataW H)}{ps:List MemPlace},(∀ t ∈ ts,P.readableRec t=true∧t < P.types.size)→
    DataW.TrodAll enc P W 0 (fun _=>true) true ts vs ds ps→(∀ p ∈ ps,W.sameAt W' p)→(∀ p ∈ ps,sp p.block=true)→DataW.TrodAll enc P W' 0 sp true ts vs ds ps
  | [], [], [],_,_,h,_,_=>h
  |t::ts,v::vs,d::ds,ps,ht,h,hsame,hsp=>by
    obtain ⟨p,q,h1,h2,rfl⟩:=h
    obtain ⟨hr,hrow⟩:=ht t (List.mem_cons_self ..)
    exact ⟨p, q, Go.WideElems.Trod_stays hl hr hrow h1 (fun x hx => hsame x (List.mem_append_left _ hx)) (fun x hx => hsp x (List.mem_append_left _ hx)),
      trodAll_stays hl (fun t h => ht t (List.mem_cons_of_mem _ h)) h2 (fun x hx => hsame x (List.mem_append_right _ hx)) (fun x hx => hsp x (List.mem_append_right _ hx)), rfl⟩
theorem reads_all {l:List TypeId} (h:(l.all fun t=>P.readableRec t&&decide (t < P.types.size))=true):∀ t ∈ l,P.readableRec t=true∧t < P.types.size:=by
  intro t ht
  have:=List.all_eq_true.1 h t ht
  rw [Bool.and_eq_true] at this
  exact ⟨this.1,of_decide_eq_true this.2⟩
/-- What a law's row asks behind the call: it returned true, and below the heap's size at the call nothing has changed. -/
theorem law_post {f:Func}{s:ChangeSpec}{W W':World}{args:Array Value}{ds gs:List (DataW H)}{before:List MemPlace}{tb:TypeId} (hl:laidOutB P=true)
    (hread:∀ t ∈ f.params.toList,P.readableRec t=true∧t < P.types.size) (hres:f.resultTypes.toList = [tb]) (hn:f.resultTypes.size=1) (hb:P.underlying tb=some .bool)
    (hvars:s.vars = []) (hW:DataW.Whole enc P f.params.toList s.vars false W args.toList ds gs before)
    (hfn:(s.fn H (ds++gs)).results = [.lit (.bool true)]∧(s.fn H (ds++gs)).args=ds∧(s.fn H (ds++gs)).vars = []) (h:Below W.heap.size W W'):
    s.post enc P f false true false false W args (.bool true) W':=by
  have hW0:=hW
  have hlt:∀ p ∈ before,p.block < W.heap.size:=fun p hp=>hW.lt p hp
  obtain ⟨p,q,hA,hV,rfl,_,_⟩:=hW
  refine ⟨ds,gs,p++q, [],p, [],hW0,?_,?_,?_,World.keptBut_mono (fun _ hx=>hx.elim) (h.frame (fun _=>False)),fun h=>by cases h⟩
  · rw [hfn.1,hres,hn]
    exact trodAll_mk1 (shut_bool hb true)
  · rw [hfn.2.1]
    exact trodAll_stays hl hread hA (fun x hx=>h.same (hlt x (List.mem_append_left _ hx))) (fun x hx=>by simpa using hlt x (List.mem_append_left _ hx))
  · rw [hfn.2.2,hvars]
    rfl
end
end Go.Proofs.YtidjjfjhmlndjaaGreatDoor
namespace Go.Proofs.YtidjjfjhmlndjaaGreatDoor
open Go.RowKit Go.ChangeShapes Go.WideShapes
def u8Cells (n:Int):List Value:= [.int .u8 n]
theorem u8Cells_len (n:Int):(u8Cells n).length=1:=rfl
theorem u8Cells_one:∀ (x:Int),∀ v ∈ u8Cells x,v.oneCell' = true:=by
  intro x v hv
  simp [u8Cells] at hv
  subst hv
  rfl
theorem bytes_enc (ns:List Int):enc u8Cells ns=u8D ns:=by
  induction ns with
  |nil=>rfl
  |cons k ks ih=>show .sc (.int .u8 k)::enc u8Cells ks=_;rw [ih];rfl
theorem cellsU8:Tryz.prog.cellsOf 5=1:=by kernel_rfl
/-- What comes in as a slice of bytes. -/
def BytesR (w:World) (v:Value) (ns:List Int):Prop:=Rep (roEnv fun b=>b < w.heap.size) w (.sl ns.length (u8D ns)) v∧ns.length≤9223372036854775807
set_option maxRecDepth 100000 in
theorem open_Bytes {H:Type}{enc:TypeId × Value→H}{w:World}{v:Value}{d:DataW H}{p:List MemPlace}{base:Nat} (hv:Value.okWide Tryz.prog w .any base 74 v) (h:DataW.Trod enc Tryz.prog w 0 (fun _=>true) true 74 v d p):
    ∃ ns:List Int,BytesR w v ns:=by
  obtain ⟨a,n,c,rfl⟩:=okWide_slice Tryz.underlying74 hv
  obtain ⟨u, ns, e, hs⟩ := rdb_slice (α := Int) (R := Flat u8Cells fun n => 0 ≤ n ∧ n ≤ 255) Tryz.underlying74 cellsU8 (by omega) (fun cs' h' => by
    obtain ⟨n,e,g⟩:=rdb_u8 Tryz.underlying5 h'
    exact ⟨n, e, g⟩) (rdb_of_trod h)
  have hu:Value.slice a n c=u:=by simpa [Value.cells] using e
  subst hu
  have hr:=rep_sl u8Cells_len u8Cells_one hs (E:=roEnv fun b=>b < w.heap.size) fun b hb=>hb
  rw [bytes_enc] at hr
  obtain ⟨A,c',_,hc,hm,_⟩:=hs
  unfold maxLen at hm
  exact ⟨ns,hr,by omega⟩
end Go.Proofs.YtidjjfjhmlndjaaGreatDoor
