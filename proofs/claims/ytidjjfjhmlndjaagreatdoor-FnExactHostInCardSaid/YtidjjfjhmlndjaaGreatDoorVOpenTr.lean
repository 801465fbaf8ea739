/- OpenTr (what is wanted of them). -/
import Derived.Test.YtidjjfjhmlndjaaGreatDoorVOpenCl
import Derived.Test.YtidjjfjhmlndjaaGreatDoorVNt1
namespace Go.Proofs.YtidjjfjhmlndjaaGreatDoor
open Go.RowKit Go.ChangeShapes Go.WideShapes
section
variable {H:Type}{enc:TypeId × Value→H}{w:World}
theorem rdb_sliceX {α:Type}{t e:TypeId}{cs:List Value}{size fuel:Nat}{x:DataW H × List MemPlace}{R:World→Nat→List Value→α→Prop} (ht:Tryz.prog.underlying t=some (.slice e)) (hs:Tryz.prog.cellsOf e=size) (h0:0 < size)
    (hR:∀ (cs':List Value) (n:Nat) (y:DataW H × List MemPlace),SizeOf.sizeOf y.1 < SizeOf.sizeOf x.1→DataW.trod enc Tryz.prog w 0 (fun _=>true) true n e cs' = some y→∃ a:α,R w w.heap.size cs' a) (h:DataW.trod enc Tryz.prog w 0 (fun _=>true) true fuel t cs=some x):∃ (v:Value) (xs:List α),cs = [v]∧SlR size R w w.heap.size v xs:=by
  rcases Go.Deep.open_slice ht h with ⟨rfl,_⟩|⟨a,len,cap,m,n,D,Pl,rfl,_,hl,hm,hmm,hx,hi⟩
  · exact ⟨_, [],rfl,SlR.nil w _⟩
  · rw [hs] at hi
    have hmlen:len≤m:=by rw [hmm];simpa using hl
    have hsz:∀ i,i < len→SizeOf.sizeOf (D i) < SizeOf.sizeOf x.1:=fun i hil=>by
      have h1:SizeOf.sizeOf (D i) < SizeOf.sizeOf ((List.range len).map D):=List.sizeOf_lt_of_mem (List.mem_map.2 ⟨i,List.mem_range.2 hil,rfl⟩)
      rw [hx]
      simp only [DataW.slice.sizeOf_spec]
      omega
    obtain ⟨xs, hxl, hxs⟩ := choose_list (p := fun i x => ∃ b o cs', some a = some ⟨b, o, none⟩ ∧ b < w.heap.size ∧ cs'.length = size ∧ CellsAt w b (o + i * size) cs' ∧ R w w.heap.size cs' x) len (fun i hil => by
      obtain ⟨cs',h1,h2⟩:=hi i (by omega)
      obtain ⟨x9,hx9⟩:=hR cs' n (D i,Pl i) (hsz i hil) h2
      obtain ⟨_,hlen,hat⟩:=World.cells?_some h1
      obtain ⟨cs0,h10,_⟩:=hi 0 (by omega)
      obtain ⟨_,hlen0,hat0⟩:=World.cells?_some h10
      have hz:=hat0 0 h0
      rw [List.getElem?_eq_getElem (by omega)] at hz
      have hspot:a.spot=none:=by
        rcases hsp:a.spot with _|q
        · rfl
        · simp [Addr.add,World.cell?, hsp] at hz
          split at hz<;>simp at hz
      obtain ⟨b,o,sp⟩:=a
      simp only at hspot
      subst hspot
      have hb:b < w.heap.size:=by
        have:=World.block_lt_of_cell? w _ hz
        simpa [Addr.add] using this
      refine ⟨x9,b,o,cs',rfl,hb,hlen,fun j hj=>?_,hx9⟩
      have:=hat j (by omega)
      rw [Addr.add_lit,Addr.add_lit] at this
      exact this)
    exact ⟨_,xs,rfl,some a,cap,by rw [hxl],by rw [hxl];exact hl,hm,fun i hi=>hxs i hi⟩
theorem ofTree:Tryz.prog.cellsOf 58=6:=by kernel_rfl
theorem ofSTree:Tryz.prog.cellsOf 42=1:=by kernel_rfl
theorem rdb_STree {cs:List Value}{fuel:Nat}{x:DataW H × List MemPlace} (h:DataW.trod enc Tryz.prog w 0 (fun _=>true) true fuel 42 cs=some x)
    (hR:∀ (cs':List Value) (n:Nat) (y:DataW H × List MemPlace),SizeOf.sizeOf y.1 < SizeOf.sizeOf x.1→DataW.trod enc Tryz.prog w 0 (fun _=>true) true n 58 cs' = some y→∃ t:TreeD,CR w (treeC t) cs'∧TRaw t):∃ (v:Value) (xs:List TreeD),cs = [v]∧RepP (fun b=>b < w.heap.size) w (.sl xs.length (treesD xs)) v∧xs.length≤9223372036854775807∧∀ t ∈ xs,TRaw t:=by
  obtain ⟨v, xs, e, hr⟩ := rdb_sliceX (α := TreeD) (R := fun w _ cs t => CR w (treeCells t) cs ∧ TRaw t) Tryz.underlying42 ofTree (by decide) (fun cs' n y hy h' => by
    obtain ⟨t,h1,h2⟩:=hR cs' n y hy h'
    exact ⟨t, by rw [treeCells_eq]; exact h1, h2⟩) h
  obtain ⟨h1,h2,h3⟩:=rep_rows (cells:=treeCells) treeCells_len (by decide) hr
  exact ⟨v,xs,e,h1,by unfold maxLen at h2;omega,h3⟩
set_option maxRecDepth 100000 in
theorem rdb_Tree:∀ (k:Nat) (x:DataW H × List MemPlace),SizeOf.sizeOf x.1≤k→∀ (cs:List Value) (fuel:Nat),DataW.trod enc Tryz.prog w 0 (fun _=>true) true fuel 58 cs=some x→∃ t:TreeD,CR w (treeC t) cs∧TRaw t
  |0,x,hk,_,_,_=>by
    exfalso
    obtain ⟨d,_⟩:=x
    cases d<;>simp at hk
  |k+1,x,hk,cs,fuel,h=>by
    have hrd:Rdb enc Tryz.prog w 58 cs:=⟨fuel,x,h⟩
    obtain ⟨hl,hf⟩:=rdb_struct Tryz.underlying58 hrd
    obtain ⟨xs,n,_,hx,_,hxl,hxf⟩:=DataW.trod_struct Tryz.underlying58 h
    rw [ofTree] at hl
    match cs,hl with
    | [c0,c1,c2,c3,c4,c5],_=>
      have h0:Rdb enc Tryz.prog w 3 (([c0,c1,c2,c3,c4,c5].drop 0).take (Tryz.prog.cellsOf 3)):=hf 0 _ rfl
      have h1:Rdb enc Tryz.prog w 4 (([c0,c1,c2,c3,c4,c5].drop 1).take (Tryz.prog.cellsOf 4)):=hf 1 _ rfl
      have h2:Rdb enc Tryz.prog w 3 (([c0,c1,c2,c3,c4,c5].drop 2).take (Tryz.prog.cellsOf 3)):=hf 2 _ rfl
      have h3:Rdb enc Tryz.prog w 9 (([c0,c1,c2,c3,c4,c5].drop 3).take (Tryz.prog.cellsOf 9)):=hf 3 _ rfl
      have h4:Rdb enc Tryz.prog w 29 (([c0,c1,c2,c3,c4,c5].drop 4).take (Tryz.prog.cellsOf 29)):=hf 4 _ rfl
      have h5:DataW.trod enc Tryz.prog w 0 (fun _=>true) true n 42 (([c0,c1,c2,c3,c4,c5].drop 5).take (Tryz.prog.cellsOf 42))=xs[5]? :=hxf 5 _ rfl
      rw [ofInt] at h0 h2
      rw [ofBool] at h1
      rw [ofString] at h3
      rw [ofStrings] at h4
      rw [ofSTree] at h5
      obtain ⟨s0,e0,k0⟩:=rdb_int Tryz.underlying3 h0
      obtain ⟨s1,e1⟩:=rdb_bool Tryz.underlying4 h1
      obtain ⟨s2,e2,k2⟩:=rdb_int Tryz.underlying3 h2
      obtain ⟨s3,e3,k3⟩:=rdb_string Tryz.underlying9 h3
      obtain ⟨v4,s4,e4,r4,k4⟩:=rdb_strings h4
      have hx5:5 < xs.length:=by rw [hxl];decide
      rw [List.getElem?_eq_getElem hx5] at h5
      have hs5:SizeOf.sizeOf (xs[5]).1 < SizeOf.sizeOf x.1:=by
        have h6:SizeOf.sizeOf (xs[5]).1 < SizeOf.sizeOf (xs.map (·.1)):=List.sizeOf_lt_of_mem (List.mem_map.2 ⟨xs[5],List.getElem_mem hx5,rfl⟩)
        rw [hx]
        simp only [DataW.agg.sizeOf_spec]
        omega
      obtain ⟨v5,s5,e5,r5,k5,q5⟩:=rdb_STree h5 fun cs' m y hy h'=>rdb_Tree k y (by omega) cs' m h'
      obtain rfl:c0 = .int .i64 s0:=List.head_eq_of_cons_eq e0
      obtain rfl:c1 = .bool s1:=List.head_eq_of_cons_eq e1
      obtain rfl:c2 = .int .i64 s2:=List.head_eq_of_cons_eq e2
      obtain rfl:c3 = .string s3:=List.head_eq_of_cons_eq e3
      obtain rfl:c4=v4:=List.head_eq_of_cons_eq e4
      obtain rfl:c5=v5:=List.head_eq_of_cons_eq e5
      exact ⟨⟨s0,s1,s2,s3,s4,s5⟩,⟨CR_int s0,CR_bool s1,CR_int s2,CR_str s3,CR_sl r4,CR_sl r5,trivial⟩,.mk (ms k3) k2 k4 k5 q5⟩
set_option maxRecDepth 100000 in
theorem open_Tree {v:Value}{d:DataW H}{p:List MemPlace}{base:Nat} (hv:Value.okWide Tryz.prog w .any base 58 v) (h:DataW.Trod enc Tryz.prog w 0 (fun _=>true) true 58 v d p):
    ∃ t:TreeD,Rep (roEnv fun b=>b < w.heap.size) w (.agg (treeC t)) v∧TRaw t:=by
  obtain ⟨cs,rfl,_⟩:=okWide_struct Tryz.underlying58 hv
  obtain ⟨fuel,h⟩:=h
  obtain ⟨t,hr,hk⟩:=rdb_Tree _ _ (Nat.le_refl _) _ _ h
  refine ⟨t,⟨cs.toList,by simp,?_,fun j d v hd hv=>?_⟩,hk⟩
  · have:=(CR_at hr).1
    simpa [Value.cells] using this
  · have h2:=(CR_at hr).2 j d v hd (by simpa [Value.cells] using hv)
    exact ⟨h2.1.to1.1,h2.2⟩
end
end Go.Proofs.YtidjjfjhmlndjaaGreatDoor
