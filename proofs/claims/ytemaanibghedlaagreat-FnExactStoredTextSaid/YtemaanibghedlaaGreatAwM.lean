/- The logic over data: bytes to a string. -/
import Derived.Test.YtemaanibghedlaaGreatAwL
import Derived.Laws.BytesString
import Derived.Laws.MakeOwn
namespace Go.Proofs.YtemaanibghedlaaGreat
open Go.RowKit

def u8D (ns : List Int) : List D := ns.map fun b => .sc (.int .u8 b)
def strOf (ns : List Int) : ByteArray := ns.foldl (fun r n => r.push (UInt8.ofNat n.toNat)) ByteArray.empty
theorem strOf_size (ns : List Int) : (strOf ns).size = ns.length := by
  have : ∀ (ns : List Int) (r : ByteArray), (ns.foldl (fun r n => r.push (UInt8.ofNat n.toNat)) r).size = r.size + ns.length := by
    intro ns
    induction ns with
    | nil => intro r; simp
    | cons n ns ih => intro r; rw [List.foldl_cons, ih, ByteArray.size_push, List.length_cons]; omega
  have h := this ns ByteArray.empty
  simpa [strOf] using h
theorem awbytes {X : Ctx} {P : Program} {o : Oper} {s : St} {wr : List Nat} {nb : Nat} {src dst e : TypeId} {x : Operand} {K : St → Prop} (ho : o.op = .convert src dst x) (hs : P.underlying src = some (.slice e)) (he : P.underlying e = some (.int .u8)) (hd : isStr P dst = true)
    (ns : List Int) (hsrc : srcD s (s.ev x) = some (ns.length, u8D ns)) (hk : K (s.put o.dst (.sc (.string (strOf ns))))) : AwStepF X P o s wr nb K := by
  refine ⟨fun E a w K' R hr hK => ?_⟩
  obtain ⟨news, hnl, ⟨A, c, hv, hat⟩, hrep⟩ := flat_of hr hsrc 1 (by omega) (by simp [u8D])
  have hnews : news = ns.map (Value.int .u8) := by
    refine List.ext_getElem? fun j => ?_
    by_cases hj : j < ns.length
    · have hj2 : j < news.length := by rw [hnl]; simpa [u8D] using hj
      have h1 := (hrep j (.sc (.int .u8 ns[j])) news[j] (by simp [u8D, hj]) (List.getElem?_eq_getElem hj2)).1
      rw [List.getElem?_eq_getElem hj2, h1.1]
      simp [hj]
    · rw [List.getElem?_eq_none (by rw [hnl]; simpa [u8D] using hj), List.getElem?_eq_none (by simpa using hj)]
  have hrun : (Conv.bytesToString (.slice A ns.length c)).run P w = .ok (.string (strOf ns)) w := by
    cases A with
    | none =>
      have h0 : ns = [] := by
        rcases Nat.eq_zero_or_pos ns.length with h | h
        · exact List.eq_nil_of_length_eq_zero h
        · obtain ⟨_, _, h2, _⟩ := hat h; cases h2
      subst h0
      simp [Conv.bytesToString, strOf]
    | some ad =>
      refine run_bytesToString w ad _ c ns ?_
      have h1 := run_loadCells_list (P := P) (w := w) ad (ns.map (Value.int .u8)) fun j v hj => by
        have hpos : 0 < ns.length := by
          have := (List.getElem?_eq_some_iff.1 hj).1
          simp at this
          omega
        obtain ⟨b, oo, h2, _, h3⟩ := hat hpos
        obtain rfl : ad = ⟨b, oo, none⟩ := by simpa using h2
        rw [Addr.add_lit]
        exact h3 j v (by rw [hnews]; exact hj)
      simpa using h1
  unfold Oper.wp
  rw [show (execOp a.eval o).run P w = .ok (.value (.string (strOf ns))) w by
    simp only [execOp, ho, hv, Sem.run_bind, run_convert_bytes_string w src dst e A ns.length c hs he (isStr_ hd), hrun, Result.andThen_ok]
    rfl]
  exact hK _ _ _ _ hk (hr.put o.dst ⟨rfl, rfl⟩) (FrT.of (Fr.same none E w))
theorem awop_make {X : Ctx} {P : Program} {o : Oper} {s : St} {t e : TypeId} {l c : Operand} (ho : o.op = .makeSlice t l c) {k k' : IntKind} {n : Nat} (hl : s.ev l = .sc (.int k n)) (hc : s.ev c = .sc (.int k' n)) {size bytes : Nat} {z : Value}
    (hel : elemK P t = some (e, size)) (hinfo : (P.info? e).map (fun i => (i.zero, i.size, i.bytes)) = some (some z, size, bytes)) (h1 : z.cells.toList.all Value.oneCell' = true) (hzs : (zeroD z).length = size) (hsz : n * size ≤ 16777216)
    (hbytes : (bytes : Int) * n ≤ 281474976710656) (h63 : n ≤ maxLen) : AwOp X P o s ((s.newOb ⟨e, size, n, rowD (zeroD z) n⟩).put o.dst (.own s.nb 0 n)) := by
  obtain ⟨hu, _⟩ := elemK_ hel
  obtain ⟨inf, hi, hz, hsize, hby⟩ := info_parts hinfo
  refine awop_new (rowD_nt (sc_nt _) _) fun E a w hr => ?_
  obtain ⟨h5, h6⟩ := zero_cells (E := E) (w := w) h1
  have hl' : a.eval l = .int k n := by have := hr.ev l; rw [hl] at this; exact this.1
  have hc' : a.eval c = .int k' n := by have := hr.ev c; rw [hc] at this; exact this.1
  have hrun := run_makeSlice (P := P) (w := w) t e inf z hu hi hz k k' n n (by omega) (Int.le_refl _) (by rw [hsize]; simpa using hsz) (by rw [hby]; exact hbytes) (by unfold maxLen at h63; omega)
  refine ⟨madeCells z.cells (n * size), n, .slice (some ⟨w.heap.size, 0, none⟩) n n, ?_, ?_, Nat.le_refl _, h63, ?_, fun j d hd => ?_, .inl ⟨_, n, Env.with_at, rfl, Nat.le_refl _, h63, fun _ => rfl⟩⟩
  · simp only [execOp, ho, hl', hc', Sem.run_bind, hrun, Result.andThen_ok, hsize, Int.toNat_natCast]
    rfl
  · show (rowD (zeroD z) n).length = n * size
    rw [rowD_len, hzs]
  · simp [madeCells]
  · have hd' : (rowD (zeroD z) n)[j]? = some d := hd
    have hj : j < n * size := by
      have := (List.getElem?_eq_some_iff.1 hd').1
      rw [rowD_len, hzs] at this
      exact this
    rw [rowD_at _ _ _ (by rw [hzs]; exact hj), hzs] at hd'
    obtain ⟨v, h7, h8⟩ := h6 _ d hd'
    have hzl : z.cells.size = size := h5.trans hzs
    exact ⟨v, by simp [madeCells, hj, hzl, getElem!_def, h7], h8⟩
/-- An operation that is known, as a step. -/
theorem AwOp.step {X : Ctx} {P : Program} {o : Oper} {s s' : St} {wr : List Nat} {nb : Nat} {K : St → Prop} (h : AwOp X P o s s') (ht : tgt s o = none) (hk : K s') : AwStepF X P o s wr nb K :=
  ⟨fun E a w K' R hr hK => h E a w K' R hr fun E' a' w' hr' hf => hK _ _ _ _ hk hr' (by rw [ht] at hf; exact FrT.of hf)⟩
end Go.Proofs.YtemaanibghedlaaGreat
