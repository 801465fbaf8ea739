/- The logic over data and the elder contracts: one turned into the other; what a law's row wants. -/
import Derived.Test.YtemaanibghedlaaGreatAwH
namespace Go.Proofs.YtemaanibghedlaaGreat
open Go.RowKit

theorem repP_sc {ro : Nat → Prop} {w : World} {v u : Value} (h : RepP ro w (.sc v) u) : u = v := by
  cases h
  rfl
/-- What reads as a datum that is only read reads as a list. -/
theorem sl_of_rep {α : Type} {cells : α → List Value} {ok : α → Prop} {size : Nat} (hs : ∀ x, (cells x).length = size) (h0 : 0 < size) {ro : Nat → Prop} {w : World} {B : Nat} {v : Value} {xs : List α} (h : RepP ro w (.sl xs.length (enc cells xs)) v)
    (hro : ∀ b, ro b → b < B) (hok : ∀ x ∈ xs, ok x) : SlR size (Flat cells ok) w B v xs := by
  cases h with
  | sl _ _ A c us hl hn hc hcell hrep =>
    have hlen : us.length = xs.length * size := by rw [hl]; unfold enc; rw [List.length_map, flatMap_len cells size hs]
    refine ⟨A, c, rfl, hn, hc, fun i hi => ?_⟩
    have hle : i * size + size ≤ xs.length * size := by rw [← Nat.succ_mul]; exact Nat.mul_le_mul_right _ hi
    obtain ⟨b, o, hA, hb, _⟩ := hcell (i * size) (us[i * size]'(by omega)) (List.getElem?_eq_getElem _)
    refine ⟨b, o, cells xs[i], hA, hro b hb, hs _, fun j hj => ?_, rfl, hok _ (List.getElem_mem hi)⟩
    rw [hs] at hj
    have hjl : i * size + j < us.length := by omega
    obtain ⟨b', o', hA', _, h5⟩ := hcell (i * size + j) us[i * size + j] (List.getElem?_eq_getElem hjl)
    rw [hA] at hA'
    injection hA' with hA'
    injection hA' with e1 e2
    subst e1; subst e2
    have h6 := flatMap_at cells size hs xs i j hi hj
    have hjl' : i * size + j < (xs.flatMap cells).length := by rw [flatMap_len cells size hs]; omega
    have h7 := hrep (i * size + j) (.sc ((xs.flatMap cells)[i * size + j])) us[i * size + j] (by unfold enc; rw [List.getElem?_map, List.getElem?_eq_getElem hjl']; rfl) (List.getElem?_eq_getElem hjl)
    rw [List.getElem?_eq_getElem hjl'] at h6
    rw [Nat.add_assoc, h5, ← h6, repP_sc h7]
/-- What a call owns reads as a datum. -/
theorem rep_own {α : Type} {cells : α → List Value} {size : Nat} (_hs : ∀ x, (cells x).length = size) (h1 : ∀ x, ∀ v ∈ cells x, v.oneCell' = true) {ro : Nat → Prop} {w : World} {base : Nat} {e : TypeId} {v : Value} {xs : List α} (h : w.ownsRow base e size v xs.length (xs.flatMap cells))
    (hro : ∀ b, base ≤ b → b < w.heap.size → ro b) : RepP ro w (.sl xs.length (enc cells xs)) v := by
  have hall : ∀ (j : Nat) (d : D) (u : Value), (enc cells xs)[j]? = some d → (xs.flatMap cells)[j]? = some u → RepP ro w d u := by
    intro j d u hd hu
    unfold enc at hd
    rw [List.getElem?_map, hu] at hd
    injection hd with hd
    subst hd
    obtain ⟨x, _, hx⟩ := List.mem_flatMap.1 (List.mem_of_getElem? hu)
    exact .sc u (h1 x u hx)
  rcases h.2 with ⟨rfl, hn⟩ | ⟨g, cap, cur, rfl, hb, hg, hnc, hcm, hcs, htake⟩
  · have : xs = [] := List.eq_nil_of_length_eq_zero hn
    subst this
    exact .sl 0 _ none 0 [] rfl (Nat.le_refl _) (by unfold maxLen; omega) (fun j u hu => by simp at hu) (fun j d u _ hu => by simp at hu)
  · have hlt : g < w.heap.size := (Array.getElem?_eq_some_iff.1 hg).1
    refine .sl _ _ _ cap (xs.flatMap cells) (by simp [enc]) hnc hcm (fun j u hu => ⟨g, 0, rfl, hro g hb hlt, ?_⟩) hall
    rw [Nat.zero_add, cell_of_row w g j cur e (0, 0) hg]
    rw [← htake, List.getElem?_take] at hu
    split at hu
    · simpa using hu
    · cases hu

/-- What a law's walk asks for. -/
theorem spec_law {P : Program} {f : FuncId} {ds : List D} (h : Spec P f ds fun d => d = .sc (.bool true)) (w : World) (args : Array Value) (hsz : args.size = ds.length) (hrep : ∀ (j : Nat) (d : D), ds[j]? = some d → Rep (roEnv fun b => b < w.heap.size) w d (args.getD j undef)) :
    Calls P f args w fun e w' => e = .returned (.bool true) ∧ Below w.heap.size w w' :=
  (h.2 (fun b => b < w.heap.size) w args (fun _ h => h) hsz hrep).mono fun e w' ⟨d, v, hd, he, hv, hb⟩ => by
    subst hd
    have : v = .bool true := hv.1
    subst this
    exact ⟨he, hb⟩
/-- A contract out of one on values. -/
theorem spec_of {P : Program} {f : FuncId} {ds : List D} {Q : D → Prop} (hc : ∀ (args : Array Value) (w : World), (callFunc f args).run P w = .ok (.enter f args) w)
    (h : ∀ (ro : Nat → Prop) (w : World) (args : Array Value), (∀ b, ro b → b < w.heap.size) → args.size = ds.length → (∀ (j : Nat) (d : D), ds[j]? = some d → Rep (roEnv ro) w d (args.getD j undef)) →
      Calls P f args w fun e w' => ∃ d v, Q d ∧ e = .returned v ∧ Rep (roEnv fun b => ro b ∨ (w.heap.size ≤ b ∧ b < w'.heap.size)) w' d v ∧ Below w.heap.size w w') : Spec P f ds Q := ⟨hc, h⟩
theorem callable {P : Program} {f : FuncId} {fn : Func} {c : Code} (hf : P.funcs[f]? = some fn) (hb : fn.body = some c) (hn : (fn.name == "runtime.NumGoroutine") = false) (args : Array Value) (w : World) : (callFunc f args).run P w = .ok (.enter f args) w := by
  have h1 : fn.name ≠ "runtime.NumGoroutine" := by simpa using hn
  simp [callFunc, hf, h1, hb]
/-- An element's cells out of a flat slice. -/
theorem enc_at {α : Type} {cells : α → List Value} {size : Nat} (hs : ∀ x, (cells x).length = size) (xs : List α) (i j : Nat) (hi : i < xs.length) (hj : j < size) : (enc cells xs)[i * size + j]? = ((cells xs[i]).map .sc)[j]? := by
  unfold enc
  rw [List.getElem?_map, List.getElem?_map, flatMap_at cells size hs xs i j hi hj]
theorem enc_len {α : Type} {cells : α → List Value} {size : Nat} (hs : ∀ x, (cells x).length = size) (xs : List α) : (enc cells xs).length = xs.length * size := by
  unfold enc
  rw [List.length_map, flatMap_len cells size hs]
/-! A struct or a slice literal filled, as tail calls. -/
def fillK (b : Bool) (place : Nat → Option (Nat × Nat)) (cs : List D) (rest : List (Nat × D)) : Option (List D) := if b = true then fillD place cs rest else none
def fillP (q : Option (Nat × Nat)) (place : Nat → Option (Nat × Nat)) (cs : List D) (d : D) (rest : List (Nat × D)) : Option (List D) := match q with
  | some (off, size) => fillK (d.known && (decide (d.cells.length = size) && decide (off + size ≤ cs.length))) place (setL cs off d.cells) rest
  | none => none
theorem fillD_nil (place : Nat → Option (Nat × Nat)) (cs : List D) : fillD place cs [] = some cs := rfl
theorem fillD_cons (place : Nat → Option (Nat × Nat)) (cs : List D) (i : Nat) (d : D) (rest : List (Nat × D)) : fillD place cs ((i, d) :: rest) = fillP (place i) place cs d rest := by
  rw [fillD]
  cases place i with
  | none => rfl
  | some q => simp [fillP, fillK]
theorem fillP_some (off size : Nat) (place : Nat → Option (Nat × Nat)) (cs : List D) (d : D) (rest : List (Nat × D)) : fillP (some (off, size)) place cs d rest = fillK (d.known && (decide (d.cells.length = size) && decide (off + size ≤ cs.length))) place (setL cs off d.cells) rest := rfl
theorem fillK_true (place : Nat → Option (Nat × Nat)) (cs : List D) (rest : List (Nat × D)) : fillK true place cs rest = fillD place cs rest := rfl
theorem ba_size (a : Array UInt8) : ByteArray.size ⟨a⟩ = a.size := rfl
theorem wrap_in (n : Int) (h : -9223372036854775808 ≤ n ∧ n ≤ 9223372036854775807) : IntKind.i64.wrap n = n := IntWalk.i64_in _ h
theorem wrap_nat (n : Nat) (h : n ≤ 9223372036854775807) : IntKind.i64.wrap (n : Int) = (n : Int) := IntWalk.i64_in _ (by omega)
theorem enc_lt {α : Type} (cells : α → List Value) (xs : List α) (n : Nat) : (enc cells xs).all (D.lt1 n) = true := by
  unfold enc
  simp [D.lt1]
end Go.Proofs.YtemaanibghedlaaGreat
