/- Joins behind drawn regions: what comes behind is walked once (see AwJoin). -/
import Derived.Test.YtnicgfeajdjimaaGreatAwJoin
import Derived.Test.YtnicgfeajdjimaaGreatNo
namespace Go.Proofs.YtnicgfeajdjimaaGreat
open Go.RowKit
structure JnG (k : Nat) (S : St) (N : St → Prop) : Prop where
  out : ∀ s gs ρ, gopsOk s gs = true → FitR k ρ (gops s gs) S → N s
theorem JnG.go {k : Nat} {S : St} {N : St → Prop} (h : JnG k S N) {s : St} (gs : List Gop) (ρ : List Nat) (hf : gopsOk s gs = true := by first | rfl | exact cal2_ rfl | exact gok2_) (h0 : FitR k ρ (gops s gs) S := by refine ⟨⟨?_, ?_, ?_⟩, (by (try refine frn2_ ?_); (repeat (first | exact True.intro | (simp only [fitR_nil, fitR_none]; done) | (simp only [fitR_nil, fitR_none]) | (refine fitR_step (by first | rfl | exact si2_) (by first | rfl | exact si2_) ?_))) <;> fail), ?_, ?_, ?_, ?_⟩ <;> (first | rfl | decide | (rw [hX]; decide) | exact si2_ | fail)) : Wk (N s) := ⟨h.out s gs ρ hf h0⟩
theorem awjoinG {X : Ctx} {P : Program} {c : Code} {s S : St} {Q : Exit → St → Prop} (hd : AwCode X P c s (fun e s' => e = .normal ∧ ∃ gs ρ, gopsOk s' gs = true ∧ FitR X.nb ρ (gops s' gs) S)) (hn : Q .normal S) : AwCode X P c s Q := by
  refine ⟨fun E a w R hr hk => hd.out E a w R hr fun e s' E' a' w' hq hr' => ?_⟩
  obtain ⟨rfl, gs, ρ, hf, h⟩ := hq
  obtain ⟨E1, hr1, _⟩ := gops_sound hf hr'
  exact hk _ _ _ _ _ hn (fitR_sound h hr1)
theorem wtrJ_ {X : Ctx} {id : Nat} {ops : Array Oper} {Q : Exit → St → Prop} {s0 : St} (wr : List Nat) (order : Ordr) (S : St) (h : ∀ N, JnG X.nb S N → Wk (WTree X Tryz.prog ops.toList wr (s0.os.map (·.1)) s0.nb N order true s0)) (hn : Wk (Q .normal S)) (hdep : order.depth ≤ ops.size := by decide) (hns : Region.noSelect ops = true := by kernel_rfl)
    (hok : treeOk ops order (Array.replicate ops.size false) = true := by kernel_rfl) (hwr : ∀ i, wr.contains i = true → (s0.os.map (·.1)).contains i = true := by (simp <;> fail)) : Wk (AwCode X Tryz.prog (.region id ops true) s0 Q) :=
  ⟨awjoinG (S := S) (wtree_sound (Q := fun e s' => e = .normal ∧ ∃ gs ρ, gopsOk s' gs = true ∧ FitR X.nb ρ (gops s' gs) S) mixed wr order hdep hns hok hwr (h _ ⟨fun _ gs ρ hf h0 => ⟨rfl, gs, ρ, hf, h0⟩⟩).out) hn.out⟩
theorem woJ_ {X : Ctx} {id : Nat} {ops : Array Oper} {Q : Exit → St → Prop} {s0 : St} (wr : List Nat) (order : List (Nat × Bool)) (S : St) (h : ∀ N, JnG X.nb S N → Wk (WOrd X Tryz.prog ops.toList wr (s0.os.map (·.1)) s0.nb N order true s0)) (hn : Wk (Q .normal S)) (hlen : order.length = ops.size := by rfl) (hns : Region.noSelect ops = true := by kernel_rfl)
    (hok : drawOk ops order (Array.replicate ops.size false) = true := by kernel_rfl) (hwr : ∀ i, wr.contains i = true → (s0.os.map (·.1)).contains i = true := by (simp <;> fail)) : Wk (AwCode X Tryz.prog (.region id ops true) s0 Q) :=
  ⟨awjoinG (S := S) (word_sound (Q := fun e s' => e = .normal ∧ ∃ gs ρ, gopsOk s' gs = true ∧ FitR X.nb ρ (gops s' gs) S) mixed wr order hlen hns hok hwr (h _ ⟨fun _ gs ρ hf h0 => ⟨rfl, gs, ρ, hf, h0⟩⟩).out) hn.out⟩
end Go.Proofs.YtnicgfeajdjimaaGreat
