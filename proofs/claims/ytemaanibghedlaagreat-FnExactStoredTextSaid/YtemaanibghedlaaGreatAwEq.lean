/- The logic over data: structs of numbers, strings and bools compared. -/
import Derived.Test.YtemaanibghedlaaGreatAwP
import Derived.Laws.StructEq
namespace Go.Proofs.YtemaanibghedlaaGreat
open Go.RowKit

inductive Kd where
  | i
  | s
  | b
def kdOf (P : Program) (t : TypeId) : Option Kd := match P.underlying t with
  | some (.int _) => some .i
  | some .string => some .s
  | some .bool => some .b
  | _ => none
def eqFs (P : Program) : List Field → Nat → Option (List Kd)
  | [], _ => some []
  | f :: fs, j => if f.offset = j ∧ f.name ≠ "_" ∧ tyK P f.type = some (false, 1) then match kdOf P f.type, eqFs P fs (j + 1) with | some k, some ks => some (k :: ks) | _, _ => none else none
/-- The kinds of a struct's fields, where each is one cell. -/
def eqT (P : Program) (t : TypeId) : Option (List Kd) := match P.underlying t with
  | some (.struct fs) => if P.stoodInHeld t = false ∧ P.eqGuardType P.depth t = false then eqFs P fs.toList 0 else none
  | _ => none
def eqK : List Kd → List D → List D → Option Bool
  | [], [], [] => some true
  | .i :: ks, .sc (.int k a) :: xa, .sc (.int k' b) :: xb => if k = k' then (match eqK ks xa xb with | some r => some ((a == b) && r) | none => none) else none
  | .s :: ks, .sc (.string a) :: xa, .sc (.string b) :: xb => match eqK ks xa xb with | some r => some ((a.toList == b.toList) && r) | none => none
  | .b :: ks, .sc (.bool a) :: xa, .sc (.bool b) :: xb => match eqK ks xa xb with | some r => some ((a == b) && r) | none => none
  | _, _, _ => none
theorem run_eqK {P : Program} {w w0 : World} {E : Env} : ∀ {fs : List Field} {j : Nat} {ks : List Kd} {xa xb : List D} {r : Bool} {xs ys : List Value}, eqFs P fs j = some ks → eqK ks xa xb = some r →
    xs.length = j + xa.length → ys.length = j + xb.length → (∀ (q : Nat) (d : D) (u : Value), xa[q]? = some d → xs[j + q]? = some u → Rep1 E w0 d u) → (∀ (q : Nat) (d : D) (u : Value), xb[q]? = some d → ys[j + q]? = some u → Rep1 E w0 d u) →
    ∀ n, (Op.eqFields (n + 1) xs.toArray ys.toArray fs).run P w = .ok r w
  | [], j, ks, xa, xb, r, xs, ys, h1, h2, _, _, _, _, n => by
    injection h1 with h1
    subst h1
    cases xa <;> cases xb <;> simp only [eqK, reduceCtorEq, Option.some.injEq] at h2
    subst h2
    simp [Op.eqFields]
  | f :: fs, j, ks, xa, xb, r, xs, ys, h1, h2, hx, hy, hax, hby, n => by
    unfold eqFs at h1
    split at h1
    · rename_i hg
      obtain ⟨g1, g2, g3⟩ := hg
      split at h1
      · rename_i k ks' hk hks
        injection h1 with h1
        subst h1
        have hp : ∀ (zs : List Value) (v : Value), zs[j]? = some v → (part f.type zs.toArray f.offset).run P w = .ok v w := by
          intro zs v hv
          obtain ⟨h5, _⟩ := run_isAgg_of g3 w
          rw [g1]
          simp [part, Sem.run_bind, h5, hv]
        have step : ∀ (d1 d2 : D) (u v : Value) (xa' xb' : List D) (b r' : Bool), xa = d1 :: xa' → xb = d2 :: xb' → xs[j]? = some u → ys[j]? = some v → (Op.equalIn (n + 1) f.type u v).run P w = .ok b w → eqK ks' xa' xb' = some r' → r = (b && r') → (Op.eqFields (n + 1) xs.toArray ys.toArray (f :: fs)).run P w = .ok r w := by
          intro d1 d2 u v xa' xb' b r' e1 e2 hu hv hb hr' er
          subst e1; subst e2; subst er
          have hrest := run_eqK (E := E) (w := w) (w0 := w0) (xs := xs) (ys := ys) hks hr' (by simp at hx; omega) (by simp at hy; omega) (fun q d u hd hu => hax (q + 1) d u (by simpa using hd) (by rw [show j + (q + 1) = j + 1 + q by omega]; exact hu)) (fun q d u hd hu => hby (q + 1) d u (by simpa using hd) (by rw [show j + (q + 1) = j + 1 + q by omega]; exact hu)) n
          simp only [Op.eqFields, if_pos g2, Sem.run_bind, hp xs u hu, hp ys v hv, hb, Result.andThen_ok]
          cases b
          · simp
          · simp [hrest]
        have hjx : ∀ d xa', xa = d :: xa' → ∃ u, xs[j]? = some u ∧ Rep1 E w0 d u := by
          intro d xa' e
          subst e
          have hl : j < xs.length := by simp at hx; omega
          exact ⟨xs[j], List.getElem?_eq_getElem hl, hax 0 d xs[j] rfl (by simp [hl])⟩
        have hjy : ∀ d xb', xb = d :: xb' → ∃ u, ys[j]? = some u ∧ Rep1 E w0 d u := by
          intro d xb' e
          subst e
          have hl : j < ys.length := by simp at hy; omega
          exact ⟨ys[j], List.getElem?_eq_getElem hl, hby 0 d ys[j] rfl (by simp [hl])⟩
        unfold kdOf at hk
        unfold eqK at h2
        split at h2
        · rename_i heq; cases heq
        · rename_i ks2 k1 a xa' k2 b xb' heq
          injection heq with e1 e2
          subst e1; subst e2
          split at h2
          · rename_i hkk
            subst hkk
            split at h2
            · rename_i r' hr'
              injection h2 with h2
              obtain ⟨u, hu, hu2, _⟩ := hjx _ _ rfl
              obtain ⟨v, hv, hv2, _⟩ := hjy _ _ rfl
              subst hu2; subst hv2
              split at hk <;> simp only [reduceCtorEq, Option.some.injEq] at hk
              rename_i kk hkk
              exact step _ _ _ _ _ _ _ _ rfl rfl hu hv (run_equalIn_int w n f.type k1 kk a b hkk) hr' h2.symm
            · cases h2
          · cases h2
        · rename_i ks2 a xa' b xb' heq
          injection heq with e1 e2
          subst e1; subst e2
          split at h2
          · rename_i r' hr'
            injection h2 with h2
            obtain ⟨u, hu, hu2, _⟩ := hjx _ _ rfl
            obtain ⟨v, hv, hv2, _⟩ := hjy _ _ rfl
            subst hu2; subst hv2
            split at hk <;> simp only [reduceCtorEq, Option.some.injEq] at hk
            rename_i hkk
            exact step _ _ _ _ _ _ _ _ rfl rfl hu hv (run_equalIn_string w n f.type a b hkk) hr' h2.symm
          · cases h2
        · rename_i ks2 a xa' b xb' heq
          injection heq with e1 e2
          subst e1; subst e2
          split at h2
          · rename_i r' hr'
            injection h2 with h2
            obtain ⟨u, hu, hu2, _⟩ := hjx _ _ rfl
            obtain ⟨v, hv, hv2, _⟩ := hjy _ _ rfl
            subst hu2; subst hv2
            split at hk <;> simp only [reduceCtorEq, Option.some.injEq] at hk
            rename_i hkk
            exact step _ _ _ _ _ _ _ _ rfl rfl hu hv (run_equalIn_bool' w n f.type a b hkk) hr' h2.symm
          · cases h2
        · cases h2
      · cases h1
    · cases h1
def eqD (P : Program) (op : BinOp) (t : TypeId) : D → D → Option D
  | .agg xa, .agg xb => match eqT P t with
    | some ks => match eqK ks xa xb with
      | some r => match op with | .eql => some (.sc (.bool r)) | .neq => some (.sc (.bool (!r))) | _ => none
      | none => none
    | none => none
  | _, _ => none
theorem val_eq {X : Ctx} {P : Program} {o : Oper} {s : St} {op : BinOp} {t u : TypeId} {x y : Operand} (ho : o.op = .binOp op t x y u) {d : D} (h : eqD P op t (s.ev x) (s.ev y) = some d) : ValAt X P o s d := by
  have hsup : ∃ d1 d2 r, s.ev x = .agg d1 ∧ s.ev y = .agg d2 ∧ d = .sc (.bool r) ∧ ∃ ks, eqT P t = some ks ∧ ∃ q, eqK ks d1 d2 = some q ∧ ((op = .eql ∧ r = q) ∨ (op = .neq ∧ r = !q)) := by
    unfold eqD at h
    split at h
    · rename_i d1 d2 h1 h2
      split at h
      · rename_i ks hks
        split at h
        · rename_i q hq
          split at h
          · injection h with h; exact ⟨d1, d2, q, h1, h2, h.symm, ks, hks, q, hq, .inl ⟨rfl, rfl⟩⟩
          · injection h with h; exact ⟨d1, d2, !q, h1, h2, h.symm, ks, hks, q, hq, .inr ⟨rfl, rfl⟩⟩
          · cases h
        · cases h
      · cases h
    · cases h
  obtain ⟨d1, d2, r, h1, h2, rfl, ks, hks, q, hq, hop⟩ := hsup
  intro E a w hr
  have hx := hr.ev x
  have hy := hr.ev y
  rw [h1] at hx
  rw [h2] at hy
  obtain ⟨us, hxv, hxl, hxr⟩ := hx
  obtain ⟨vs, hyv, hyl, hyr⟩ := hy
  refine ⟨.bool r, ⟨rfl, rfl⟩, fun w' hag => ?_⟩
  unfold eqT at hks
  split at hks
  · rename_i fs hu
    split at hks
    · rename_i hg
      obtain ⟨g1, g2⟩ := hg
      have hf : P.fieldsOf t = fs := by simp [Program.fieldsOf, hu]
      have hu' : P.underlying t = some (.struct (P.fieldsOf t)) := by rw [hf]; exact hu
      have heq : (Op.equalIn 10000 t (.agg us.toArray) (.agg vs.toArray)).run P w' = .ok q w' := by
        rw [show (10000 : Nat) = 9999 + 1 from rfl, run_equalIn_struct w' 9999 t _ _ hu' g1, hf]
        refine run_eqK (E := E) (w := w') (w0 := w) (xs := us) (ys := vs) (xa := d1) (xb := d2) hks hq (by omega) (by omega) (fun j e u hd hu2 => (hxr j e u hd (by simpa using hu2)).1) (fun j e u hd hu2 => (hyr j e u hd (by simpa using hu2)).1) 9998 |> fun h => ?_
        exact h
      have hex : (execOp a.eval o).run P w' = ((do eqGuard op t x y (.agg us.toArray) (.agg vs.toArray); binOp op t (.agg us.toArray) (.agg vs.toArray)).run P w').andThen fun v w => .ok (.value v) w := by
        simp only [execOp, ho, hxv, hyv, Sem.run_bind]
        rfl
      rw [hex]
      rcases hop with ⟨rfl, rfl⟩ | ⟨rfl, rfl⟩
      · simp only [Sem.run_bind, run_eqGuard_agg w' .eql t x y _ _ g2, Result.andThen_ok, run_eql_struct, heq]
      · simp only [Sem.run_bind, run_eqGuard_agg w' .neq t x y _ _ g2, Result.andThen_ok, run_neq_struct, heq]
    · cases hks
  · cases hks
def eqS (P : Program) (s : St) (o : Oper) (op : BinOp) (t : TypeId) (x y : D) : Option St := match eqD P op t x y with | some d => some (s.put o.dst d) | none => none
theorem eqGF {X : Ctx} {P : Program} {o : Oper} {s : St} {wr : List Nat} {nb : Nat} {op : BinOp} {t u : TypeId} {x y : Operand} {K : St → Prop} (ho : o.op = .binOp op t x y u) (h : stepK (eqS P s o op t (s.ev x) (s.ev y)) K False) : AwStepF X P o s wr nb K := by
  unfold eqS at h
  cases h1 : eqD P op t (s.ev x) (s.ev y) with
  | none => rw [h1] at h; exact h.elim
  | some d => rw [h1] at h; exact AwOp.step (awop_val (val_eq ho h1)) (by simp [tgt, ho]) h
theorem eqG {X : Ctx} {P : Program} {o : Oper} {s : St} {op : BinOp} {t u : TypeId} {x y : Operand} {K : St → Prop} (ho : o.op = .binOp op t x y u) (h : stepK (eqS P s o op t (s.ev x) (s.ev y)) K False) : AwStep X P o s K := (eqGF (wr := []) (nb := 0) ho h).plain
end Go.Proofs.YtemaanibghedlaaGreat
