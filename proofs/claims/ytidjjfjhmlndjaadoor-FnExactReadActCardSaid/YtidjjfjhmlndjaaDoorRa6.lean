/- Figures, numbers and words, as the program reckons them. -/
import Derived.Test.YtidjjfjhmlndjaaDoorRal
import Derived.Test.YtidjjfjhmlndjaaDoorSub
import Derived.Test.YtidjjfjhmlndjaaDoorRa5
namespace Go.Proofs.YtidjjfjhmlndjaaDoor
open Go.RowKit
set_option linter.unusedVariables false
set_option linter.unusedSimpArgs false
set_option maxRecDepth 100000
set_option maxHeartbeats 1000000

/-- The first place of a byte. -/
def byteAt (s : ByteArray) (c : Int) : Int := Lib.indexByte s.data.toList c.toNat.toUInt8
theorem ext_idx (s : ByteArray) (c : Int) (w : World) : (callFunc 67 #[.string s, .int .u8 c]).run Tryd.prog w = .ok (.value (.int .i64 (byteAt s c))) w := by
  rw [run_callFunc_extern Tryd.func67 (by kernel_rfl) (by kernel_rfl) (by kernel_rfl) (e := Extern.BytealgIndexByte.indexByte) (by kernel_rfl), Lib.run_indexByteString]
  rfl
theorem hex_find {c : Int} (h : 0 ≤ c ∧ c ≤ 255) : byteAt ⟨#[48, 49, 50, 51, 52, 53, 54, 55, 56, 57, 97, 98, 99, 100, 101, 102]⟩ c = valI c := by
  obtain ⟨n, rfl⟩ := Int.eq_ofNat_of_zero_le h.1
  have key : ∀ n : Fin 256, byteAt ⟨#[48, 49, 50, 51, 52, 53, 54, 55, 56, 57, 97, 98, 99, 100, 101, 102]⟩ ((n.val : Nat) : Int) = valI ((n.val : Nat) : Int) := by decide +kernel
  exact key ⟨n, by omega⟩
theorem hex_at {c : Int} (h0 : 0 ≤ c) (h1 : c < 16) : bytB ⟨#[48, 49, 50, 51, 52, 53, 54, 55, 56, 57, 97, 98, 99, 100, 101, 102]⟩ c.toNat = figI c := by
  obtain ⟨n, rfl⟩ := Int.eq_ofNat_of_zero_le h0
  have key : ∀ n : Fin 16, bytB ⟨#[48, 49, 50, 51, 52, 53, 54, 55, 56, 57, 97, 98, 99, 100, 101, 102]⟩ ((n.val : Nat) : Int).toNat = figI ((n.val : Nat) : Int) := by decide +kernel
  exact key ⟨n, by omega⟩
theorem wr8b (t : ByteArray) (i : Nat) : IntKind.u8.wrap (bytB t i / 16) = bytB t i / 16 := wr8q (by have := bytB_rng t i; omega)
theorem td2 (n : Nat) : (n : Int).tdiv 2 = (n : Int) / 2 := Int.tdiv_eq_ediv_of_nonneg (Int.natCast_nonneg n)
theorem nil_one : Value.nilIface.oneCell' = true := rfl
theorem ifc_ne {t : TypeId} {p : Value} : Value.iface t p ≠ .nilIface := fun e => by cases e
theorem hexS_sz : ByteArray.size ⟨#[48, 49, 50, 51, 52, 53, 54, 55, 56, 57, 97, 98, 99, 100, 101, 102]⟩ = 16 := rfl
theorem hex_at16 {t : ByteArray} {i : Nat} : bytB ⟨#[48, 49, 50, 51, 52, 53, 54, 55, 56, 57, 97, 98, 99, 100, 101, 102]⟩ (bytB t i / 16).toNat = figI (bytB t i / 16) := hex_at (by have := bytB_rng t i; omega) (by have := bytB_rng t i; omega)
theorem hex_at_m {t : ByteArray} {i : Nat} : bytB ⟨#[48, 49, 50, 51, 52, 53, 54, 55, 56, 57, 97, 98, 99, 100, 101, 102]⟩ (bytB t i % 16).toNat = figI (bytB t i % 16) := hex_at (by have := bytB_rng t i; omega) (by have := bytB_rng t i; omega)

theorem internal_stringslite_IndexByte_D (s : ByteArray) (c : Int) : Spec Tryd.prog 59 [.sc (.string s), .sc (.int .u8 c)] (fun d => d = .sc (.int .i64 (byteAt s c))) := by
  refine sp_ (rs := [.tmp 4]) (nt := 8) Tryd.func59 rfl fun X hX => ?_
  refine nm_ ?_
  repeat' ((first | contradiction | (with_reducible exact tt_) | ((with_reducible show Wk (AwStep _ _ _ _ _)); first | (refine xt_ rfl [.string _, .int .u8 _] _ rfl (ext_idx _ _) rfl ?_) | (refine pln_ ?_)) | ((with_reducible show Wk (boolK _ _ _ _)); first | (refine bk_ (fun h h' => ?_) (fun h h' => ?_))) | ((with_reducible show Wk (_ ∧ _)); first | (refine and_ ?_ ?_)) | fail) <;> (try refine nm_ ?_))

theorem strings_IndexByte_D (s : ByteArray) (c : Int) : Spec Tryd.prog 49 [.sc (.string s), .sc (.int .u8 c)] (fun d => d = .sc (.int .i64 (byteAt s c))) := by
  refine sp_ (rs := [.tmp 4]) (nt := 8) Tryd.func49 rfl fun X hX => ?_
  refine nm_ ?_
  repeat' ((first | contradiction | (with_reducible exact tt_) | ((with_reducible show Wk (AwStepF _ _ _ _ _ _ _)); first | (refine cl_ rfl _ _ (internal_stringslite_IndexByte_D _ _) rfl rfl ?_; rintro _ rfl)) | ((with_reducible show Wk (AwStep _ _ _ _ _)); first | (refine pln_ ?_)) | ((with_reducible show Wk (boolK _ _ _ _)); first | (refine bk_ (fun h h' => ?_) (fun h h' => ?_))) | ((with_reducible show Wk (_ ∧ _)); first | (refine and_ ?_ ?_)) | fail) <;> (try refine nm_ ?_))

theorem bne_dec (a b : Int) : (a != b) = decide (a ≠ b) := by by_cases h : a = b <;> simp [h]

theorem impl_NameOk_D (s : ByteArray) (hs : s.size ≤ 1048576) : Spec Tryd.prog 39 [.sc (.string s)] (fun d => d = .sc (.bool (nmB s))) := by
  refine sp_ (rs := [.tmp 2]) (nt := 42) Tryd.func39 rfl fun X hX => ?_
  refine nm_ ?_
  repeat' ((first | contradiction | (with_reducible exact tt_) | ((with_reducible show Wk (AwStepF _ _ _ _ _ _ _)); first | (refine cl_ rfl _ _ (isLower_D _) rfl rfl ?_; rintro _ rfl) | (refine cl_ rfl _ _ (isDigit_D _) rfl rfl ?_; rintro _ rfl) | (refine cl_ rfl _ _ (within_D _ _ _) rfl rfl ?_; rintro _ rfl)) | ((with_reducible show Wk (AwStep _ _ _ _ _)); first | (refine pln_ ?_)) | ((with_reducible show Wk (AwCode _ _ _ _ _)); first | (refine lpU_ 0xc1 (ι := Nat) (fun k => [(7, .sc (.int .i64 (k : Int)))]) (fun k => k ≤ s.size ∧ ∀ j : Nat, j < k → nmAt s j = true) (fun k => s.size - k) 0 ?_ ?_; (focus (exact ⟨by omega, allN_zero⟩)); rintro _ hN0 k hinv; (try dsimp only at hinv); obtain ⟨hk, hj⟩ := hinv; replace hj := Lib.hid hj; skip)) | ((with_reducible show Wk (boolK _ _ _ _)); first | (refine bk_ (fun h h' => ?_) (fun h h' => ?_))) | ((with_reducible show Wk (_ ∧ _)); first | (refine and_ ?_ ?_)) | (refine hN0.go (k + 1) ?_ ?_; (focus (exact ⟨by show k + 1 ≤ s.size; omega, allN_step hj.out (by unfold nmAt letterB; first | (simp_all; done) | (simp_all; omega))⟩)); (focus (show s.size - (k + 1) < s.size - k; omega))) | fail) <;> (try refine nm_ ?_))
  all_goals (refine ⟨?_⟩)
  all_goals first | contradiction | (have e := allN_no (n := s.size) (p := nmAt s) (k := k) (by omega) (by unfold nmAt letterB; first | (simp_all; done) | (simp_all; omega)); rw [nmB_eq, e]; simp; done) | (rw [nmB_eq, allN_yes (n := s.size) (p := nmAt s) (by omega) hj.out]; first | (simp_all; done) | (rw [show (inB s.size 1 20) = true from by assumption, show (bytB s (s.size - 1) != 45) = decide (bytB s (s.size - 1) ≠ 45) from bne_dec _ _]; simp_all; done)) | trace_state

theorem impl_Hex_A (t : ByteArray) (ht : t.size ≤ 1048576) : Spec Tryd.prog 37 [.sc (.string t)] (fun d => d = .tup [.sc (.string (if t.size ≤ 20000 then ba (hexL (bl t)) else ⟨#[]⟩)), .sc (.bool (decide (t.size ≤ 20000)))]) := by
  have ex0 := @byt_d; have ex1 := @byt_m; have ex2 := @u8D_two; have ex3 := @hex_at16; have ex4 := @hex_at_m; have ex5 := @hexS_sz; have ex6 := @wr8b
  refine sp_ (rs := [.tmp 2, .tmp 3]) (nt := 34) Tryd.func37 rfl fun X hX => ?_
  refine nm_ ?_
  repeat' ((first | contradiction | (with_reducible exact tt_) | ((with_reducible show Wk (AwStepF _ _ _ _ _ _ _)); first | (refine mk0_ rfl ?_) | (refine mk_ rfl ?_) | (refine app_ rfl ?_) | (refine byt_ rfl ?_)) | ((with_reducible show Wk (AwStep _ _ _ _ _)); first | (refine pln_ ?_)) | ((with_reducible show Wk (AwCode _ _ _ _ _)); first | (refine wo_ (id := 7) [0] [(0, true), (1, true), (2, true), (3, true), (4, true), (5, true), (6, true), (7, true), (8, true), (9, true), (10, true), (11, false), (12, false), (13, true)] ?_) | (refine lpK_ (ι := Nat × List Int) [] [0] 0xc011 (fun ⟨i, ns⟩ => [(4, .own 0 0 ns.length), (15, .sc (.int .i64 (i : Int)))]) (fun ⟨i, ns⟩ => [(0, ⟨5, 1, ns.length, u8D ns⟩)]) (fun ⟨i, ns⟩ => i ≤ t.size ∧ ns = nsB (hexL ((bl t).take i))) (fun ⟨i, ns⟩ => t.size - i) (0, []) ?_ ?_; (focus (exact ⟨Nat.zero_le _, rfl⟩)); rintro _ hN0 ⟨i, ns⟩ hinv; (try dsimp only at hinv); obtain ⟨hi, hN⟩ := hinv; have hnl : ns.length = 2 * i := (by rw [hN, nsB_len, hexL_len, List.length_take, bl_len]; omega); have hnl1 : ns.length ≤ 2 * i := (by omega); have hnl2 : 2 * i ≤ ns.length := (by omega); clear hnl; have hbr := bytB_rng t i; replace hN := Lib.hid hN; skip)) | ((with_reducible show Wk (boolK _ _ _ _)); first | (refine bk_ (fun h h' => ?_) (fun h h' => ?_))) | ((with_reducible show Wk (_ ∧ _)); first | (refine and_ ?_ ?_)) | (refine hN0.run ((i + 1, ns ++ [figI (bytB t i / 16), figI (bytB t i % 16)])) [] [2] ?_ ?_; (focus (exact ⟨by show i + 1 ≤ t.size; omega, by show ns ++ _ = _; rw [hN.out]; exact hexN_go (by omega)⟩)); (focus (show t.size - (i + 1) < t.size - i; omega))) | fail) <;> (try refine nm_ ?_))
  all_goals clear ex0 ex1 ex2 ex3 ex4 ex5 ex6
  all_goals (refine ⟨?_⟩)
  all_goals first | contradiction | (exfalso; omega) | (rw [if_neg (by omega), decide_eq_false (by omega)]) | (have e9 : i = t.size := (by omega); subst e9; rw [if_pos (by omega), decide_eq_true (by omega), hN.out, List.take_of_length_le (by rw [bl_len]; omega), strOf_ns]) | trace_state

theorem impl_Unhex_A (t : ByteArray) (ht : t.size ≤ 1048576) : Spec Tryd.prog 35 [.sc (.string t)] (fun d => ∃ q, d = .tup [.sc (.string (ba (unhexL (bl t)))), .sc (.bool q)]) := by
  have hpar := Int.tmod_eq_emod_of_nonneg (a := (t.size : Int)) (b := 2) (by omega)
  have ex0 := @u8D_one; have ex1 := @wr8q; have ex2 := @td2
  refine sp_ (rs := [.tmp 2, .tmp 3]) (nt := 52) Tryd.func35 rfl fun X hX => ?_
  refine nm_ ?_
  repeat' ((first | contradiction | (with_reducible exact tt_) | ((with_reducible show Wk (AwStepF _ _ _ _ _ _ _)); first | (refine cl_ rfl _ _ (strings_IndexByte_D _ (bytB t i)) rfl rfl ?_; rintro _ rfl; (rw [hex_find (by omega)])) | (refine cl_ rfl _ _ (strings_IndexByte_D _ (bytB t (i + 1))) rfl rfl ?_; rintro _ rfl; (rw [hex_find (by omega)])) | (refine mk0_ rfl ?_) | (refine mk_ rfl ?_) | (refine app_ rfl ?_) | (refine byt_ rfl ?_)) | ((with_reducible show Wk (AwStep _ _ _ _ _)); first | (refine pln_ ?_)) | ((with_reducible show Wk (AwCode _ _ _ _ _)); first | (refine lpK_ (ι := Nat × List Int) [] [0] 0x31 (fun ⟨i, ns⟩ => [(4, .own 0 0 ns.length), (5, .sc (.int .i64 (i : Int)))]) (fun ⟨i, ns⟩ => [(0, ⟨5, 1, ns.length, u8D ns⟩)]) (fun ⟨i, ns⟩ => i ≤ t.size ∧ i % 2 = 0 ∧ UnG t i ns) (fun ⟨i, ns⟩ => t.size - i) (0, []) ?_ ?_; (focus (exact ⟨Nat.zero_le _, rfl, unG_0 t⟩)); rintro _ hN0 ⟨i, ns⟩ hinv; (try dsimp only at hinv); obtain ⟨hi, he, hN⟩ := hinv; have hnl := hN.len; have hnl1 : 2 * ns.length ≤ i := (by omega); have hnl2 : i ≤ 2 * ns.length := (by omega); clear hnl; have hbr := bytB_rng t i; have hbs := bytB_rng t (i + 1); have hvr := valI_rng (bytB t i); have hvs := valI_rng (bytB t (i + 1)); replace hN := Lib.hid hN; skip)) | ((with_reducible show Wk (boolK _ _ _ _)); first | (refine bk_ (fun h h' => ?_) (fun h h' => ?_))) | ((with_reducible show Wk (_ ∧ _)); first | (refine and_ ?_ ?_)) | (refine hN0.run ((i + 2, ns ++ [16 * valI (bytB t i) + valI (bytB t (i + 1))])) [] [2] ?_ ?_; (focus (exact ⟨by show i + 2 ≤ t.size; omega, by show (i + 2) % 2 = 0; omega, unG_go hN.out (by omega) (by omega) (by omega)⟩)); (focus (show t.size - (i + 2) < t.size - i; omega))) | fail) <;> (try refine nm_ ?_))
  all_goals clear ex0 ex1 ex2
  all_goals (refine ⟨?_⟩)
  all_goals first | contradiction | (exfalso; omega) | (exact unN (unhex_big (by omega))) | (exact unN (unhex_odd (by omega))) | (exact unN (unG_no hN.out (by omega) (by first | exact .inl (by omega) | exact .inr (by omega)))) | (exact ⟨true, by rw [unG_end hN.out (by omega) (by omega)]⟩) | trace_state

theorem impl_Decimal_A (n : Int) (h0 : -9223372036854775808 ≤ n) (h1 : n ≤ 9223372036854775807) : Spec Tryd.prog 38 [.sc (.int .i64 n)] (fun d => d = .sc (.string (ba (Lib.itoa n)))) := by
  refine sp_ (rs := [.tmp 2]) (nt := 5) Tryd.func38 rfl fun X hX => ?_
  refine nm_ ?_
  repeat' ((first | contradiction | (with_reducible exact tt_) | ((with_reducible show Wk (AwStepF _ _ _ _ _ _ _)); first | (refine cl_ rfl _ _ (itoa_D n h0 h1) rfl rfl ?_; rintro _ rfl)) | ((with_reducible show Wk (AwStep _ _ _ _ _)); first | (refine pln_ ?_)) | ((with_reducible show Wk (boolK _ _ _ _)); first | (refine bk_ (fun h h' => ?_) (fun h h' => ?_))) | ((with_reducible show Wk (_ ∧ _)); first | (refine and_ ?_ ?_)) | fail) <;> (try refine nm_ ?_))

/-- What a reader of a whole number makes of a word. -/
structure IntR (t : By) (n : Int) (ok : Bool) : Prop where
  yes : ok = true → t = Lib.itoa n ∧ 0 ≤ n ∧ n ≤ 9223372036854775807
  no : ok = false → n = 0 ∧ ∀ m : Int, 0 ≤ m → m ≤ 9223372036854775807 → t ≠ Lib.itoa m
def dvG (acc : Nat) (l : By) : Nat := l.foldl (fun n b => 10 * n + (b.toNat - 48)) acc
theorem dvG_ge : ∀ (l : By) (acc : Nat), acc ≤ dvG acc l
  | [], acc => Nat.le_refl _
  | b :: l, acc => Nat.le_trans (by omega) (dvG_ge l (10 * acc + (b.toNat - 48)))
theorem pu_go : ∀ (l : By) (acc : Nat), (∀ b ∈ l, 48 ≤ b.toNat ∧ b.toNat ≤ 57) → dvG acc l ≤ 9223372036854775807 → Lib.parseUint10 acc l = .ok (dvG acc l)
  | [], acc, _, _ => rfl
  | c :: r, acc, hd, hl => by
    have hc := hd c (List.mem_cons_self ..)
    have h1 : 10 * acc + (c.toNat - 48) ≤ dvG acc (c :: r) := dvG_ge r (10 * acc + (c.toNat - 48))
    have ih := pu_go r (10 * acc + (c.toNat - 48)) (fun b hb => hd b (List.mem_cons_of_mem _ hb)) hl
    unfold Lib.parseUint10
    rw [if_pos hc, if_neg (by omega), if_neg (by omega), Nat.mul_comm acc 10, ih]
    rfl
theorem atoi_it {m : Int} (h0 : 0 ≤ m) (h1 : m ≤ 9223372036854775807) : Lib.atoiAll (Lib.itoa m) = .ok m := by
  obtain ⟨a, rfl⟩ := Int.eq_ofNat_of_zero_le h0
  rw [Lib.itoa_nonneg]
  have e := decVal_dec 18 a (by omega)
  have hd := dec_dig 18 a (by omega)
  generalize Lib.decDigits a = l at e hd
  match l, e, hd with
  | [], e, hd => exact absurd rfl hd.1
  | c :: r, e, hd =>
    have hc := hd.2 c (List.mem_cons_self ..)
    rw [Lib.atoiAll_plain c r (by omega) (by omega)]
    unfold Lib.parseMag
    rw [if_neg (by simp), pu_go (c :: r) 0 hd.2 (by show decVal (c :: r) ≤ _; omega)]
    show Lib.signless (.ok (decVal (c :: r))) = _
    rw [e]
    unfold Lib.signless
    simp only
    rw [if_neg (by omega)]
theorem itoa_sz {m : Int} (h0 : 0 ≤ m) (h1 : m ≤ 9223372036854775807) : (Lib.itoa m).length ≤ 19 := by
  obtain ⟨a, rfl⟩ := Int.eq_ofNat_of_zero_le h0
  rw [Lib.itoa_nonneg]
  exact dec_len 18 a (by omega)
theorem intR_big {s : ByteArray} (h : 20 < s.size) : IntR (bl s) 0 false := ⟨fun e => (by cases e), fun _ => ⟨rfl, fun m h0 h1 e => by
  have := itoa_sz h0 h1
  rw [← e, bl_len] at this
  omega⟩⟩
theorem intR_no {s : ByteArray} {n : Int} {e : Value} (h : AtR s n e) (hn : e ≠ .nilIface ∨ n < 0 ∨ (eqB (ba (Lib.itoa n)) s = false)) : IntR (bl s) 0 false := ⟨fun e => (by cases e), fun _ => ⟨rfl, fun m h0 h1 em => by
  have := h.it m (by show Lib.atoiAll (bl s) = _; rw [em]; exact atoi_it h0 h1)
  rcases hn with hn | hn | hn
  · exact hn this.2
  · omega
  · rw [this.1, ← em, ba_bl, eqS_rfl] at hn; cases hn⟩⟩
theorem intR_yes {s : ByteArray} {n : Int} (h0 : 0 ≤ n) (h1 : n ≤ 9223372036854775807) (he : eqB (ba (Lib.itoa n)) s = true) : IntR (bl s) n true := ⟨fun _ => ⟨by rw [← eqS_eq he, bl_ba], h0, h1⟩, fun e => by cases e⟩
theorem num_int {t : By} {n : Int} (h : IntR t n true) (hn : n ≤ 1000000000) : NumR t n true := ⟨fun _ => ⟨(h.yes rfl).1, (h.yes rfl).2.1, hn⟩, fun e => by cases e⟩
theorem num_int2 {t : By} {n : Int} (h : IntR t n true) (hn : 1000000000 < n) : NumR t 0 false := ⟨fun e => (by cases e), fun _ => ⟨rfl, fun m h0 h1 e => by
  obtain ⟨e1, e2, e3⟩ := h.yes rfl
  rw [e1] at e
  obtain ⟨a, rfl⟩ := Int.eq_ofNat_of_zero_le e2
  obtain ⟨b, rfl⟩ := Int.eq_ofNat_of_zero_le h0
  rw [Lib.itoa_nonneg, Lib.itoa_nonneg] at e
  have e := congrArg decVal e
  rw [decVal_dec 18 a (by omega), decVal_dec 18 b (by omega)] at e
  omega⟩⟩
theorem num_int3 {t : By} {n : Int} (h : IntR t n false) : NumR t 0 false := ⟨fun e => (by cases e), fun _ => ⟨rfl, fun m h0 h1 => (h.no rfl).2 m h0 (by omega)⟩⟩
theorem IntR.rng {t : By} {n : Int} {ok : Bool} (h : IntR t n ok) : 0 ≤ n ∧ n ≤ 9223372036854775807 := by
  cases ok with
  | true => exact (h.yes rfl).2
  | false => rw [(h.no rfl).1]; decide
theorem undI : Tryd.prog.underlying 67 = some (.interface (Tryd.prog.methodsAt 67)) := by kernel_rfl

theorem impl_ReadInt_A (t : ByteArray) (ht : t.size ≤ 1048576) : Spec Tryd.prog 48 [.sc (.string t)] (fun d => ∃ n ok, IntR (bl t) n ok ∧ d = .tup [.sc (.int .i64 n), .sc (.bool ok)]) := by
  have ex0 := @niG_n; have ex1 := @niG_i; have ex2 := @nil_one
  refine sp_ (rs := [.tmp 2, .tmp 3]) (nt := 27) Tryd.func48 rfl fun X hX => ?_
  refine nm_ ?_
  repeat' ((first | contradiction | (with_reducible exact tt_) | ((with_reducible show Wk (AwStepF _ _ _ _ _ _ _)); first | (refine niF_ rfl undI ?_) | (refine cl_ rfl _ _ (atoi_D t (by omega)) rfl rfl ?_; rintro _ ⟨n, e, hA, rfl⟩; (have hr0 := hA.rng.1; have hr1 := hA.rng.2; (rcases hA.er with he | ⟨te, pe, he⟩ <;> (subst he; replace hA := Lib.hid hA)))) | (refine cl_ rfl _ _ (impl_Decimal_A n (by omega) (by omega)) rfl rfl ?_; rintro _ rfl)) | ((with_reducible show Wk (AwStep _ _ _ _ _)); first | (refine pln_ ?_)) | ((with_reducible show Wk (boolK _ _ _ _)); first | (refine bk_ (fun h h' => ?_) (fun h h' => ?_))) | ((with_reducible show Wk (_ ∧ _)); first | (refine and_ ?_ ?_)) | fail) <;> (try refine nm_ ?_))
  all_goals clear ex0 ex1 ex2
  all_goals (refine ⟨?_⟩)
  all_goals first | contradiction | (exfalso; omega) | (exact ⟨0, false, intR_big (by omega), rfl⟩) | (exact ⟨0, false, intR_no hA.out (.inl ifc_ne), rfl⟩) | (exact ⟨0, false, intR_no hA.out (.inr (.inl (by omega))), rfl⟩) | (exact ⟨0, false, intR_no hA.out (.inr (.inr (by first | assumption | simp_all))), rfl⟩) | (exact ⟨n, true, intR_yes (by omega) (by omega) (by first | assumption | simp_all), rfl⟩) | trace_state

theorem impl_ReadDecimal_A (t : ByteArray) (ht : t.size ≤ 1048576) : Spec Tryd.prog 34 [.sc (.string t)] (fun d => ∃ n ok, NumR (bl t) n ok ∧ d = .tup [.sc (.int .i64 n), .sc (.bool ok)]) := by
  refine sp_ (rs := [.tmp 2, .tmp 3]) (nt := 18) Tryd.func34 rfl fun X hX => ?_
  refine nm_ ?_
  repeat' ((first | contradiction | (with_reducible exact tt_) | ((with_reducible show Wk (AwStepF _ _ _ _ _ _ _)); first | (refine cl_ rfl _ _ (impl_ReadInt_A t ht) rfl rfl ?_; rintro _ ⟨n, ok, hI, rfl⟩; (obtain ⟨hn0, hn1⟩ := hI.rng; cases ok <;> replace hI := Lib.hid hI))) | ((with_reducible show Wk (AwStep _ _ _ _ _)); first | (refine pln_ ?_)) | ((with_reducible show Wk (boolK _ _ _ _)); first | (refine bk_ (fun h h' => ?_) (fun h h' => ?_))) | ((with_reducible show Wk (_ ∧ _)); first | (refine and_ ?_ ?_)) | fail) <;> (try refine nm_ ?_))
  all_goals (refine ⟨?_⟩)
  all_goals first | contradiction | (exfalso; omega) | (exact ⟨0, false, num_int3 hI.out, rfl⟩) | (exact ⟨0, false, num_int2 hI.out (by omega), rfl⟩) | (exact ⟨n, true, num_int hI.out (by omega), rfl⟩) | trace_state

structure AscP (s : ByteArray) (i : Nat) : Prop where
  asc : ∀ x ∈ (bl s).take i, 32 ≤ x.toNat ∧ x.toNat ≤ 126
theorem ascP_go {s : ByteArray} {i : Nat} (h : AscP s i) (hi : i < s.size) (hr : 32 ≤ bytB s i ∧ bytB s i ≤ 126) : AscP s (i + 1) := ⟨by
  obtain ⟨x, h1, h2, h3⟩ := at_i hi
  rw [h3]
  intro y hy
  rcases List.mem_append.1 hy with hy | hy
  · exact h.asc y hy
  · rw [List.mem_singleton.1 hy]; omega⟩
theorem AscP.all {s : ByteArray} {i : Nat} (h : AscP s i) (hi : s.size ≤ i) : ∀ x ∈ bl s, 32 ≤ x.toNat ∧ x.toNat ≤ 126 := by
  have := h.asc
  rwa [List.take_of_length_le (by rw [bl_len]; exact hi)] at this
theorem fgo_sz : ∀ (l cur : By), ∀ w ∈ Lib.fieldsGo cur l, w.length ≤ cur.length + l.length
  | [], cur, w, h => by
    unfold Lib.fieldsGo at h
    split at h
    · cases h
    · rw [List.mem_singleton.1 h]; simp
  | b :: l, cur, w, h => by
    cases hb : Lib.isSp b with
    | false => rw [Lib.fieldsGo_more cur b l hb] at h; have := fgo_sz l _ w h; rw [List.length_append] at this; simp at this ⊢; omega
    | true =>
      by_cases he : cur = []
      · subst he; rw [Lib.fieldsGo_sp b l hb] at h; have := fgo_sz l _ w h; simp at this ⊢; omega
      · rw [Lib.fieldsGo_end cur b l hb he] at h
        rcases List.mem_cons.1 h with rfl | h
        · omega
        · have := fgo_sz l _ w h; simp at this ⊢; omega
theorem fieldsS_bl (s : ByteArray) : (fieldsS s).map bl = Lib.fields (bl s) := by
  unfold fieldsS
  rw [List.map_map]
  exact (List.map_congr_left fun x _ => bl_ba x).trans (List.map_id _)
theorem part_f {s : ByteArray} {i : Nat} (h : AscP s i) (hi : s.size ≤ i) (hz : s.size ≤ 600) (hl : (fieldsS s).length ≤ 12) : PartR s (fieldsS s) true := by
  refine ⟨fun _ => ?_, fun e => (by cases e), hl, fun w hw => ?_⟩
  · have hl2 := hl
    rw [← List.length_map (f := bl), fieldsS_bl] at hl2
    unfold partsOf
    rw [if_pos ⟨by rw [bl_len]; exact hz, h.all hi, hl2⟩, fieldsS_bl]
  · unfold fieldsS at hw
    obtain ⟨x, hx, rfl⟩ := List.mem_map.1 hw
    have := fgo_sz (bl s) [] x hx
    rw [bl_len] at this
    rw [ba_len]
    simp at this; omega
structure PartQ (s : ByteArray) (ps : List ByteArray) (ok : Bool) : Prop where
  r : PartR s ps ok
  e : ok = false → ps = []
theorem partQ_n {s : ByteArray} (h : PartR s [] false) : PartQ s [] false := ⟨h, fun _ => rfl⟩
theorem partQ_y {s : ByteArray} {ps : List ByteArray} (h : PartR s ps true) : PartQ s ps true := ⟨h, fun e => by cases e⟩
theorem part_m {s : ByteArray} (hl : 12 < (fieldsS s).length) : PartR s [] false := partNo fun g => by
  have := g.2.2
  rw [← fieldsS_bl, List.length_map] at this
  omega

theorem impl_PartsOf_0 (t : ByteArray) (ht : t.size ≤ 9223372036854775807) : Spec Tryd.prog 15 [.sc (.string t)] (fun d => (∃ ps ok, PartQ t ps ok ∧ d = .tup [.sl ps.length (strsD ps), .sc (.bool ok)]) ∨ ∃ v, d = .tup [.sc (.slice none 0 0), .sc v] ∧ ∃ ps ok, PartQ t ps ok ∧ D.tup [.sl 0 [], .sc v] = .tup [.sl ps.length (strsD ps), .sc (.bool ok)]) := by
  refine sp_ (rs := [.tmp 2, .tmp 3]) (nt := 31) Tryd.func15 rfl fun X hX => ?_
  refine nm_ ?_
  repeat' ((first | contradiction | (with_reducible exact tt_) | ((with_reducible show Wk (AwStepF _ _ _ _ _ _ _)); first | (refine cl_ rfl _ _ (fields_D t (by omega) (fun b hb => by have := hG.out.all (by omega) b hb; omega)) rfl rfl ?_; rintro _ rfl)) | ((with_reducible show Wk (AwStep _ _ _ _ _)); first | (refine pln_ ?_)) | ((with_reducible show Wk (AwCode _ _ _ _ _)); first | (refine lpU_ 0xc01 (ι := Nat) (fun i => [(11, .sc (.int .i64 (i : Int)))]) (fun i => i ≤ t.size ∧ AscP t i) (fun i => t.size - i) 0 ?_ ?_; (focus (exact ⟨Nat.zero_le _, ⟨fun x h => by simp at h⟩⟩)); rintro _ hN0 i hinv; (try dsimp only at hinv); obtain ⟨hi, hG⟩ := hinv; have hbr := bytB_rng t i; replace hG := Lib.hid hG; skip)) | ((with_reducible show Wk (boolK _ _ _ _)); first | (refine bk_ (fun h h' => ?_) (fun h h' => ?_))) | ((with_reducible show Wk (_ ∧ _)); first | (refine and_ ?_ ?_)) | (refine hN0.go (i + 1) ?_ ?_; (focus (exact ⟨by show i + 1 ≤ t.size; omega, ascP_go hG.out (by omega) (by omega)⟩)); (focus (show t.size - (i + 1) < t.size - i; omega))) | fail) <;> (try refine nm_ ?_))
  all_goals (refine ⟨?_⟩)
  all_goals first | contradiction | (exfalso; omega) | (exact .inr ⟨_, rfl, [], false, partQ_n (part_long (by omega)), rfl⟩) | (exact .inr ⟨_, rfl, [], false, partQ_n (part_byte (i := i) (by omega) (by first | exact .inl (by omega) | exact .inr (by omega))), rfl⟩) | (exact .inr ⟨_, rfl, [], false, partQ_n (part_m (by omega)), rfl⟩) | (exact .inl ⟨_, true, partQ_y (part_f hG.out (by omega) (by omega) (by omega)), rfl⟩) | trace_state

theorem impl_PartsOf_A (t : ByteArray) (ht : t.size ≤ 9223372036854775807) : Spec Tryd.prog 15 [.sc (.string t)] (fun d => ∃ ps ok, PartQ t ps ok ∧ d = .tup [.sl ps.length (strsD ps), .sc (.bool ok)]) := (impl_PartsOf_0 t ht).nil2

end Go.Proofs.YtidjjfjhmlndjaaDoor
