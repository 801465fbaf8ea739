/- Rap (what is wanted of them). -/
import Derived.Test.YtidjjfjhmlndjaaGreatDoorVClx
import Derived.Lib.Fields
import Derived.Lib.ItoaNum
import Derived.Lib.ItoaMem
namespace Go.Proofs.YtidjjfjhmlndjaaGreatDoor
open Go.RowKit
set_option linter.unusedVariables false
abbrev By:=List UInt8
def bl (s:ByteArray):By:=s.data.toList
def ba (l:By):ByteArray:=⟨l.toArray⟩
/-- What a reader of a number makes of a word. -/
structure NumR (t:By) (n:Int) (ok:Bool):Prop where
  yes:ok=true→t=Lib.itoa n∧0≤n∧n≤1000000000
  no:ok=false→n=0∧∀ m:Int,0≤m→m≤1000000000→t≠Lib.itoa m
def decVal (l:By):Nat:=l.foldl (fun n b=>10*n+(b.toNat - 48)) 0
theorem decVal_snoc (l:By) (b:UInt8):decVal (l ++ [b])=10*decVal l+(b.toNat - 48):=by simp [decVal]
theorem decVal_dec:∀ (k u:Nat),u < 10 ^ (k+1)→decVal (Lib.decDigits u)=u
  |0,u,h=>by
    rw [Lib.decDigits_one (by omega)]
    show 10*0+((UInt8.ofNat (48+u)).toNat - 48)=u
    have:(UInt8.ofNat (48+u)).toNat=48+u:=by rw [UInt8.toNat_ofNat'];omega
    omega
  |k+1,u,h=>by
    by_cases h10:u < 10
    · exact decVal_dec 0 u (by omega)
    · rw [Lib.decDigits,dif_neg h10,decVal_snoc,decVal_dec k (u / 10) (by rw [Nat.div_lt_iff_lt_mul (by decide),← Nat.pow_succ];exact h)]
      have:(UInt8.ofNat (48+u % 10)).toNat=48+u % 10:=by rw [UInt8.toNat_ofNat'];omega
      omega
theorem itoa_inj {n m:Int} (hn:0≤n∧n≤1000000000) (hm:0≤m∧m≤1000000000) (h:Lib.itoa n=Lib.itoa m):n=m:=by
  obtain ⟨a,rfl⟩:=Int.eq_ofNat_of_zero_le hn.1
  obtain ⟨b,rfl⟩:=Int.eq_ofNat_of_zero_le hm.1
  rw [Lib.itoa_nonneg,Lib.itoa_nonneg] at h
  have e:=congrArg decVal h
  rw [decVal_dec 10 a (by omega),decVal_dec 10 b (by omega)] at e
  rw [e]
theorem NumR.same {t:By}{n m:Int}{ok ok2:Bool} (h:NumR t n ok) (g:NumR t m ok2):n=m∧ok=ok2:=by
  cases ok<;>cases ok2
  · exact ⟨(h.no rfl).1.trans (g.no rfl).1.symm,rfl⟩
  · obtain ⟨e,g0,g1⟩:=g.yes rfl
    exact absurd e ((h.no rfl).2 m g0 g1)
  · obtain ⟨e,h0,h1⟩:=h.yes rfl
    exact absurd e ((g.no rfl).2 n h0 h1)
  · obtain ⟨e,h0,h1⟩:=h.yes rfl
    obtain ⟨e2,g0,g1⟩:=g.yes rfl
    exact ⟨itoa_inj ⟨h0,h1⟩ ⟨g0,g1⟩ (e.symm.trans e2),rfl⟩
theorem numR_itoa {n:Int} (h0:0≤n) (h1:n≤1000000000):NumR (Lib.itoa n) n true:=⟨fun _=>⟨rfl,h0,h1⟩,fun h=>by cases h⟩
theorem numR_ex (t:By):∃ n ok,NumR t n ok:=by
  by_cases h:∃ n:Int,0≤n∧n≤1000000000∧t=Lib.itoa n
  · obtain ⟨n,h0,h1,rfl⟩:=h
    exact ⟨n,true,numR_itoa h0 h1⟩
  · exact ⟨0,false,fun e=>(by cases e),fun _=>⟨rfl,fun m h0 h1 e=>h ⟨m,h0,h1,e⟩⟩⟩
noncomputable def numV (t:By):Int:=(numR_ex t).choose
noncomputable def numO (t:By):Bool:=(numR_ex t).choose_spec.choose
theorem num_r (t:By):NumR t (numV t) (numO t):=(numR_ex t).choose_spec.choose_spec
theorem NumR.eq {t:By}{n:Int}{ok:Bool} (h:NumR t n ok):n=numV t∧ok=numO t:=h.same (num_r t)
theorem dec_dig:∀ (k u:Nat),u < 10 ^ (k+1)→Lib.decDigits u≠ []∧∀ b ∈ Lib.decDigits u,48≤b.toNat∧b.toNat≤57
  |0,u,h=>by
    rw [Lib.decDigits_one (by omega)]
    refine ⟨by simp,fun b hb=>?_⟩
    rw [List.mem_singleton.1 hb,UInt8.toNat_ofNat']
    omega
  |k+1,u,h=>by
    by_cases h10:u < 10
    · exact dec_dig 0 u (by omega)
    · have ih:=dec_dig k (u / 10) (by rw [Nat.div_lt_iff_lt_mul (by decide),← Nat.pow_succ];exact h)
      rw [Lib.decDigits,dif_neg h10]
      refine ⟨by simp,fun b hb=>?_⟩
      rcases List.mem_append.1 hb with hb|hb
      · exact ih.2 b hb
      · rw [List.mem_singleton.1 hb,UInt8.toNat_ofNat']
        omega
def valB (b:UInt8):Option Nat:=if 48≤b.toNat∧b.toNat≤57 then some (b.toNat - 48) else if 97≤b.toNat∧b.toNat≤102 then some (b.toNat - 87) else none
def unhexG:By→Option By
  | []=>some []
  | [_]=>none
  |x::y::r=>match valB x,valB y,unhexG r with
    |some h,some l,some t=>some (UInt8.ofNat (16*h+l)::t)
    |_,_,_=>none
end Go.Proofs.YtidjjfjhmlndjaaGreatDoor
