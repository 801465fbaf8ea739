/- Mark (what is wanted of them). -/
import Derived.Test.YtidjjfjhmlndjaaGreatDoorProg
import Derived.Test.YtidjjfjhmlndjaaGreatDoorVAwa
import Derived.Lib.SlBytesConst
namespace Go.Proofs.YtidjjfjhmlndjaaGreatDoor
open Go.RowKit
def digF:Nat→Nat→List UInt8
  |0,_=> []
  |f+1,n=>if n=0 then [] else digF f (n / 10) ++ [UInt8.ofNat (48+n % 10)]
def digsM (n:Nat):List UInt8:=digF n n
theorem digF_fuel:∀ (f g n:Nat),n≤f→n≤g→digF f n=digF g n
  |0,g,n,hf,_=>by
    have:n=0:=by omega
    subst this
    cases g<;>simp [digF]
  |f+1,0,n,_,hg=>by
    have:n=0:=by omega
    subst this
    simp [digF]
  |f+1,g+1,n,hf,hg=>by
    simp only [digF]
    by_cases h:n=0
    · simp [h]
    · rw [if_neg h,if_neg h,digF_fuel f g (n / 10) (by omega) (by omega)]
theorem digsM_step (n:Nat) (h:0 < n):digsM n=digsM (n / 10) ++ [UInt8.ofNat (48+n % 10)]:=by
  unfold digsM
  cases n with
  |zero=>omega
  |succ m=>
    rw [digF,if_neg (by omega),digF_fuel m ((m+1) / 10) ((m+1) / 10) (by omega) (Nat.le_refl _)]
theorem digsM_zero:digsM 0 = []:=rfl
theorem digF_len:∀ (f n:Nat),(digF f n).length≤f
  |0,_=>Nat.le_refl _
  |f+1,n=>by
    simp only [digF]
    split
    · simp
    · have:=digF_len f (n / 10)
      simp only [List.length_append,List.length_cons,List.length_nil]
      omega
theorem digsM_len (n:Nat):(digsM n).length≤n:=digF_len n n
/-- The mark with number k. -/
def markT (k:Nat):ByteArray:=⟨(109::digsM k).toArray⟩
theorem one_byte (W:World) (x:Int) (h0:0≤x) (h1:x < 256):(convert 74 9 (.slice (some ⟨W.heap.size,0,none⟩) 1 1)).run Tryz.prog (W.alloc (.cells #[.int .u8 x] 5)) = .ok (.string ⟨#[UInt8.ofNat x.toNat]⟩) (W.alloc (.cells #[.int .u8 x] 5)):=by
  have e:(((UInt8.ofNat x.toNat).toNat:Nat):Int)=x:=by
    rw [UInt8.toNat_ofNat',Nat.mod_eq_of_lt (by omega)]
    omega
  have h := run_convert_bytes_back (P := Tryz.prog) (W.alloc (.cells #[.int .u8 x] 5)) 74 9 5 ⟨W.heap.size, 0, none⟩ 1 [UInt8.ofNat x.toNat] Tryz.underlying74 Tryz.underlying5 Tryz.underlying9 (fun j hj => by
    have hj1:j < 1:=hj
    have:j=0:=by omega
    subst this
    rw [List.getElem_cons_zero,e,Addr.add_lit]
    exact World.cell?_alloc_new W _ _ 0)
  exact h
set_option maxRecDepth 100000 in
set_option maxHeartbeats 400000 in
theorem markText_any (k:Int) (w:World) (h0:0 < k) (h1:k≤2000000000000000000):
    Calls Tryz.prog 60 #[.int .i64 k] w fun e w'=>e = .returned (.string (markT k.toNat))∧Below w.heap.size w w':=by
  have h0':¬ k≤0:=by omega
  go_enter Tryz.func60,Tryz.ntmps60
  go_wp2
  go_loopw [0,3] (fun v o wr=>∃ (n:Int) (l:List UInt8),v = .int .i64 n∧0≤n∧n≤k∧o = .string ⟨l.toArray⟩∧digsM n.toNat++l=digsM k.toNat∧Below w.heap.size w wr) (fun v _ _=>(intOf v).toNat)
  case atStart=>exact ⟨k, [],rfl,by omega,by omega,rfl,by simp,bel0 w⟩
  case round=>
    obtain ⟨n,l,rfl,hn0,hn,rfl,hd,hb⟩:=hrel
    have hL:l.length≤2000000000000000000:=by
      have h2:=digsM_len k.toNat
      have h3:=congrArg List.length hd
      rw [List.length_append] at h3
      omega
    have HD:=Lib.hid hd
    clear hd
    by_cases hlt:0 < n
    · have hcv:=fun W=>one_byte W (48+n % 10) (by omega) (by omega)
      go_wp2
      go_roundw
      case rel=>
        refine ⟨n / 10,UInt8.ofNat (48+n % 10).toNat::l,rfl,by omega,by omega,?_,?_,box hb _⟩
        · congr 1
        · have h:=digsM_step n.toNat (by omega)
          rw [show (n / 10).toNat=n.toNat / 10 by omega,show (48+n % 10).toNat=48+n.toNat % 10 by omega,← HD.out,h]
          simp
      case measure=>simp [intOf];omega
    · obtain rfl:n=0:=by omega
      go_wp2
      go_ret
      have hd:=HD.out
      refine ⟨?_,hb⟩
      simp only [Int.toNat_zero,digsM_zero,List.nil_append] at hd
      subst hd
      unfold markT
      congr 2
end Go.Proofs.YtidjjfjhmlndjaaGreatDoor
