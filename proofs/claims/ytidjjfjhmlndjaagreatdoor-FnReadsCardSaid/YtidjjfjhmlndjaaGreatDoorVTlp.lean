/- Tlp (what is wanted of them). -/
import Derived.Test.YtidjjfjhmlndjaaGreatDoorVCpx
import Derived.Test.YtidjjfjhmlndjaaGreatDoorVTlr
namespace Go.Proofs.YtidjjfjhmlndjaaGreatDoor
open Go.RowKit Go.Sort Go.Shelf Go.Lib
set_option linter.unusedVariables false
set_option linter.unusedSimpArgs false
theorem tolsU:Tryz.prog.underlying 76=some (.slice 145):=by kernel_rfl
theorem tolZ (w:World):(zeroValue 145).run Tryz.prog w = .ok (.agg #[.string ⟨#[]⟩,.bool false,.string ⟨#[]⟩,.int .i64 0]) w:=zero_run ze145 w
set_option maxHeartbeats 4000000 in
set_option maxRecDepth 1000000 in
theorem compactL_any (enc:Nat→List Value) (k:Nat) (hk4:Hid (k=4)) (hk:∀ x,(enc x).length=k) (h1:∀ x,∀ v ∈ enc x,v.oneCell' = true) (z:Nat) (hz:enc z = [.string ⟨#[]⟩,.bool false,.string ⟨#[]⟩,.int .i64 0]) (e:Nat→Nat→Bool) (blk off n cap:Nat) (w:World)
    (heq:∀ (x y:Nat) (W:World),Sem.run Tryz.prog (binOp .eql 145 (.agg (enc x).toArray) (.agg (enc y).toArray)) W = .ok (.bool (e x y)) W) (hne:∀ (x y:Nat) (W:World),Sem.run Tryz.prog (binOp .neq 145 (.agg (enc x).toArray) (.agg (enc y).toArray)) W = .ok (.bool (!e x y)) W) (hH:HoldsK enc k w blk off (Array.range n)) (hblk:blk < w.heap.size) (hn:n≤1048576) (hcap:n≤cap):
    Calls Tryz.prog 194 #[.slice (some ⟨blk,off,none⟩) n cap] w fun e' w'=>e' = .returned (.slice (some ⟨blk,off,none⟩) (keepL e n).length cap)∧∃ dk':Array Nat,dk'.size=n∧(∀ i,i < (keepL e n).length→dk'[i]! = (keepL e n).getD i 0)∧SWK enc k w blk off dk' w':=by
  have mixed:Tryz.prog.follows .mixedOrders=true:=by kernel_rfl
  have aE:=Tryz.isAgg145
  have zE:∀ w,(Go.sizeOf 145).run Tryz.prog w = .ok k w:=by rw [hk4.out];exact Tryz.sizeOf145
  have R:RowK enc k w blk off (Array.range n):=⟨hk,h1,hH,hblk⟩
  have RR:=Lib.hid R
  have HEQ:=Lib.hid heq
  have HNE:=Lib.hid hne
  have HZ:=Lib.hid hz
  have S0:SWK enc k w blk off (Array.range n) w:=SWK.start hH
  have SS0:=Lib.hid S0
  clear heq hne hH hk h1 hz R S0
  have same:(∀ j,j < n→0 < j→e j (j - 1)=false)→(keepL e n).length=n∧∀ i,i < (keepL e n).length→(Array.range n)[i]! = (keepL e n).getD i 0:=by
    intro h
    rw [keepL_all h]
    refine ⟨List.length_range,fun i hi=>?_⟩
    have hi:i < n:=by simpa using hi
    rw [getElem!_pos (Array.range n) i (by simpa using hi),List.getD_eq_getElem?_getD,List.getElem?_range hi]
    simp
  have HS:=Lib.hid same
  clear same
  by_cases h2:n < 2
  · have hn2:(n:Int) < 2:=by omega
    go_enter Tryz.func194,Tryz.ntmps194
    go_wp2
    go_ret
    obtain ⟨e1,e2⟩:=HS.out (fun j hj h0=>by omega)
    exact ⟨by rw [e1];rfl,_,by simp,e2,SS0.out⟩
  · have hn2:¬ (n:Int) < 2:=by omega
    go_enter Tryz.func194,Tryz.ntmps194
    go_wp2
    go_loopg [3] n (fun gg s5 wr=>∃ i:Nat,1≤i∧i≤n∧n - i≤gg∧s5 = .int .i64 i∧Hid (SWK enc k w blk off (Array.range n) wr)∧Hid (∀ j,j < i→0 < j→e j (j - 1)=false))
    case atStart=>exact ⟨1,Nat.le_refl _,by omega,by omega,rfl,SS0,Lib.hid (fun j hj h0=>by omega)⟩
    case round=>
      obtain ⟨i,hi1,hi,hg,rfl,hS,hall⟩:=hrel
      by_cases hlt:i < n
      · obtain ⟨kp,rfl⟩:∃ kp,i=kp+1:=⟨i - 1,by omega⟩
        have jz:(kp:Int)+1 < (n:Int):=by omega
        have jz1:(kp:Int) < (n:Int):=by omega
        have p0:(0:Int)≤(kp:Int)+1:=by omega
        have e0:((kp:Int)+1).toNat=kp+1:=by omega
        have hwp:IntKind.i64.wrap (kp:Int)=(kp:Int):=by rw [IntKind.wrap_i64];omega
        have r1:(Array.range n)[kp+1]! = kp+1:=by rw [getElem!_pos _ _ (by simpa using hlt)];simp
        have r0:(Array.range n)[kp]! = kp:=by rw [getElem!_pos _ _ (by simp;omega)];simp
        have lj:∀ n' os',Sem.run Tryz.prog (loadCellsFrom ⟨blk,off+(kp+1)*k,none⟩ 0 k #[]) (grow (wr.drewN n') os') = .ok (enc (kp+1)).toArray (grow (wr.drewN n') os'):=fun n' os'=>by
          have:=hS.out.ld RR.out rfl Tryz.prog (kp+1) (by simpa using hlt) n' os'
          rwa [r1] at this
        have lp:∀ n' os',Sem.run Tryz.prog (loadCellsFrom ⟨blk,off+kp*k,none⟩ 0 k #[]) (grow (wr.drewN n') os') = .ok (enc kp).toArray (grow (wr.drewN n') os'):=fun n' os'=>by
          have:=hS.out.ld RR.out rfl Tryz.prog kp (by simp;omega) n' os'
          rwa [r0] at this
        have hcg:=HEQ.out (kp+1) kp
        cases hlv:e (kp+1) kp
        · rw [hlv] at hcg
          go_wp2_with fail
          go_quiet_grown (fail)
          go_wp2
          go_roundg (n - (kp+1+1))
          case measure=>omega
          case rel => exact ⟨kp + 1 + 1, by omega, by omega, Nat.le_refl _, by go_num, Lib.hid (hS.out.grown nq osq), Lib.hid (fun j hj h0 => by
            by_cases ej:j=kp+1
            · subst ej;exact hlv
            · exact hall.out j (by omega) h0)⟩
        · rw [hlv] at hcg
          have hK1:keepL e (kp+1)=List.range (kp+1):=keepL_all hall.out
          have hK2:keepL e (kp+1+1)=keepL e (kp+1):=keepL_no (by simp [hlv])
          have hD:dkOf e n (kp+1+1)=Array.range n:=by rw [dkOf_no (by simp [hlv])];exact dkOf_all (by omega) hall.out
          have HKL:Hid ((keepL e (kp+1+1)).length=kp+1):=Lib.hid (by rw [hK2,hK1,List.length_range])
          have HD:=Lib.hid hD
          clear hK1 hK2 hD
          go_wp2_with fail
          go_quiet_grown (fail)
          go_wp2_with fail
          have hS2:=Lib.hid (hS.out.grown nq osq)
          clear lj lp hcg
          generalize grow (wr.drewN nq) osq=wr1 at hS2 ⊢
          go_wp2
          generalize hr:n - (kp+1)=r
          generalize cap - (kp+1)=rc
          go_loopg [3,5] n (fun gg s5 s7 wr=>∃ kk k2:Nat,s5 = .int .i64 kk∧s7 = .int .i64 k2∧1≤k2∧kp+1+k2≤n∧n - (kp+1+k2)≤gg∧Hid (kk=(keepL e (kp+1+k2)).length)∧kk+1≤kp+1+k2∧Hid (SWK enc k w blk off (dkOf e n (kp+1+k2)) wr))
          case atStart=>exact ⟨kp+1,1,rfl,rfl,Nat.le_refl _,by omega,by omega,Lib.hid HKL.out.symm,by omega,Lib.hid (by rw [HD.out];exact hS2.out)⟩
          case round=>
            obtain ⟨kk,k2,rfl,rfl,h21,hle,hg2,hkk,hkl,hS3⟩:=hrel
            by_cases hlt2:kp+1+k2 < n
            · obtain ⟨k2p,rfl⟩:∃ k2p,k2=k2p+1:=⟨k2 - 1,by omega⟩
              have q0:(k2p:Int)+1 < (r:Int):=by omega
              have q1:(k2p:Int) < (r:Int):=by omega
              have q2:(0:Int)≤(k2p:Int)+1:=by omega
              have q3:((k2p:Int)+1).toNat=k2p+1:=by omega
              have q4:IntKind.i64.wrap (k2p:Int)=(k2p:Int):=by rw [IntKind.wrap_i64];omega
              have q5:(kk:Int) < (n:Int):=by omega
              have hds:(dkOf e n (kp+1+(k2p+1))).size=n:=dkOf_size (by omega)
              have r2:(dkOf e n (kp+1+(k2p+1)))[kp+1+(k2p+1)]! = kp+1+(k2p+1):=dkOf_high (by rw [← hkk.out];omega) hlt2
              have r3:(dkOf e n (kp+1+(k2p+1)))[kp+1+k2p]! = kp+1+k2p:=dkOf_high (by rw [← hkk.out];omega) (by omega)
              have lj:∀ n' os',Sem.run Tryz.prog (loadCellsFrom ⟨blk,off+(kp+1)*k+(k2p+1)*k,none⟩ 0 k #[]) (grow (wr.drewN n') os') = .ok (enc (kp+1+(k2p+1))).toArray (grow (wr.drewN n') os'):=fun n' os'=>by
                have:=hS3.out.ld RR.out (by rw [hds];simp) Tryz.prog (kp+1+(k2p+1)) (by rw [hds];exact hlt2) n' os'
                rwa [r2,Nat.add_mul (kp+1),← Nat.add_assoc off] at this
              have lp:∀ n' os',Sem.run Tryz.prog (loadCellsFrom ⟨blk,off+(kp+1)*k+k2p*k,none⟩ 0 k #[]) (grow (wr.drewN n') os') = .ok (enc (kp+1+k2p)).toArray (grow (wr.drewN n') os'):=fun n' os'=>by
                have:=hS3.out.ld RR.out (by rw [hds];simp) Tryz.prog (kp+1+k2p) (by rw [hds];omega) n' os'
                rwa [r3,Nat.add_mul (kp+1),← Nat.add_assoc off] at this
              have hcg:=HNE.out (kp+1+(k2p+1)) (kp+1+k2p)
              have hke:(kp+1+(k2p+1)==0||!e (kp+1+(k2p+1)) (kp+1+(k2p+1) - 1))=!e (kp+1+(k2p+1)) (kp+1+k2p):=by
                rw [show (kp+1+(k2p+1)==0)=false from beq_eq_false_iff_ne.2 (by omega),show kp+1+(k2p+1) - 1=kp+1+k2p by omega];rfl
              have HKE:=Lib.hid hke
              have HR2:=Lib.hid r2
              have HDS:=Lib.hid hds
              clear hke r2 r3 hds
              cases hlv:e (kp+1+(k2p+1)) (kp+1+k2p)
              · rw [hlv] at hcg
                go_wp2_with fail
                go_quiet_grown (fail)
                have st1:Sem.run Tryz.prog (storeCells ⟨blk,off+kk*k,none⟩ (enc (kp+1+(k2p+1))) 0) (grow (wr.drewN nq) osq) = .ok () ((grow (wr.drewN nq) osq).setCells blk (off+kk*k) (enc (kp+1+(k2p+1)))):=
                  stores_of_holds Tryz.prog ((hS3.out.grown nq osq).holds RR.out.hblk RR.out.hH (by rw [HDS.out];simp)) (kk*k) _ (by rw [RR.out.hk,size_flatK,HDS.out];exact rowK_in' n k kk (by omega)) (RR.out.h1 _)
                have hsl:(enc (kp+1+(k2p+1))).length=k:=RR.out.hk _
                go_wp2
                go_roundg (n - (kp+1+(k2p+1+1)))
                case measure=>omega
                case rel => exact ⟨kk + 1, k2p + 1 + 1, by go_num, by go_num, by omega, by omega, Nat.le_refl _, Lib.hid (by
                    rw [show kp+1+(k2p+1+1)=kp+1+(k2p+1)+1 by omega,keepL_yes (by rw [HKE.out,hlv];rfl),List.length_append,← hkk.out];rfl),by omega,Lib.hid (by
                    have:=swk_stored (hS3.out.grown nq osq) RR.out.hk RR.out.hblk kk (kp+1+(k2p+1)) (by rw [HDS.out];omega)
                    rw [hkk.out,dkOf_yes hlt2 (by rw [HKE.out,hlv];rfl),← hkk.out] at this
                    exact this)⟩
              · rw [hlv] at hcg
                go_wp2_with fail
                go_quiet_grown (fail)
                go_wp2
                go_roundg (n - (kp+1+(k2p+1+1)))
                case measure=>omega
                case rel => exact ⟨kk, k2p + 1 + 1, rfl, by go_num, by omega, by omega, Nat.le_refl _, Lib.hid (by
                    rw [show kp+1+(k2p+1+1)=kp+1+(k2p+1)+1 by omega,keepL_no (by rw [HKE.out,hlv];rfl)];exact hkk.out),by omega,Lib.hid (by
                    rw [show kp+1+(k2p+1+1)=kp+1+(k2p+1)+1 by omega,dkOf_no (by rw [HKE.out,hlv];rfl)]
                    exact hS3.out.grown nq osq)⟩
            · have hend:kp+1+k2=n:=by omega
              have q6:¬ (k2:Int) < (r:Int):=by omega
              have q7:(kk:Int) < (n:Int):=by omega
              have hH3:HoldsK enc k wr blk off (dkOf e n (kp+1+k2)):=hS3.out.holds RR.out.hblk RR.out.hH (by rw [dkOf_size (by omega)];simp)
              have hcl:∀ ty,(Builtin.clear_ #[76] ty #[.slice (some ⟨blk,off+kk*k,none⟩) (n - kk) (cap - kk)]).run Tryz.prog wr = .ok (.tuple #[]) (wr.setCells blk (off+kk*k) (List.replicate (n - kk) (enc z)).flatten):=fun ty=>by
                have hlen:(enc z).length=k:=RR.out.hk _
                rw [HZ.out] at hlen ⊢
                refine run_clear_k (e:=145) (z:=#[.string ⟨#[]⟩,.bool false,.string ⟨#[]⟩,.int .i64 0]) tolsU tolZ ?_ hH3 (kk*k) (n - kk) _ (by omega) ?_
                · intro v hv
                  rw [← HZ.out] at hv
                  exact RR.out.h1 _ v hv
                · rw [size_flatK,dkOf_size (by omega)]
                  have:(#[Value.string ⟨#[]⟩,.bool false,.string ⟨#[]⟩,.int .i64 0]:Array Value).size=k:=hlen
                  rw [this,← Nat.add_mul,show kk+(n - kk)=n by omega]
                  exact Nat.le_refl _
              clear hH3
              have HE:=Lib.hid hend
              go_wp2
              go_ret
              have e1:keepL e n=keepL e (kp+1+k2):=by rw [HE.out]
              rw [e1,← hkk.out]
              refine ⟨rfl,?_⟩
              obtain ⟨dk',h4,h5,h6⟩:=swk_cleared RR.out.hk RR.out.hblk z (n - kk) kk _ _ hS3.out (by rw [dkOf_size (by omega)];omega)
              exact ⟨dk',by rw [h4,dkOf_size (by omega)],fun i hi=>(h5 i hi).trans (dkOf_low (by rw [← hkk.out];exact hi)),h6⟩
      · have:i=n:=by omega
        subst this
        go_wp2
        go_ret
        obtain ⟨e1,e2⟩:=HS.out hall.out
        exact ⟨by rw [e1];rfl,_,by simp,e2,hS.out⟩
end Go.Proofs.YtidjjfjhmlndjaaGreatDoor
