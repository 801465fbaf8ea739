/- Teq, Tct, Tle, Tlt (what is wanted of them). -/
import Derived.Test.YtidjjfjhmlndjaaGreatDoorVTcp
import Derived.Test.YtidjjfjhmlndjaaGreatDoorVCpx
import Derived.Test.YtidjjfjhmlndjaaGreatDoorVDk
import Derived.Test.YtidjjfjhmlndjaaGreatDoorVTlp
namespace Go.Proofs.YtidjjfjhmlndjaaGreatDoor
open Go.RowKit Go.Sort Go.Shelf Go.Lib
set_option linter.unusedVariables false
set_option linter.unusedSimpArgs false
theorem tnt_equal (k1 k2 v1 v2:ByteArray) (e1 e2:Int) (W:World):(Op.equalIn 10000 118 (.agg #[.string k1,.string v1,.int .i64 e1]) (.agg #[.string k2,.string v2,.int .i64 e2])).run Tryz.prog W = .ok (eqB k1 k2&&(eqB v1 v2&&(e1==e2))) W:=by
  have hu:Tryz.prog.underlying 118=some (.struct (Tryz.prog.fieldsOf 118)):=by kernel_rfl
  rw [show (10000:Nat)=9999+1 from rfl,run_equalIn_struct W 9999 118 _ _ hu (by kernel_rfl)]
  have hks:eqFs Tryz.prog (Tryz.prog.fieldsOf 118).toList 0=some [.s,.s,.i]:=by kernel_rfl
  have hr:∀ (k v:ByteArray) (e:Int) (q:Nat) (d:D) (u:Value),([.sc (.string k),.sc (.string v),.sc (.int .i64 e)]:List D)[q]? = some d→([.string k,.string v,.int .i64 e]:List Value)[0+q]? = some u→Rep1 (roEnv fun _=>False) W d u:=fun k v e q d u h1 h2=>by
    rcases q with _|_|_|q<;>simp at h1 h2<;>subst h1<;>subst h2<;>exact ⟨rfl,rfl⟩
  have h:=run_eqK (E:=roEnv fun _=>False) (w0:=W) (w:=W) (xs:= [.string k1,.string v1,.int .i64 e1]) (ys:= [.string k2,.string v2,.int .i64 e2]) (xa:= [.sc (.string k1),.sc (.string v1),.sc (.int .i64 e1)]) (xb:= [.sc (.string k2),.sc (.string v2),.sc (.int .i64 e2)]) (r:=(k1.toList==k2.toList)&&((v1.toList==v2.toList)&&((e1==e2)&&true))) hks rfl rfl rfl (hr k1 v1 e1) (hr k2 v2 e2) 9998
  rw [Bool.and_true] at h
  exact h
theorem tnt_eql (xs:List TaintD) (x y:Nat) (W:World):Sem.run Tryz.prog (binOp .eql 118 (.agg (tntE xs x).toArray) (.agg (tntE xs y).toArray)) W = .ok (.bool (taintSame (xs.getD x default) (xs.getD y default))) W:=by
  have h:=tnt_equal (xs.getD x default).key (xs.getD y default).key (xs.getD x default).value (xs.getD y default).value (xs.getD x default).effect (xs.getD y default).effect W
  simp only [tntE,run_eql_struct,h,Result.andThen_ok]
  rfl
theorem tnt_neq (xs:List TaintD) (x y:Nat) (W:World):Sem.run Tryz.prog (binOp .neq 118 (.agg (tntE xs x).toArray) (.agg (tntE xs y).toArray)) W = .ok (.bool (!taintSame (xs.getD x default) (xs.getD y default))) W:=by
  have h:=tnt_equal (xs.getD x default).key (xs.getD y default).key (xs.getD x default).value (xs.getD y default).value (xs.getD x default).effect (xs.getD y default).effect W
  simp only [tntE,run_neq_struct,h,Result.andThen_ok]
  rfl
end Go.Proofs.YtidjjfjhmlndjaaGreatDoor
namespace Go.Proofs.YtidjjfjhmlndjaaGreatDoor
open Go.RowKit Go.Sort Go.Shelf Go.Lib
set_option linter.unusedVariables false
set_option linter.unusedSimpArgs false
theorem taintSame_iff (a b:TaintD):taintSame a b=true↔a=b:=by
  unfold taintSame
  rw [Bool.and_eq_true,Bool.and_eq_true]
  constructor
  · rintro ⟨h1,h2,h3⟩
    obtain ⟨k,v,e⟩:=a
    obtain ⟨k',v',e'⟩:=b
    have e1:=eqB_eq h1
    have e2:=eqB_eq h2
    have e3:=eq_of_beq h3
    simp only at e1 e2 e3
    subst e1;subst e2;subst e3
    rfl
  · intro h
    subst h
    exact ⟨eqB_refl' _,eqB_refl' _,beq_self_eq_true _⟩
theorem compactT_nil (cap:Nat) (p:Option Addr) (w:World):Calls Tryz.prog 168 #[.slice p 0 cap] w fun e' w'=>e' = .returned (.slice p 0 cap)∧w' = w:=by
  go_enter Tryz.func168,Tryz.ntmps168
  go_wp2
  go_ret
  exact ⟨rfl,rfl⟩
set_option maxHeartbeats 1000000 in
theorem compactTaints_H (xs:List TaintD) (hn:xs.length≤1048576):SpecH Tryz.prog 168 [.own 0 0 xs.length] [(0,⟨118,3,xs.length,taintsD xs⟩)] 1
    (fun d os' nb'=>d = .own 0 0 (cptL taintSame xs).length∧os' = [(0,⟨118,3,(cptL taintSame xs).length,taintsD (cptL taintSame xs)⟩)]∧nb' = 1):=by
  refine ⟨callable Tryz.func168 rfl (by kernel_rfl),fun E M w args hsr hsz hrep=>?_⟩
  obtain ⟨v,rfl⟩:=args1 hsz
  have h0:Rep E w (.own 0 0 xs.length) v:=hrep 0 _ rfl
  have hsame : SR (fun g => w.heap.size ≤ g ∨ M g) E [(0, ⟨118, 3, xs.length, taintsD xs⟩)] 1 w := ⟨fun i x hi => by
      have:=hsr.obs i x hi
      refine ⟨this.1,this.2.imp_right ?_⟩
      rintro ⟨l,q1,q2,q3⟩
      exact ⟨l, q1, .inr q2, q3⟩, hsr.new, hsr.rolt, hsr.apart, hsr.nodup, ⟨fun b i p hb => by obtain ⟨q1, q2, q3⟩ := hsr.tr.blk b i p hb; exact ⟨q1, .inr q2, q3⟩, hsr.tr.cell⟩⟩
  have hcp:cptL taintSame xs=(keepL (fun i j=>taintSame (xs.getD i default) (xs.getD j default)) xs.length).map fun k=>xs.getD k default:=by
    have:=cptL_keep taintSame xs xs.length (Nat.le_refl _)
    rwa [List.take_length] at this
  rcases h0 with ⟨l,c,hl,rfl,hnc,hcm,hcc⟩|⟨hl,_,hn0,rfl⟩
  · have hob:=hsr.obs 0 _ (List.mem_singleton.2 rfl)
    obtain ⟨cur,hc0,hcsz,hcur,hMl⟩:∃ cur,w.heap[l.g]? = some (.cells cur 118 (0,0))∧cur.size=l.cap*3∧(∀ (j:Nat) (d:D),(taintsD xs)[j]? = some d→∃ u,cur[j]? = some u∧u.oneCell' = true∧Rep1 E w d u)∧M l.g:=by
      rcases hob.2 with ⟨h5,_⟩|⟨m,h5,h6,h7,h8,h9,h10⟩
      · rw [hl] at h5;cases h5
      · rw [hl] at h5;injection h5 with h5;injection h5 with h5;subst h5
        rcases h10 with ⟨cur,c1,c2,c3⟩|⟨c1,_⟩
        · exact ⟨cur,c1.row (by show ¬ 118=1000000;decide),c2,c3,h6⟩
        · exact absurd c1 (by show ¬ (3=0);decide)
    have hcells:∀ i,i < xs.length→∀ r,r < 3→cur[i*3+r]? = (tntE xs i)[r]? :=fun i hi r hr=>by
      match r,hr with
      |0,_=>
        obtain ⟨u,h1,_,h2⟩:=hcur (i*3) _ (taintsD_f0 xs i hi)
        show cur[i*3]? = some _
        rw [h1,h2.1]
      |1,_=>
        obtain ⟨u,h1,_,h2⟩:=hcur (i*3+1) _ (taintsD_f1 xs i hi)
        show cur[i*3+1]? = some _
        rw [h1,h2.1]
      |2,_=>
        obtain ⟨u,h1,_,h2⟩:=hcur (i*3+2) _ (taintsD_f2 xs i hi)
        show cur[i*3+2]? = some _
        rw [h1,h2.1]
    have hblk:l.g < w.heap.size:=(Array.getElem?_eq_some_iff.1 hc0).1
    have hH:=tnt_holds hc0 hcells (Array.range xs.length) fun i hi=>by
      have hi':i < xs.length:=by simpa using hi
      rw [getElem!_pos _ i hi,Array.getElem_range]
      exact ⟨hi',rfl⟩
    have hz:tntE xs xs.length = [.string ⟨#[]⟩,.string ⟨#[]⟩,.int .i64 0]:=by
      unfold tntE
      rw [List.getD_eq_getElem?_getD,List.getElem?_eq_none (by omega)]
      rfl
    have hcall:=compactT_any (tntE xs) 3 (Lib.hid rfl) (tntE_len xs) (tntE_one xs) _ hz (fun i j=>taintSame (xs.getD i default) (xs.getD j default)) l.g 0 xs.length c w (fun x y W=>tnt_eql xs x y W) (fun x y W=>tnt_neq xs x y W) hH hblk hn hnc
    refine hcall.mono ?_
    rintro e w' ⟨rfl,d',hd1,hd2,n,os,rfl⟩
    generalize hσ:keepL (fun i j=>taintSame (xs.getD i default) (xs.getD j default)) xs.length=σ at hcp hd2 ⊢
    have hσl:σ.length≤xs.length:=by rw [← hσ];exact keepL_le _ _
    have hσm:∀ q ∈ σ,q < xs.length:=fun q hq=>by rw [← hσ] at hq;exact keepL_lt hq
    have hσn:σ.Nodup:=by rw [← hσ];exact keepL_nodup _ _
    obtain ⟨cur',hc1,hc2⟩:=sortW_row (tntE xs) 3 w l.g n d' os hc0
    have hH2:=holdsK_sortWorldK_c (tntE xs) 3 w l.g 0 (Array.range xs.length) d' n os hH hblk (by rw [Array.size_range,hd1])
    obtain ⟨E', hE1, hE2, hsr'⟩ := sel_sr (cells := taintCells) taintCells_len (by decide) (fun _ => rfl) hsr hl hc0 σ hσm hσn hσl hc2 (by rw [hc1, hcsz]) (fun q r hq hr => by
      have hq':q < d'.size:=by rw [hd1];omega
      have e1:=(HoldsK.cells hH2 (tntE_len xs) hq')
      have e2:=hd2 q hq
      have hmem:σ.getD q 0 < xs.length:=hσm _ (by rw [List.getD_eq_getElem?_getD,List.getElem?_eq_getElem hq];exact List.getElem_mem _)
      rw [hcells _ hmem r hr,← e2]
      have h4:r < (tntE xs d'[q]!).length:=hr
      have e3:=e1 r _ (List.getElem?_eq_getElem h4)
      rw [Addr.add_lit,Nat.zero_add,cell_of_row _ l.g _ cur' _ _ hc2] at e3
      rw [e3, List.getElem?_eq_getElem h4]) (sortW_size ..) (fun b hb hne => sortW_old _ _ _ _ _ _ _ b hb hne)
    have hlen:(cptL taintSame xs).length=σ.length:=by rw [hcp,List.length_map]
    refine ⟨_,_,1,E',_,⟨rfl,rfl,rfl⟩,rfl,?_,?_,Nat.le_refl _,⟨fun i m hm=>by rw [hE1];exact hm,fun b hb=>by rw [hE2];exact hb⟩,rfl,rfl,rfl,sortW_size ..,fun b hb hm=>sortW_old _ _ _ _ _ _ _ b hb (fun e=>hm (e ▸ hMl)),fun b hb=>.inl (by rw [hE2] at hb;exact hb),fun i m hi him=>by rw [hE1,hsr.new i hi] at him;cases him⟩
    · rw [hlen]
      exact .inl ⟨l,c,by rw [hE1];exact hl,rfl,by omega,hcm,hcc⟩
    · rw [hlen,hcp]
      exact hsr'
  · obtain rfl:xs = []:=List.eq_nil_of_length_eq_zero hn0
    refine (compactT_nil 0 none w).mono ?_
    rintro e w' ⟨rfl,rfl⟩
    exact ⟨_,_,1,E,_,⟨rfl,rfl,rfl⟩,rfl,.inr ⟨hl,rfl,rfl,rfl⟩,hsame,Nat.le_refl _,.refl E,rfl,rfl,rfl,Nat.le_refl _,fun _ _ _=>rfl,fun b hb=>.inl hb,fun i l hi hil=>by rw [hsr.new i hi] at hil;cases hil⟩
end Go.Proofs.YtidjjfjhmlndjaaGreatDoor
namespace Go.Proofs.YtidjjfjhmlndjaaGreatDoor
open Go.RowKit Go.Sort Go.Shelf Go.Lib
set_option linter.unusedVariables false
set_option linter.unusedSimpArgs false
theorem tol_equal (k1 k2 v1 v2:ByteArray) (q1 q2:Bool) (e1 e2:Int) (W:World):(Op.equalIn 10000 145 (.agg #[.string k1,.bool q1,.string v1,.int .i64 e1]) (.agg #[.string k2,.bool q2,.string v2,.int .i64 e2])).run Tryz.prog W = .ok (eqB k1 k2&&((q1==q2)&&(eqB v1 v2&&(e1==e2)))) W:=by
  have hu:Tryz.prog.underlying 145=some (.struct (Tryz.prog.fieldsOf 145)):=by kernel_rfl
  rw [show (10000:Nat)=9999+1 from rfl,run_equalIn_struct W 9999 145 _ _ hu (by kernel_rfl)]
  have hks:eqFs Tryz.prog (Tryz.prog.fieldsOf 145).toList 0=some [.s,.b,.s,.i]:=by kernel_rfl
  have hr:∀ (k v:ByteArray) (f:Bool) (e:Int) (q:Nat) (d:D) (u:Value),([.sc (.string k),.sc (.bool f),.sc (.string v),.sc (.int .i64 e)]:List D)[q]? = some d→([.string k,.bool f,.string v,.int .i64 e]:List Value)[0+q]? = some u→Rep1 (roEnv fun _=>False) W d u:=fun k v f e q d u h1 h2=>by
    rcases q with _|_|_|_|q<;>simp at h1 h2<;>subst h1<;>subst h2<;>exact ⟨rfl,rfl⟩
  have h:=run_eqK (E:=roEnv fun _=>False) (w0:=W) (w:=W) (xs:= [.string k1,.bool q1,.string v1,.int .i64 e1]) (ys:= [.string k2,.bool q2,.string v2,.int .i64 e2]) (xa:= [.sc (.string k1),.sc (.bool q1),.sc (.string v1),.sc (.int .i64 e1)]) (xb:= [.sc (.string k2),.sc (.bool q2),.sc (.string v2),.sc (.int .i64 e2)]) (r:=(k1.toList==k2.toList)&&((q1==q2)&&((v1.toList==v2.toList)&&((e1==e2)&&true)))) hks rfl rfl rfl (hr k1 v1 q1 e1) (hr k2 v2 q2 e2) 9998
  rw [Bool.and_true] at h
  exact h
theorem tol_eql (xs:List TolerD) (x y:Nat) (W:World):Sem.run Tryz.prog (binOp .eql 145 (.agg (tolE xs x).toArray) (.agg (tolE xs y).toArray)) W = .ok (.bool (tolerSame (xs.getD x default) (xs.getD y default))) W:=by
  have h:=tol_equal (xs.getD x default).key (xs.getD y default).key (xs.getD x default).value (xs.getD y default).value (xs.getD x default).equal (xs.getD y default).equal (xs.getD x default).effect (xs.getD y default).effect W
  simp only [tolE,run_eql_struct,h,Result.andThen_ok]
  rfl
theorem tol_neq (xs:List TolerD) (x y:Nat) (W:World):Sem.run Tryz.prog (binOp .neq 145 (.agg (tolE xs x).toArray) (.agg (tolE xs y).toArray)) W = .ok (.bool (!tolerSame (xs.getD x default) (xs.getD y default))) W:=by
  have h:=tol_equal (xs.getD x default).key (xs.getD y default).key (xs.getD x default).value (xs.getD y default).value (xs.getD x default).equal (xs.getD y default).equal (xs.getD x default).effect (xs.getD y default).effect W
  simp only [tolE,run_neq_struct,h,Result.andThen_ok]
  rfl
end Go.Proofs.YtidjjfjhmlndjaaGreatDoor
namespace Go.Proofs.YtidjjfjhmlndjaaGreatDoor
open Go.RowKit Go.Sort Go.Shelf Go.Lib
set_option linter.unusedVariables false
set_option linter.unusedSimpArgs false
theorem tolerSame_iff (a b:TolerD):tolerSame a b=true↔a=b:=by
  unfold tolerSame
  rw [Bool.and_eq_true,Bool.and_eq_true,Bool.and_eq_true]
  constructor
  · rintro ⟨h1,h2,h3,h4⟩
    obtain ⟨k,q,v,e⟩:=a
    obtain ⟨k',q',v',e'⟩:=b
    have e1:=eqB_eq h1
    have e2:=eq_of_beq h2
    have e3:=eqB_eq h3
    have e4:=eq_of_beq h4
    simp only at e1 e2 e3 e4
    subst e1;subst e2;subst e3;subst e4
    rfl
  · intro h
    subst h
    exact ⟨eqB_refl' _,beq_self_eq_true _,eqB_refl' _,beq_self_eq_true _⟩
theorem compactL_nil (cap:Nat) (p:Option Addr) (w:World):Calls Tryz.prog 194 #[.slice p 0 cap] w fun e' w'=>e' = .returned (.slice p 0 cap)∧w' = w:=by
  go_enter Tryz.func194,Tryz.ntmps194
  go_wp2
  go_ret
  exact ⟨rfl,rfl⟩
set_option maxHeartbeats 1000000 in
theorem compactTolers_H (xs:List TolerD) (hn:xs.length≤1048576):SpecH Tryz.prog 194 [.own 0 0 xs.length] [(0,⟨145,4,xs.length,tolersD xs⟩)] 1
    (fun d os' nb'=>d = .own 0 0 (cptL tolerSame xs).length∧os' = [(0,⟨145,4,(cptL tolerSame xs).length,tolersD (cptL tolerSame xs)⟩)]∧nb' = 1):=by
  refine ⟨callable Tryz.func194 rfl (by kernel_rfl),fun E M w args hsr hsz hrep=>?_⟩
  obtain ⟨v,rfl⟩:=args1 hsz
  have h0:Rep E w (.own 0 0 xs.length) v:=hrep 0 _ rfl
  have hsame : SR (fun g => w.heap.size ≤ g ∨ M g) E [(0, ⟨145, 4, xs.length, tolersD xs⟩)] 1 w := ⟨fun i x hi => by
      have:=hsr.obs i x hi
      refine ⟨this.1,this.2.imp_right ?_⟩
      rintro ⟨l,q1,q2,q3⟩
      exact ⟨l, q1, .inr q2, q3⟩, hsr.new, hsr.rolt, hsr.apart, hsr.nodup, ⟨fun b i p hb => by obtain ⟨q1, q2, q3⟩ := hsr.tr.blk b i p hb; exact ⟨q1, .inr q2, q3⟩, hsr.tr.cell⟩⟩
  have hcp:cptL tolerSame xs=(keepL (fun i j=>tolerSame (xs.getD i default) (xs.getD j default)) xs.length).map fun k=>xs.getD k default:=by
    have:=cptL_keep tolerSame xs xs.length (Nat.le_refl _)
    rwa [List.take_length] at this
  rcases h0 with ⟨l,c,hl,rfl,hnc,hcm,hcc⟩|⟨hl,_,hn0,rfl⟩
  · have hob:=hsr.obs 0 _ (List.mem_singleton.2 rfl)
    obtain ⟨cur,hc0,hcsz,hcur,hMl⟩:∃ cur,w.heap[l.g]? = some (.cells cur 145 (0,0))∧cur.size=l.cap*4∧(∀ (j:Nat) (d:D),(tolersD xs)[j]? = some d→∃ u,cur[j]? = some u∧u.oneCell' = true∧Rep1 E w d u)∧M l.g:=by
      rcases hob.2 with ⟨h5,_⟩|⟨m,h5,h6,h7,h8,h9,h10⟩
      · rw [hl] at h5;cases h5
      · rw [hl] at h5;injection h5 with h5;injection h5 with h5;subst h5
        rcases h10 with ⟨cur,c1,c2,c3⟩|⟨c1,_⟩
        · exact ⟨cur,c1.row (by show ¬ 145=1000000;decide),c2,c3,h6⟩
        · exact absurd c1 (by show ¬ (4=0);decide)
    have hcells:∀ i,i < xs.length→∀ r,r < 4→cur[i*4+r]? = (tolE xs i)[r]? :=fun i hi r hr=>by
      match r,hr with
      |0,_=>
        obtain ⟨u,h1,_,h2⟩:=hcur (i*4) _ (tolersD_f0 xs i hi)
        show cur[i*4]? = some _
        rw [h1,h2.1]
      |1,_=>
        obtain ⟨u,h1,_,h2⟩:=hcur (i*4+1) _ (tolersD_f1 xs i hi)
        show cur[i*4+1]? = some _
        rw [h1,h2.1]
      |2,_=>
        obtain ⟨u,h1,_,h2⟩:=hcur (i*4+2) _ (tolersD_f2 xs i hi)
        show cur[i*4+2]? = some _
        rw [h1,h2.1]
      |3,_=>
        obtain ⟨u,h1,_,h2⟩:=hcur (i*4+3) _ (tolersD_f3 xs i hi)
        show cur[i*4+3]? = some _
        rw [h1,h2.1]
    have hblk:l.g < w.heap.size:=(Array.getElem?_eq_some_iff.1 hc0).1
    have hH:=tol_holds hc0 hcells (Array.range xs.length) fun i hi=>by
      have hi':i < xs.length:=by simpa using hi
      rw [getElem!_pos _ i hi,Array.getElem_range]
      exact ⟨hi',rfl⟩
    have hz:tolE xs xs.length = [.string ⟨#[]⟩,.bool false,.string ⟨#[]⟩,.int .i64 0]:=by
      unfold tolE
      rw [List.getD_eq_getElem?_getD,List.getElem?_eq_none (by omega)]
      rfl
    have hcall:=compactL_any (tolE xs) 4 (Lib.hid rfl) (tolE_len xs) (tolE_one xs) _ hz (fun i j=>tolerSame (xs.getD i default) (xs.getD j default)) l.g 0 xs.length c w (fun x y W=>tol_eql xs x y W) (fun x y W=>tol_neq xs x y W) hH hblk hn hnc
    refine hcall.mono ?_
    rintro e w' ⟨rfl,d',hd1,hd2,n,os,rfl⟩
    generalize hσ:keepL (fun i j=>tolerSame (xs.getD i default) (xs.getD j default)) xs.length=σ at hcp hd2 ⊢
    have hσl:σ.length≤xs.length:=by rw [← hσ];exact keepL_le _ _
    have hσm:∀ q ∈ σ,q < xs.length:=fun q hq=>by rw [← hσ] at hq;exact keepL_lt hq
    have hσn:σ.Nodup:=by rw [← hσ];exact keepL_nodup _ _
    obtain ⟨cur',hc1,hc2⟩:=sortW_row (tolE xs) 4 w l.g n d' os hc0
    have hH2:=holdsK_sortWorldK_c (tolE xs) 4 w l.g 0 (Array.range xs.length) d' n os hH hblk (by rw [Array.size_range,hd1])
    obtain ⟨E', hE1, hE2, hsr'⟩ := sel_sr (cells := tolerCells) tolerCells_len (by decide) (fun _ => rfl) hsr hl hc0 σ hσm hσn hσl hc2 (by rw [hc1, hcsz]) (fun q r hq hr => by
      have hq':q < d'.size:=by rw [hd1];omega
      have e1:=(HoldsK.cells hH2 (tolE_len xs) hq')
      have e2:=hd2 q hq
      have hmem:σ.getD q 0 < xs.length:=hσm _ (by rw [List.getD_eq_getElem?_getD,List.getElem?_eq_getElem hq];exact List.getElem_mem _)
      rw [hcells _ hmem r hr,← e2]
      have h4:r < (tolE xs d'[q]!).length:=hr
      have e3:=e1 r _ (List.getElem?_eq_getElem h4)
      rw [Addr.add_lit,Nat.zero_add,cell_of_row _ l.g _ cur' _ _ hc2] at e3
      rw [e3, List.getElem?_eq_getElem h4]) (sortW_size ..) (fun b hb hne => sortW_old _ _ _ _ _ _ _ b hb hne)
    have hlen:(cptL tolerSame xs).length=σ.length:=by rw [hcp,List.length_map]
    refine ⟨_,_,1,E',_,⟨rfl,rfl,rfl⟩,rfl,?_,?_,Nat.le_refl _,⟨fun i m hm=>by rw [hE1];exact hm,fun b hb=>by rw [hE2];exact hb⟩,rfl,rfl,rfl,sortW_size ..,fun b hb hm=>sortW_old _ _ _ _ _ _ _ b hb (fun e=>hm (e ▸ hMl)),fun b hb=>.inl (by rw [hE2] at hb;exact hb),fun i m hi him=>by rw [hE1,hsr.new i hi] at him;cases him⟩
    · rw [hlen]
      exact .inl ⟨l,c,by rw [hE1];exact hl,rfl,by omega,hcm,hcc⟩
    · rw [hlen,hcp]
      exact hsr'
  · obtain rfl:xs = []:=List.eq_nil_of_length_eq_zero hn0
    refine (compactL_nil 0 none w).mono ?_
    rintro e w' ⟨rfl,rfl⟩
    exact ⟨_,_,1,E,_,⟨rfl,rfl,rfl⟩,rfl,.inr ⟨hl,rfl,rfl,rfl⟩,hsame,Nat.le_refl _,.refl E,rfl,rfl,rfl,Nat.le_refl _,fun _ _ _=>rfl,fun b hb=>.inl hb,fun i l hi hil=>by rw [hsr.new i hi] at hil;cases hil⟩
end Go.Proofs.YtidjjfjhmlndjaaGreatDoor
