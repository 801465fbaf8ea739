/- Ral, Li1 (what is wanted of them). -/
import Derived.Test.YtidjjfjhmlndjaaGreatDoorVCl1
import Derived.Test.YtidjjfjhmlndjaaGreatDoorVShelf
import Derived.Shelf.Strings.Builder2
import Derived.Shelf.Strings.OnBuilder
import Derived.Shelf.Slices.Equal
import Derived.Shelf.Slices.Empties2
import Derived.Shelf.Strings.Fields
import Derived.Test.YtidjjfjhmlndjaaGreatDoorProg
import Derived.Lib.AtoiAllCases
import Derived.WideLaws
import Derived.Test.YtidjjfjhmlndjaaGreatDoorVCl3
namespace Go.Proofs.YtidjjfjhmlndjaaGreatDoor
open Go.RowKit
set_option linter.unusedVariables false
theorem args2 {args:Array Value} (h:args.size=2):∃ a b,args=#[a,b]:=by
  obtain ⟨l⟩:=args
  match l,h with
  | [a,b],_=>exact ⟨a,b,rfl⟩
theorem args1 {args:Array Value} (h:args.size=1):∃ a,args=#[a]:=by
  obtain ⟨l⟩:=args
  match l,h with
  | [a],_=>exact ⟨a,rfl⟩
theorem itoa_D (n:Int) (h0:-9223372036854775808≤n) (h1:n≤9223372036854775807):Spec Tryz.prog 203 [.sc (.int .i64 n)] (fun d=>d = .sc (.string (ba (Lib.itoa n)))):=by
  refine ⟨callable Tryz.func203 rfl (by kernel_rfl),fun ro w args hro hsz hrep=>?_⟩
  obtain ⟨v,rfl⟩:=args1 hsz
  have h2:v = .int .i64 n:=(hrep 0 _ rfl).1
  subst h2
  refine (Tryz.strconv_Itoa n h0 h1 w hro.tt.tab).mono ?_
  rintro e w' ⟨rfl,k,os,rfl⟩
  refine ⟨_,_,rfl,rfl,⟨rfl,rfl⟩,⟨rfl,rfl,rfl,by simp [Sort.grow,World.drewN],fun b hb=>?_⟩⟩
  show (w.heap++os)[b]? = _
  rw [Array.getElem?_append_left hb]
/-- What Atoi hands back: a number, and an error or none; none where the text spells a number. -/
structure AtR (s:ByteArray) (n:Int) (e:Value):Prop where
  rng:-9223372036854775808≤n∧n≤9223372036854775807
  er:e = .nilIface∨∃ t p,e = .iface t p
  it:∀ m,Lib.atoiAll s.data.toList = .ok m→n=m∧e = .nilIface
theorem atoi_D (s:ByteArray) (hs:s.size≤281474976710656):Spec Tryz.prog 368 [.sc (.string s)] (fun d=>∃ n e,AtR s n e∧d = .tup [.sc (.int .i64 n),.sc e]):=by
  refine ⟨callable Tryz.func368 rfl (by kernel_rfl),fun ro w args hro hsz hrep=>?_⟩
  obtain ⟨v,rfl⟩:=args1 hsz
  have h2:v = .string s:=(hrep 0 _ rfl).1
  subst h2
  have two:∀ (n:Int) (e:Value) (W:World),e.oneCell' = true→Rep (roEnv fun b=>ro b∨(w.heap.size≤b∧b < W.heap.size)) W (.tup [.sc (.int .i64 n),.sc e]) (.tuple #[.int .i64 n,e]):=fun n e W h1=>by
    refine ⟨[.int .i64 n,e],rfl,rfl,fun j d v hd hv=>?_⟩
    match j,hd,hv with
    |0,hd,hv=>injection hd with hd;injection hv with hv;subst hd;subst hv;exact ⟨rfl,rfl⟩
    |1,hd,hv=>injection hd with hd;injection hv with hv;subst hd;subst hv;exact ⟨rfl,h1⟩
    |j+2,hd,hv=>cases hd
  rcases h:Lib.atoiAll s.data.toList with v|_|_
  · refine (Tryz.strconv_Atoi_ok s (by omega) v h w).mono ?_
    rintro e w' ⟨rfl,hw⟩
    refine ⟨_,_,⟨v,.nilIface,⟨Lib.atoiAll_bounds h,.inl rfl,fun m hm=>?_⟩,rfl⟩,rfl,two _ _ _ rfl,?_⟩
    · rw [h] at hm;injection hm with hm;exact ⟨hm,rfl⟩
    · rcases hw with rfl|⟨t,rfl⟩
      · exact Below.refl _ _
      · exact Lib.bytesWorld_below _ _ _
  · obtain ⟨ev,hv,hev⟩:=hro.tt.t3.1.is
    refine (Tryz.strconv_Atoi_other s hs (fun v hc=>by rw [h] at hc;cases hc) (fun hc=>by rw [h] at hc;cases hc) ev w hv hev).mono ?_
    rintro e w' ⟨N,rfl,_,_,hb⟩
    exact ⟨_,_,⟨0,_,⟨⟨by decide,by decide⟩,.inr ⟨_,_,rfl⟩,fun m hm=>by rw [h] at hm;cases hm⟩,rfl⟩,rfl,two _ _ _ rfl,hb⟩
  · obtain ⟨ev,hv,hev⟩:=hro.tt.t3.2.is
    refine (Tryz.strconv_Atoi_range s hs h ev w hv hev).mono ?_
    rintro e w' ⟨N,rfl,_,_,hb⟩
    exact ⟨_,_,⟨Lib.atoiSat s.data.toList,_,⟨Lib.atoiSat_bounds _,.inr ⟨_,_,rfl⟩,fun m hm=>by rw [h] at hm;cases hm⟩,rfl⟩,rfl,two _ _ _ rfl,hb⟩
def niG (s:St) (o:Oper):D→Option St
  |.sc .nilIface=>some (s.put o.dst (.sc (.bool false)))
  |.sc (.iface _ _)=>some (s.put o.dst (.sc (.bool true)))
  |_=>none
theorem niG_n (s:St) (o:Oper):niG s o (.sc .nilIface)=some (s.put o.dst (.sc (.bool false))):=rfl
theorem niG_i (s:St) (o:Oper) (t:TypeId) (p:Value):niG s o (.sc (.iface t p))=some (s.put o.dst (.sc (.bool true))):=rfl
theorem niF_ {X:Ctx}{P:Program}{o:Oper}{s:St}{wr:List Nat}{nb:Nat}{t u:TypeId}{x:Operand}{K:St→Prop} (ho:o.op = .binOp .neq t x (.const .nilIface) u) (ht:P.underlying t=some (.interface (P.methodsAt t))) (h:Wk (stepK (niG s o (s.ev x)) K False)):Wk (AwStepF X P o s wr nb K):=by
  refine ⟨⟨fun E a w K' R hr hK=>?_⟩⟩
  have hxv:=hr.ev x
  have h1:=h.out
  generalize s.ev x=d at h1 hxv
  unfold Oper.wp
  match d,h1,hxv with
  |.sc .nilIface,h1,hxv=>
    have hx1:a.eval x = .nilIface:=hxv.1
    have hrun:(execOp a.eval o).run P w = .ok (.value (.bool false)) w:=by
      have hg:(eqGuard .neq t x (.const .nilIface) .nilIface .nilIface).run P w = .ok () w:=by unfold eqGuard;simp
      have hb:(binOp .neq t .nilIface .nilIface).run P w = .ok (.bool false) w:=run_neq_nil_nil w t ht
      simp only [execOp,ho,hx1,show a.eval (.const .nilIface) = .nilIface from rfl,Sem.run_bind,hg,hb,Result.andThen_ok,Sem.run_pure]
    rw [hrun]
    exact hK _ _ _ _ h1 (hr.put o.dst ⟨rfl,rfl⟩) (FrT.of (.same _ _ _))
  |.sc (.iface te pe),h1,hxv=>
    have hx1:a.eval x = .iface te pe:=hxv.1
    have hrun:(execOp a.eval o).run P w = .ok (.value (.bool true)) w:=by
      have hg:(eqGuard .neq t x (.const .nilIface) (.iface te pe) .nilIface).run P w = .ok () w:=by unfold eqGuard;simp
      have hb:(binOp .neq t (.iface te pe) .nilIface).run P w = .ok (.bool true) w:=run_neq_held_nil w t te pe ht
      simp only [execOp,ho,hx1,show a.eval (.const .nilIface) = .nilIface from rfl,Sem.run_bind,hg,hb,Result.andThen_ok,Sem.run_pure]
    rw [hrun]
    exact hK _ _ _ _ h1 (hr.put o.dst ⟨rfl,rfl⟩) (FrT.of (.same _ _ _))
end Go.Proofs.YtidjjfjhmlndjaaGreatDoor
namespace Go.Proofs.YtidjjfjhmlndjaaGreatDoor
open Go.RowKit
set_option linter.unusedVariables false
set_option linter.unusedSimpArgs false
set_option maxRecDepth 100000
set_option maxHeartbeats 4000000
def amtU:Nat→Nat→Nat × Nat
  |0,u=>(u,0)
  |f+1,u=>if 0 < u∧u % 1024=0 then ((amtU f (u / 1024)).1,(amtU f (u / 1024)).2+1) else (u,0)
def sufL:List By:= [[], [75,105], [77,105], [71,105], [84,105]]
def sufB (k:Nat):ByteArray:=ba (sufL.getD k [])
def amtB (n:Int):ByteArray:=if n < 0 then ⟨#[]⟩ else if n % 1000≠0 then ba (Lib.itoa n)++⟨#[109]⟩ else ba (Lib.itoa ((amtU 4 (n.toNat / 1000)).1:Int))++sufB (amtU 4 (n.toNat / 1000)).2
theorem amtU_go {f u:Nat} (h:0 < u∧u % 1024=0):amtU (f+1) u=((amtU f (u / 1024)).1,(amtU f (u / 1024)).2+1):=if_pos h
theorem amtU_no {f u:Nat} (h:¬ (0 < u∧u % 1024=0)):amtU (f+1) u=(u,0):=if_neg h
/-- How far the dividing came. -/
structure AmG (u0 u k:Nat):Prop where
  k4:k≤4
  le:u≤u0
  eq:amtU 4 u0=((amtU (4 - k) u).1,(amtU (4 - k) u).2+k)
theorem amG_0 (u:Nat):AmG u u 0:=⟨Nat.zero_le _,Nat.le_refl _,rfl⟩
theorem AmG.go {u0 u k:Nat} (h:AmG u0 u k) (hk:k < 4) (hu:0 < u) (hm:u % 1024=0):AmG u0 (u / 1024) (k+1):=by
  refine ⟨hk,Nat.le_trans (Nat.div_le_self _ _) h.le,?_⟩
  rw [h.eq,show 4 - k=(4 - (k+1))+1 by omega]
  rw [amtU_go ⟨hu,hm⟩,Nat.add_assoc,Nat.add_comm 1 k]
theorem AmG.fin {u0 u k:Nat} (h:AmG u0 u k) (hk:4≤k∨¬ (0 < u∧u % 1024=0)):amtU 4 u0=(u,k):=by
  have h4:=h.k4
  rw [h.eq]
  rcases hk with hk|hk
  · rw [show 4 - k=0 by omega];show (u,0+k)=_;rw [Nat.zero_add]
  · match e:4 - k with
    |0=>show (u,0+k)=_;rw [Nat.zero_add]
    |n+1=>rw [amtU_no hk,Nat.zero_add]
theorem amt_neg {n:Int} (h:n < 0):amtB n=⟨#[]⟩:=if_pos h
theorem amt_m {n:Int} (h:0≤n) (hm:n % 1000≠0):amtB n=ba (Lib.itoa n)++⟨#[109]⟩:=by unfold amtB;rw [if_neg (by omega),if_pos hm]
theorem amt_u {n:Int}{u k:Nat} (h:0≤n) (hm:n % 1000=0) (he:amtU 4 (n.toNat / 1000)=(u,k)):amtB n=ba (Lib.itoa (u:Int))++sufB k:=by unfold amtB;rw [if_neg (by omega),if_neg (by omega),he]
theorem suf_at {k:Nat} (h:k≤4):([.sc (.string ⟨#[]⟩),.sc (.string ⟨#[75,105]⟩),.sc (.string ⟨#[77,105]⟩),.sc (.string ⟨#[71,105]⟩),.sc (.string ⟨#[84,105]⟩)]:List D)[k]? = some (.sc (.string (sufB k))):=by
  have:k=0∨k=1∨k=2∨k=3∨k=4:=by omega
  rcases this with rfl|rfl|rfl|rfl|rfl<;>rfl
theorem suf_sz (k:Nat):(sufB k).size≤2:=by
  unfold sufB
  rw [ba_len]
  rcases Nat.lt_or_ge k 5 with h|h
  · have:k=0∨k=1∨k=2∨k=3∨k=4:=by omega
    rcases this with rfl|rfl|rfl|rfl|rfl<;>decide
  · rw [List.getD_eq_getElem?_getD,List.getElem?_eq_none (by show 5≤k;exact h)];decide
theorem itoaN_sz {n:Nat} (h:n≤9223372036854775807):(Lib.itoa (n:Int)).length≤19:=by rw [Lib.itoa_nonneg];exact dec_len 18 n (by omega)
theorem amt_sz {n:Int} (h:n≤9223372036854775807):(amtB n).size≤30:=by
  unfold amtB
  split
  · decide
  rename_i h0
  split
  · rw [ByteArray.size_append,ba_len]
    obtain ⟨m,rfl⟩:=Int.eq_ofNat_of_zero_le (show 0≤n by omega)
    have:=itoaN_sz (n:=m) (by omega)
    show _+1≤30
    omega
  · have h2:∀ f u,(amtU f u).1≤u:=fun f=>by
      induction f with
      |zero=>intro u;exact Nat.le_refl _
      |succ f ih=>
        intro u
        unfold amtU
        split
        · exact Nat.le_trans (ih _) (Nat.div_le_self _ _)
        · exact Nat.le_refl _
    have h3:=h2 4 (n.toNat / 1000)
    have h4:=itoaN_sz (n:=(amtU 4 (n.toNat / 1000)).1) (by have:=Nat.div_le_self n.toNat 1000;omega)
    have h5:=suf_sz (amtU 4 (n.toNat / 1000)).2
    rw [ByteArray.size_append,ba_len]
    omega
theorem tm1000 {n:Int} (h:0≤n):n.tmod 1000=n % 1000∧n.tdiv 1000=((n.toNat / 1000:Nat):Int):=by
  rw [Int.tmod_eq_emod_of_nonneg h,Int.tdiv_eq_ediv_of_nonneg h]
  exact ⟨rfl,by omega⟩
theorem tm1024 (u:Nat):(u:Int).tmod 1024=((u % 1024:Nat):Int):=by rw [Int.tmod_eq_emod_of_nonneg (by omega)];omega
theorem td1024 (u:Nat):(u:Int).tdiv 1024=((u / 1024:Nat):Int):=by rw [Int.tdiv_eq_ediv_of_nonneg (by omega)];omega
theorem dec_u {u:Nat} (h:u≤9223372036854775807):Spec Tryz.prog 103 [.sc (.int .i64 (u:Int))] (fun d=>d = .sc (.string (ba (Lib.itoa (u:Int))))∧(ba (Lib.itoa (u:Int))).size≤19):=
  (spec_Decimal_A u h).mono fun d hd=>⟨by rw [Lib.itoa_nonneg];exact hd,by rw [ba_len];exact itoaN_sz h⟩
theorem dec_i {n:Int} (h0:0≤n) (h:n≤9223372036854775807):Spec Tryz.prog 103 [.sc (.int .i64 n)] (fun d=>d = .sc (.string (ba (Lib.itoa n)))∧(ba (Lib.itoa n)).size≤19):=by
  have:=dec_u (u:=n.toNat) (by omega)
  rwa [Int.toNat_of_nonneg h0] at this
theorem spec_AmountText_A (n:Int) (h1:n≤9223372036854775807):Spec Tryz.prog 45 [.sc (.int .i64 n)] (fun d=>d = .sc (.string (amtB n))):=by
  have hnn:=fun h:0≤n=>tm1000 h;obtain ⟨u0,hu0⟩:∃ u:Nat,u=n.toNat / 1000:=⟨_,rfl⟩;have hu1:u0≤9223372036854775:=(by omega);have ht1:0≤n→n.tmod 1000=n % 1000:=(fun h=>(tm1000 h).1);have ht2:0≤n→n.tdiv 1000=(u0:Int):=(fun h=>by rw [hu0];exact (tm1000 h).2);clear hnn;replace hu0:=Lib.hid hu0
  have ex0:=@tm1024;have ex1:=@td1024;have ex2:=@suf_at;have ex3:=@ByteArray.size_append
  refine sp_ (rs:= [.tmp 2]) (nt:=37) Tryz.func45 rfl fun X hX=>?_
  refine nm_ ?_
  repeat' ((first|contradiction|(with_reducible exact tt_)|((with_reducible show Wk (AwStepF _ _ _ _ _ _ _));first|(refine cl_ rfl _ _ (dec_i (n:=n) (by omega) h1) rfl rfl ?_;rintro _ ⟨rfl,hz⟩)|(refine cl_ rfl _ _ (dec_u (u:=u) (by omega)) rfl rfl ?_;rintro _ ⟨rfl,hz⟩))|((with_reducible show Wk (AwStep _ _ _ _ _));first|(refine pln_ ?_))|((with_reducible show Wk (AwCode _ _ _ _ _));first|(refine wtr_ (id:=10) [] (.early 0 (.early 3 (.two 1 (.one 2 (.early 4 (.one 5 (.early 6 (.early 7 .done))))) 2 (.early 4 (.two 1 (.one 5 (.early 6 (.early 7 .done))) 5 (.one 1 (.early 6 (.early 7 .done)))))))) ?_)|(refine lpU_ 0x18 (ι:=Nat × Nat) (fun ⟨u,k⟩=> [(3,.sc (.int .i64 (u:Int))),(4,.sc (.int .i64 (k:Int)))]) (fun ⟨u,k⟩=>AmG u0 u k) (fun ⟨u,k⟩=>4 - k) (u0,0) ?_ ?_;(focus (exact amG_0 u0));rintro _ hN0 ⟨u,k⟩ hinv;(try dsimp only at hinv);have hA:=hinv;have ha4:=hA.k4;have hal:=hA.le;clear hinv;have hm:=Nat.mod_lt u (show 0 < 1024 by decide);have hd:=Nat.div_le_self u 1024;have hsz:=suf_sz k;replace hA:=Lib.hid hA;skip))|((with_reducible show Wk (boolK _ _ _ _));first|(refine bk_ (fun h h'=>?_) (fun h h'=>?_)))|((with_reducible show Wk (_∧_));first|(refine and_ ?_ ?_))|(refine hN0.go ((u / 1024,k+1)) ?_ ?_;(focus (exact hA.out.go (by omega) (by omega) (by omega)));(focus (show 4 - (k+1) < 4 - k;omega)))|fail)<;>(try refine nm_ ?_))
  all_goals clear ex0 ex1 ex2 ex3
  all_goals (refine ⟨?_⟩)
  all_goals first|contradiction|(exfalso;omega)|(rw [amt_neg (by omega)])|(rw [amt_m (by omega) (by omega)])|(have e9:=hA.out.fin (by omega);rw [hu0.out] at e9;rw [amt_u (by omega) (by omega) e9])
theorem impl_Decimal_A (n:Int) (h0:-9223372036854775808≤n) (h1:n≤9223372036854775807):Spec Tryz.prog 107 [.sc (.int .i64 n)] (fun d=>d = .sc (.string (ba (Lib.itoa n)))):=by
  refine sp_ (rs:= [.tmp 2]) (nt:=5) Tryz.func107 rfl fun X hX=>?_
  refine nm_ ?_
  repeat' ((first|contradiction|(with_reducible exact tt_)|((with_reducible show Wk (AwStepF _ _ _ _ _ _ _));first|(refine cl_ rfl _ _ (itoa_D n h0 h1) rfl rfl ?_;rintro _ rfl))|((with_reducible show Wk (AwStep _ _ _ _ _));first|(refine pln_ ?_))|((with_reducible show Wk (boolK _ _ _ _));first|(refine bk_ (fun h h'=>?_) (fun h h'=>?_)))|((with_reducible show Wk (_∧_));first|(refine and_ ?_ ?_))|fail)<;>(try refine nm_ ?_))
theorem decI_i {n:Int} (h0:0≤n) (h:n≤9223372036854775807):Spec Tryz.prog 107 [.sc (.int .i64 n)] (fun d=>d = .sc (.string (ba (Lib.itoa n)))∧(ba (Lib.itoa n)).size≤19):=
  (impl_Decimal_A n (by omega) h).mono fun d hd=>⟨hd,by rw [ba_len];obtain ⟨m,rfl⟩:=Int.eq_ofNat_of_zero_le h0;exact itoaN_sz (by omega)⟩
theorem decI_u {u:Nat} (h:u≤9223372036854775807):Spec Tryz.prog 107 [.sc (.int .i64 (u:Int))] (fun d=>d = .sc (.string (ba (Lib.itoa (u:Int))))∧(ba (Lib.itoa (u:Int))).size≤19):=decI_i (by omega) (by omega)
end Go.Proofs.YtidjjfjhmlndjaaGreatDoor
