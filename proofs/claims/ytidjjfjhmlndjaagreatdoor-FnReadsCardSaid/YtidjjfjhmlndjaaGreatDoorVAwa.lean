/- Awa (what is wanted of them). -/
import Derived.WalkKit
import Derived.WalkSpells
import Derived.WalkLawsBesides
import Derived.Lib.Hide
import Derived.Handy
import Derived.Deep.QuietTactic
import Derived.BigQuiet
import Derived.Maps.AppendAt
import Derived.Deep.AppendLies
import Derived.RegionTactic
import Derived.Test.YtidjjfjhmlndjaaGreatDoorProg
import Derived.Lib.LaidTab
import Derived.Lib.ItoaLen
import Derived.Great.FillDense
import Derived.Laws.Tables
import Derived.OrdersHeld
namespace Go.Proofs.YtidjjfjhmlndjaaGreatDoor
open Go.RowKit
/-- Cells o, o+1, .. of block b are just cs. -/
def CellsAt (w:World) (b o:Nat) (cs:List Value):Prop:=∀ j,j < cs.length→w.cell? ⟨b,o+j,none⟩=cs[j]?
theorem CellsAt.keep {w w':World}{b o:Nat}{cs:List Value} (h:CellsAt w b o cs) (hk:w'.heap[b]? = w.heap[b]?):CellsAt w' b o cs:=
  fun j hj=>(World.cell?_of_block (a:=⟨b,o+j,none⟩) hk).trans (h j hj)
theorem CellsAt.c0 {w:World}{b o:Nat}{x:Value}{cs:List Value} (h:CellsAt w b o (x::cs)):w.cell? ⟨b,o,none⟩=some x:=by
  have:=h 0 (by simp)
  simpa using this
theorem CellsAt.c1 {w:World}{b o:Nat}{x y:Value}{cs:List Value} (h:CellsAt w b o (x::y::cs)):w.cell? ⟨b,o+1,none⟩=some y:=by
  have:=h 1 (by simp)
  simpa using this
theorem CellsAt.c2 {w:World}{b o:Nat}{x y z:Value}{cs:List Value} (h:CellsAt w b o (x::y::z::cs)):w.cell? ⟨b,o+2,none⟩=some z:=by
  have:=h 2 (by simp)
  simpa using this
theorem CellsAt.at_ {w:World}{b o:Nat}{cs:List Value} (h:CellsAt w b o cs) (j:Nat) {x:Value} (hx:cs[j]? = some x):w.cell? ⟨b,o+j,none⟩=some x:=
  (h j (List.getElem?_eq_some_iff.1 hx).1).trans hx
/-- The slice value v reads as the list xs: each element's cells (size many) stand below block B and read as the element by R. -/
def SlR {α:Type} (size:Nat) (R:World→Nat→List Value→α→Prop) (w:World) (B:Nat) (v:Value) (xs:List α):Prop:=
  ∃ (A:Option Addr) (c:Nat),v = .slice A xs.length c∧xs.length≤c∧c≤maxLen∧
    ∀ (i:Nat) (h:i < xs.length),∃ b o cs,A=some ⟨b,o,none⟩∧b < B∧cs.length=size∧CellsAt w b (o+i*size) cs∧R w B cs xs[i]
theorem SlR.mono {α:Type}{size:Nat}{R R':World→Nat→List Value→α→Prop}{w w':World}{B B':Nat}{v:Value}{xs:List α} (h:SlR size R w B v xs)
    (hB:B≤B') (hw:∀ b,b < B→w'.heap[b]? = w.heap[b]?) (hR:∀ cs x,x ∈ xs→R w B cs x→R' w' B' cs x):SlR size R' w' B' v xs:=by
  obtain ⟨A,c,hv,hc,hm,h⟩:=h
  refine ⟨A,c,hv,hc,hm,fun i hi=>?_⟩
  obtain ⟨b,o,cs,hA,hb,hl,hcs,hx⟩:=h i hi
  exact ⟨b,o,cs,hA,by omega,hl,hcs.keep (hw b hb),hR _ _ (List.getElem_mem hi) hx⟩
theorem SlR.nil {α:Type}{size:Nat}{R:World→Nat→List Value→α→Prop} (w:World) (B:Nat):SlR size R w B (.slice none 0 0) ([]:List α):=
  ⟨none,0,rfl,by simp,by simp,fun i hi=>by simp at hi⟩
/-- A relation that asks nothing of memory: the cells are a function of the datum, which is well formed. -/
def Flat {α:Type} (cells:α→List Value) (ok:α→Prop):World→Nat→List Value→α→Prop:=fun _ _ cs x=>cs=cells x∧ok x
theorem SlR.below {α:Type}{size:Nat}{cells:α→List Value}{ok:α→Prop}{w w':World}{B B' B0:Nat}{v:Value}{xs:List α} (h:SlR size (Flat cells ok) w B v xs)
    (hb:Below B0 w w') (h0:B≤B0) (hB:B≤B'):SlR size (Flat cells ok) w' B' v xs:=
  h.mono hB (fun b hb'=>hb.block b (by omega)) fun _ _ _ hx=>hx
theorem flatMap_len {α:Type} (cells:α→List Value) (size:Nat) (hs:∀ x,(cells x).length=size) (xs:List α):(xs.flatMap cells).length=xs.length*size:=by
  induction xs with
  |nil=>simp
  |cons x xs ih=>simp [ih,hs,Nat.add_mul];omega
theorem flatMap_at {α:Type} (cells:α→List Value) (size:Nat) (hs:∀ x,(cells x).length=size):∀ (xs:List α) (i j:Nat) (hi:i < xs.length),j < size→
    (xs.flatMap cells)[i*size+j]? = (cells xs[i])[j]?
  | [],i,j,hi,_=>by simp at hi
  |x::xs,0,j,_,hj=>by
    simp only [List.flatMap_cons,Nat.zero_mul,Nat.zero_add,List.getElem_cons_zero]
    rw [List.getElem?_append_left (by rw [hs];exact hj)]
  |x::xs,i+1,j,hi,hj=>by
    simp only [List.flatMap_cons,List.getElem_cons_succ]
    rw [List.getElem?_append_right (by rw [hs,Nat.add_mul];omega),hs,show (i+1)*size+j - size=i*size+j by rw [Nat.add_mul];omega]
    exact flatMap_at cells size hs xs i j (by simpa using hi) hj
theorem box {a w:World} (h:Below a.heap.size a w) (o:Obj):Below a.heap.size a (w.alloc o):=h.alloc h.size o
theorem put {a w:World} (h:Below a.heap.size a w) {p:Addr} (hp:a.heap.size≤p.block) (u:Value):Below a.heap.size a (w.setCell p u):=h.setCell hp u
theorem keepc {W W':World} (hb:Below W.heap.size W W') {a:Addr}{v:Value} (h:W.cell? a=some v):W'.cell? a=some v:=(hb.cell (World.block_lt_of_cell? W a h)).trans h
theorem lt_of_cell {W:World}{a:Addr}{v:Value} (h:W.cell? a=some v):a.block < W.heap.size:=World.block_lt_of_cell? W a h
theorem SlR.go {α:Type}{size:Nat}{cells:α→List Value}{ok:α→Prop}{w w':World}{v:Value}{xs:List α} (h:SlR size (Flat cells ok) w w.heap.size v xs)
    (hb:Below w.heap.size w w'):SlR size (Flat cells ok) w' w'.heap.size v xs:=h.below hb (Nat.le_refl _) hb.size
theorem SlR.to {α:Type}{size:Nat}{cells:α→List Value}{ok:α→Prop}{w:World}{B B':Nat}{v:Value}{xs:List α} (h:SlR size (Flat cells ok) w B v xs)
    (hB:B≤B'):SlR size (Flat cells ok) w B' v xs:=h.mono hB (fun _ _=>rfl) fun _ _ _ hx=>hx
end Go.Proofs.YtidjjfjhmlndjaaGreatDoor
namespace Go.Proofs.YtidjjfjhmlndjaaGreatDoor
open Go.RowKit
/-- The value's elements stand one behind the other: n elements of size cells, all cells news. -/
def FlatAt (w:World) (v:Value) (n:Nat) (news:List Value):Prop:=
  ∃ A c,v = .slice A n c∧(0 < n→∃ b o,A=some ⟨b,o,none⟩∧b < w.heap.size∧∀ j u,news[j]? = some u→w.cell? ⟨b,o+j,none⟩=some u)
theorem SlR.flat {α:Type}{cells:α→List Value}{ok:α→Prop}{size:Nat} (hs:∀ x,(cells x).length=size) (h0:0 < size) {w:World}{v:Value}{xs:List α} (h:SlR size (Flat cells ok) w w.heap.size v xs):
    FlatAt w v xs.length (xs.flatMap cells):=by
  obtain ⟨A,c,rfl,_,_,h⟩:=h
  refine ⟨A,c,rfl,fun hn=>?_⟩
  obtain ⟨b,o,_,rfl,hb,_⟩:=h 0 hn
  refine ⟨b,o,rfl,hb,fun j u hu=>?_⟩
  have hj:j < xs.length*size:=by rw [← flatMap_len cells size hs xs];exact (List.getElem?_eq_some_iff.1 hu).1
  have hi:j / size < xs.length:=by rw [Nat.div_lt_iff_lt_mul h0];exact hj
  have hr:j % size < size:=Nat.mod_lt _ h0
  have hd:j / size*size+j % size=j:=by rw [Nat.mul_comm];exact Nat.div_add_mod j size
  obtain ⟨b',o',cs,e,_,hl,hcs,rfl,_⟩:=h (j / size) hi
  obtain ⟨rfl,rfl⟩:b=b'∧o=o':=by simpa using e
  have h1:=flatMap_at cells size hs xs (j / size) (j % size) hi hr
  rw [hd,hu] at h1
  have h2:=hcs (j % size) (by omega)
  rw [Nat.add_assoc,hd,← h1] at h2
  exact h2
theorem FlatAt.go {w w':World}{v:Value}{n:Nat}{xs:List Value} (h:FlatAt w v n xs) (hb:Below w.heap.size w w'):FlatAt w' v n xs:=by
  obtain ⟨A,c,hv,h⟩:=h
  refine ⟨A,c,hv,fun hn=>?_⟩
  obtain ⟨b,o,hA,hlt,hc⟩:=h hn
  exact ⟨b,o,hA,Nat.lt_of_lt_of_le hlt hb.size,fun j u hj=>(hb.cell (p:=⟨b,o+j,none⟩) hlt).trans (hc j u hj)⟩
/-- A cell that holds v and may be written. -/
def Kc (W:World) (a:Addr) (v:Value):Prop:=W.cell? a=some v∧W.frozen? a=false
theorem Kc.lt {W:World}{a:Addr}{v:Value} (h:Kc W a v):a.block < W.heap.size:=lt_of_cell h.1
theorem Kc.go {W W':World}{a:Addr}{v:Value} (h:Kc W a v) (hb:Below W.heap.size W W'):Kc W' a v:=⟨keepc hb h.1,(hb.frozen h.lt).trans h.2⟩
theorem Kc.new {W:World}{g i:Nat}{cs:Array Value}{t:TypeId}{v:Value} (hg:g=W.heap.size) (hv:cs[i]? = some v):Kc (W.alloc (.cells cs t)) ⟨g,i,none⟩ v:=by
  subst hg
  exact ⟨(World.cell?_alloc_new W cs t i).trans hv,frozen_of_row _ _ i cs t (heap_alloc_new W _)⟩
theorem Kc.same {W:World}{a:Addr}{v:Value} (h:Kc W a v) (u:Value):Kc (W.setCell a u) a u:=by
  obtain ⟨g,o,sp⟩:=a
  obtain ⟨h1,h2⟩:=h
  have hs:sp=none:=by
    unfold World.cell? at h1
    cases sp with
    |none=>rfl
    |some q=>split at h1<;>simp at h1
  subst hs
  exact ⟨by simp [World.cell?_setCell_same,h1],by simpa [World.frozen?_setCell] using h2⟩
theorem Kc.other {W:World}{a b:Addr}{v:Value} (h:Kc W a v) (hne:a.block≠b.block) (u:Value):Kc (W.setCell b u) a v:=
  ⟨(World.cell?_of_block (Below.heap_setCell W b u a.block hne)).trans h.1,(World.frozen?_of_block (Below.heap_setCell W b u a.block hne)).trans h.2⟩
section
variable {P:Program} (w:World)
end
end Go.Proofs.YtidjjfjhmlndjaaGreatDoor
namespace Go.Proofs.YtidjjfjhmlndjaaGreatDoor
open Go.RowKit
/-- A table of the library lies among what is only read. -/
def Tab (g:Nat) (nm:String) (k:IntKind) (t:List Int) (ro:Nat→Prop) (h:Array Obj):Prop:=ro g∧∃ w:World,w.heap=h∧Lib.TabIs Tryz.prog w nm k t
theorem Tab.stay {g:Nat}{nm:String}{k:IntKind}{t:List Int}{ro ro':Nat→Prop}{h h':Array Obj} (hg:Tryz.prog.globalNamed nm=some g) (a:Tab g nm k t ro h) (h1:∀ b,ro b→ro' b) (h2:∀ b,ro b→h'[b]? = h[b]?):Tab g nm k t ro' h':=by
  obtain ⟨t1,w,rfl,t2⟩:=a
  refine ⟨h1 _ t1,{ w with heap:=h' },rfl,?_⟩
  unfold Lib.TabIs World.var? at t2 ⊢
  rw [hg] at t2 ⊢
  simp only [Option.bind_some] at t2 ⊢
  rw [h2 _ t1]
  exact t2
theorem Tab.is {g:Nat}{nm:String}{k:IntKind}{t:List Int}{ro:Nat→Prop}{w:World} (hg:Tryz.prog.globalNamed nm=some g) (a:Tab g nm k t ro w.heap):Lib.TabIs Tryz.prog w nm k t:=by
  obtain ⟨_,w',e,t2⟩:=a
  unfold Lib.TabIs World.var? at t2 ⊢
  rw [hg] at t2 ⊢
  simp only [Option.bind_some] at t2 ⊢
  rw [← e]
  exact t2
/-- A variable that holds an error, or none. -/
def ErrV (g:Nat) (ro:Nat→Prop) (h:Array Obj):Prop:=ro g∧∃ w:World,w.heap=h∧∃ ev,w.cell? ⟨g,0,none⟩=some ev∧(ev = .nilIface∨∃ te pe,ev = .iface te pe)
theorem ErrV.stay {g:Nat}{ro ro':Nat→Prop}{h h':Array Obj} (a:ErrV g ro h) (h1:∀ b,ro b→ro' b) (h2:∀ b,ro b→h'[b]? = h[b]?):ErrV g ro' h':=by
  obtain ⟨t1,w,rfl,ev,t2,t3⟩:=a
  exact ⟨h1 _ t1,{ w with heap:=h' },rfl,ev,(World.cell?_of_block (a:=⟨g,0,none⟩) (h2 _ t1)).trans t2,t3⟩
theorem ErrV.is {g:Nat}{ro:Nat→Prop}{w:World} (a:ErrV g ro w.heap):∃ ev,w.cell? ⟨g,0,none⟩=some ev∧(ev = .nilIface∨∃ te pe,ev = .iface te pe):=by
  obtain ⟨_,w',e,ev,t2,t3⟩:=a
  exact ⟨ev,(World.cell?_of_block (a:=⟨g,0,none⟩) (w:=w') (w':=w) (by rw [e])).trans t2,t3⟩
theorem gTab:Tryz.prog.globalNamed "internal/strconv.uint64pow10"=some 1:=by kernel_rfl
def T1:(Nat→Prop)→Array Obj→Prop:=Tab 1 "internal/strconv.uint64pow10" .u64 Lib.pow10Tab
def T3 (ro:Nat→Prop) (h:Array Obj):Prop:=ErrV 4 ro h∧ErrV 5 ro h
def T2 (_:Nat→Prop) (_:Array Obj):Prop:=True
/-- What is asked of all tables. -/
structure TT (ro:Nat→Prop) (h:Array Obj):Prop where
  t1:T1 ro h
  t2:T2 ro h
  t3:T3 ro h
theorem TT.stay {ro ro':Nat→Prop}{h h':Array Obj} (t:TT ro h) (h1:∀ b,ro b→ro' b) (h2:∀ b,ro b→h'[b]? = h[b]?):TT ro' h' where
  t1:=Tab.stay gTab t.t1 h1 h2
  t2:=trivial
  t3:=⟨t.t3.1.stay h1 h2,t.t3.2.stay h1 h2⟩
theorem TT.tab {ro:Nat→Prop}{w:World} (t:TT ro w.heap):Lib.TabIs Tryz.prog w "internal/strconv.uint64pow10" .u64 Lib.pow10Tab:=Tab.is gTab t.t1
/-- What is only read: it is there, and the tables lie in it. -/
structure RoOk (ro:Nat→Prop) (h:Array Obj):Prop where
  lt:∀ b,ro b→b < h.size
  tt:TT ro h
instance (ro:Nat→Prop) (h:Array Obj):CoeFun (RoOk ro h) (fun _=>∀ b,ro b→b < h.size):=⟨RoOk.lt⟩
theorem RoOk.grow {ro ro':Nat→Prop}{h h':Array Obj} (k:RoOk ro h) (h1:∀ b,ro b→ro' b) (h2:∀ b,ro b→h'[b]? = h[b]?) (h3:∀ b,ro' b→b < h'.size):RoOk ro' h':=⟨h3,k.tt.stay h1 h2⟩
end Go.Proofs.YtidjjfjhmlndjaaGreatDoor
namespace Go.Proofs.YtidjjfjhmlndjaaGreatDoor
open Go.RowKit
/-- A datum that a slot or a cell holds. none: nothing is known. sl: a slice that is only read (its cells, flat). own: a slice into an object, from a cell on. ptr: a pointer to an object's cell. cptr: a pointer to cells that are only read. -/
inductive D where
  |none
  |sc (v:Value)
  |sl (n:Nat) (cs:List D)
  |own (i off n:Nat)
  |agg (cs:List D)
  |ptr (i o:Nat)
  |mp (i:Nat)
  |cptr (cs:List D) (o:Nat)
  |tup (ds:List D)
  |fn (f:FuncId) (cap:List D)
  |tr (ty size n:Nat) (cs:List D)
structure Loc where
  g:Nat
  cap:Nat
structure Env where
  ro:Nat→Prop
  at_:Nat→Option (Option Loc)
  tg:Nat→Option (Nat × List Nat)
/-- Data that is only read: it lies in the blocks ro. -/
inductive RepP (ro:Nat→Prop) (w:World):D→Value→Prop
  |sc (v:Value) (h1:v.oneCell' = true):RepP ro w (.sc v) v
  |sl (n:Nat) (cs:List D) (A:Option Addr) (c:Nat) (us:List Value) (hl:us.length=cs.length) (hn:n≤c) (hc:c≤maxLen)
      (hcell:∀ (j:Nat) (u:Value),us[j]? = some u→∃ b o,A=some ⟨b,o,none⟩∧ro b∧w.cell? ⟨b,o+j,none⟩=some u)
      (hrep:∀ (j:Nat) (d:D) (u:Value),cs[j]? = some d→us[j]? = some u→RepP ro w d u):RepP ro w (.sl n cs) (.slice A n c)
/-- What a function literal holds of its surroundings. -/
def Cap1 (E:Env) (w:World):D→Value→Prop
  |.sc v,u=>u=v∧v.oneCell' = true
  |.sl n cs,u=>RepP E.ro w (.sl n cs) u
  |.ptr i o,u=>∃ l,E.at_ i=some (some l)∧u = .pointer (some ⟨l.g,o,none⟩)
  |.cptr cs k,u=>∃ b o,∃ us:List Value,u = .pointer (some ⟨b,o+k,none⟩)∧E.ro b∧us.length=cs.length∧(∀ (j:Nat) (v:Value),us[j]? = some v→w.cell? ⟨b,o+j,none⟩=some v)∧∀ (j:Nat) (d:D) (v:Value),cs[j]? = some d→us[j]? = some v→RepP E.ro w d v
  |_,_=>True
/-- One cell. -/
def Rep1 (E:Env) (w:World):D→Value→Prop
  |.none,_=>True
  |.sc v,u=>u=v∧v.oneCell' = true
  |.sl n cs,u=>RepP E.ro w (.sl n cs) u
  |.own i off n,u=>(∃ l c,E.at_ i=some (some l)∧u = .slice (some ⟨l.g,off,none⟩) n c∧n≤c∧c≤maxLen∧(off=0→c=l.cap))∨(E.at_ i=some Option.none∧off=0∧n=0∧u = .slice Option.none 0 0)
  |.ptr i o,u=>∃ l,E.at_ i=some (some l)∧u = .pointer (some ⟨l.g,o,none⟩)
  |.mp i,u=>∃ l,E.at_ i=some (some l)∧u = .map (some l.g)
  |.cptr cs k,u=>∃ b o,∃ us:List Value,u = .pointer (some ⟨b,o+k,none⟩)∧E.ro b∧us.length=cs.length∧(∀ (j:Nat) (v:Value),us[j]? = some v→w.cell? ⟨b,o+j,none⟩=some v)∧∀ (j:Nat) (d:D) (v:Value),cs[j]? = some d→us[j]? = some v→RepP E.ro w d v
  |.fn f cap,u=>∃ us:List Value,u = .func (.func f) #[] us.toArray∧us.length=cap.length∧∀ (j:Nat) (d:D) (v:Value),cap[j]? = some d→us[j]? = some v→Cap1 E w d v
  |.tr ..,_=>True
  |_,_=>False
/-- A value that is no tuple. -/
def RepA (E:Env) (w:World):D→Value→Prop
  |.agg cs,u=>∃ us:List Value,u = .agg us.toArray∧us.length=cs.length∧∀ (j:Nat) (d:D) (v:Value),cs[j]? = some d→us[j]? = some v→Rep1 E w d v∧v.oneCell' = true
  |d,u=>Rep1 E w d u
/-- What a slot holds. -/
def Rep (E:Env) (w:World):D→Value→Prop
  |.tup ds,u=>∃ us:List Value,u = .tuple us.toArray∧us.length=ds.length∧∀ (j:Nat) (d:D) (v:Value),ds[j]? = some d→us[j]? = some v→RepA E w d v
  |d,u=>RepA E w d u
structure Env.le (E E':Env):Prop where
  at_:∀ i l,E.at_ i=some l→E'.at_ i=some l
  ro:∀ b,E.ro b→E'.ro b
theorem Env.le.refl (E:Env):E.le E:=⟨fun _ _ h=>h,fun _ h=>h⟩
theorem Env.le.trans {E F G:Env} (h:E.le F) (k:F.le G):E.le G:=⟨fun i l x=>k.at_ i l (h.at_ i l x),fun b x=>k.ro b (h.ro b x)⟩
theorem RepP.keep {ro ro':Nat→Prop}{w w':World}{d:D}{u:Value} (h:RepP ro w d u) (hr:∀ b,ro b→ro' b) (hw:∀ b,ro b→w'.heap[b]? = w.heap[b]?):RepP ro' w' d u:=by
  induction h with
  |sc v h1=>exact .sc v h1
  |sl n cs A c us hl hn hc hcell _ ih=>
    refine .sl n cs A c us hl hn hc (fun j u hu=>?_) ih
    obtain ⟨b,o,hA,hb,hc⟩:=hcell j u hu
    exact ⟨b,o,hA,hr b hb,(World.cell?_of_block (a:=⟨b,o+j,none⟩) (hw b hb)).trans hc⟩
theorem Cap1.keep {E E':Env}{w w':World}{d:D}{u:Value} (h:Cap1 E w d u) (hE:E.le E') (hw:∀ b,E.ro b→w'.heap[b]? = w.heap[b]?):Cap1 E' w' d u:=by
  cases d with
  |sc v=>exact h
  |sl n cs=>exact RepP.keep h hE.ro hw
  |ptr i o=>
    obtain ⟨l,h1,h2⟩:=h
    exact ⟨l,hE.at_ _ _ h1,h2⟩
  |cptr cs k=>
    obtain ⟨b,o,us,h1,h2,h3,h4,h5⟩:=h
    exact ⟨b,o,us,h1,hE.ro b h2,h3,fun j v hv=>(World.cell?_of_block (a:=⟨b,o+j,none⟩) (hw b h2)).trans (h4 j v hv),fun j d v hd hv=>(h5 j d v hd hv).keep hE.ro hw⟩
  |_=>trivial
theorem Rep1.keep {E E':Env}{w w':World}{d:D}{u:Value} (h:Rep1 E w d u) (hE:E.le E') (hw:∀ b,E.ro b→w'.heap[b]? = w.heap[b]?):Rep1 E' w' d u:=by
  cases d with
  |none=>trivial
  |sc v=>exact h
  |sl n cs=>exact RepP.keep h hE.ro hw
  |own i off n=>
    rcases h with ⟨l,c,h1,h2⟩|⟨h1,h2⟩
    · exact .inl ⟨l,c,hE.at_ _ _ h1,h2⟩
    · exact .inr ⟨hE.at_ _ _ h1,h2⟩
  |agg cs=>exact h
  |ptr i o=>
    obtain ⟨l,h1,h2⟩:=h
    exact ⟨l,hE.at_ _ _ h1,h2⟩
  |mp i=>
    obtain ⟨l,h1,h2⟩:=h
    exact ⟨l,hE.at_ _ _ h1,h2⟩
  |cptr cs k=>
    obtain ⟨b,o,us,h1,h2,h3,h4,h5⟩:=h
    exact ⟨b,o,us,h1,hE.ro b h2,h3,fun j v hv=>(World.cell?_of_block (a:=⟨b,o+j,none⟩) (hw b h2)).trans (h4 j v hv),fun j d v hd hv=>(h5 j d v hd hv).keep hE.ro hw⟩
  |tup ds=>exact h
  |fn f cap=>
    obtain ⟨us,h1,h2,h3⟩:=h
    exact ⟨us,h1,h2,fun j d v hc hv=>(h3 j d v hc hv).keep hE hw⟩
  |tr=>trivial
theorem repA_of {E:Env}{w:World}{d:D}{u:Value} (hd:∀ cs,d≠.agg cs):RepA E w d u=Rep1 E w d u:=by
  cases d<;>first|rfl|exact absurd rfl (hd _)
theorem rep_of {E:Env}{w:World}{d:D}{u:Value} (hd:∀ cs,d≠.tup cs):Rep E w d u=RepA E w d u:=by
  cases d<;>first|rfl|exact absurd rfl (hd _)
theorem RepA.keep {E E':Env}{w w':World}{d:D}{u:Value} (h:RepA E w d u) (hE:E.le E') (hw:∀ b,E.ro b→w'.heap[b]? = w.heap[b]?):RepA E' w' d u:=by
  by_cases hd:∀ cs,d≠.agg cs
  · rw [repA_of hd] at h ⊢
    exact h.keep hE hw
  · obtain ⟨cs,hd⟩:=Classical.not_forall.1 hd
    obtain rfl:=Classical.not_not.1 hd
    obtain ⟨us,h1,h2,h3⟩:=h
    exact ⟨us,h1,h2,fun j d v hd hv=>⟨(h3 j d v hd hv).1.keep hE hw,(h3 j d v hd hv).2⟩⟩
theorem Rep.keep {E E':Env}{w w':World}{d:D}{u:Value} (h:Rep E w d u) (hE:E.le E') (hw:∀ b,E.ro b→w'.heap[b]? = w.heap[b]?):Rep E' w' d u:=by
  by_cases hd:∀ cs,d≠.tup cs
  · rw [rep_of hd] at h ⊢
    exact h.keep hE hw
  · obtain ⟨cs,hd⟩:=Classical.not_forall.1 hd
    obtain rfl:=Classical.not_not.1 hd
    obtain ⟨us,h1,h2,h3⟩:=h
    exact ⟨us,h1,h2,fun j d v hd hv=>(h3 j d v hd hv).keep hE hw⟩
/-- A datum of one cell that is known. -/
def D.one:D→Bool
  |.sc _|.sl ..|.own ..|.ptr ..|.mp ..|.cptr ..|.fn ..=>true
  |_=>false
theorem Rep1.oneCell {E:Env}{w:World}{d:D}{u:Value} (h:Rep1 E w d u) (hd:d.one=true):u.oneCell' = true:=by
  cases d with
  |none=>cases hd
  |sc v=>rw [h.1];exact h.2
  |sl n cs=>cases h;rfl
  |own i off n=>
    rcases h with ⟨l,c,_,rfl,_⟩|⟨_,_,_,rfl⟩
    · rfl
    · rfl
  |agg cs=>cases hd
  |ptr i o=>obtain ⟨l,_,rfl⟩:=h;rfl
  |mp i=>obtain ⟨l,_,rfl⟩:=h;rfl
  |cptr cs k=>obtain ⟨b,o,us,rfl,_⟩:=h;rfl
  |tup ds=>cases hd
  |fn f cap=>obtain ⟨us,rfl,_⟩:=h;rfl
  |tr=>cases hd
theorem Rep.of1 {E:Env}{w:World}{d:D}{u:Value} (h:Rep1 E w d u):Rep E w d u:=by
  cases d<;>first|exact h|exact h.elim
theorem Rep.one {E:Env}{w:World}{d:D}{u:Value} (h:Rep E w d u) (hd:d.one=true):Rep1 E w d u:=by
  cases d<;>first|exact h|cases hd
/-- An object: len elements of size cells. -/
structure Ob where
  ty:TypeId
  size:Nat
  len:Nat
  cs:List D
/-- A head, then a map's entries, one behind the other: key, value. -/
def MapOk (cs:List D) (es:Array MapEntry):Prop:=cs = .none::es.toList.flatMap (fun e=> [.sc e.key,.sc e.val])∧∀ e ∈ es.toList,e.key.oneCell' = true∧e.val.oneCell' = true
/-- The block in which an object's cells lie. A row that was made of a string bears a mark behind its end: such an object is told by its type, 1000000. -/
def Blk (w:World) (g:Nat) (x:Ob) (cur:Array Value):Prop:=
  w.heap[g]? = some (.cells cur x.ty (0,0))∨(x.ty=1000000∧∃ t,w.heap[g]? = some (.cells cur t (cur.size,cur.size+1)))
theorem Blk.keep {w w':World}{g:Nat}{x:Ob}{cur:Array Value} (h:Blk w g x cur) (hw:w'.heap[g]? = w.heap[g]?):Blk w' g x cur:=by
  unfold Blk
  rw [hw]
  exact h
theorem Blk.lt {w:World}{g:Nat}{x:Ob}{cur:Array Value} (h:Blk w g x cur):g < w.heap.size:=by
  rcases h with h|⟨_,t,h⟩<;>exact (Array.getElem?_eq_some_iff.1 h).1
theorem Blk.cell {w:World}{g:Nat}{x:Ob}{cur:Array Value} (h:Blk w g x cur) (j:Nat):w.cell? ⟨g,j,none⟩=cur[j]? :=by
  rcases h with h|⟨_,t,h⟩
  · exact cell_of_row w g j cur _ _ h
  · exact cell_of_row w g j cur _ _ h
/-- No row of a string. -/
theorem Blk.row {w:World}{g:Nat}{x:Ob}{cur:Array Value} (h:Blk w g x cur) (hx:¬ x.ty=1000000):w.heap[g]? = some (.cells cur x.ty (0,0)):=by
  rcases h with h|⟨h,_⟩
  · exact h
  · exact absurd h hx
/-- The object i lies in memory. W: the blocks that may be written. An object of size 0 may be a map. -/
def ObAt (W:Nat→Prop) (E:Env) (w:World) (i:Nat) (x:Ob):Prop:=
  (x.size ≠ 0 → x.cs.length = x.len * x.size) ∧ ((E.at_ i = some Option.none ∧ x.len = 0) ∨
    ∃ l, E.at_ i = some (some l) ∧ W l.g ∧ ¬ E.ro l.g ∧ x.len ≤ l.cap ∧ l.cap ≤ maxLen ∧ ((∃ cur, Blk w l.g x cur ∧ cur.size = l.cap * x.size ∧
      ∀ (j : Nat) (d : D), x.cs[j]? = some d → ∃ u, cur[j]? = some u ∧ u.oneCell' = true ∧ Rep1 E w d u) ∨
      (x.size = 0 ∧ ∃ es clock, w.heap[l.g]? = some (.map es clock) ∧ MapOk x.cs es)))
/-- No owned slice in a cell. -/
def D.nt:D→Bool
  |.tr ..=>false
  |_=>true
theorem D.one_nt {d:D} (h:d.one=true):d.nt=true:=by cases d<;>first|rfl|cases h
/-- A slice in a cell, all of which belongs to the object i: the blocks under it bear the object's number and the way to them. -/
inductive OwnP (w:World) (tg:Nat→Option (Nat × List Nat)) (i:Nat):List Nat→D→Value→Prop
  |sc (p:List Nat) (v:Value) (h1:v.oneCell' = true):OwnP w tg i p (.sc v) v
  |nil (p:List Nat) (ty size:Nat):OwnP w tg i p (.tr ty size 0 []) (.slice none 0 0)
  |tr (p:List Nat) (ty size n:Nat) (cs:List D) (b c:Nat) (cur:Array Value) (us:List Value) (hb:tg b=some (i,p)) (hw:w.heap[b]? = some (.cells cur ty (0,0))) (hz:size≠0) (hl:cs.length=n*size) (hcur:cur.size=c*size)
      (hn:n≤c) (hc:c≤maxLen) (hu:us.length=cs.length) (hat:∀ (j:Nat) (u:Value),us[j]? = some u→cur[j]? = some u) (hrep:∀ (j:Nat) (d:D) (u:Value),cs[j]? = some d→us[j]? = some u→OwnP w tg i (j::p) d u):
      OwnP w tg i p (.tr ty size n cs) (.slice (some ⟨b,0,none⟩) n c)
theorem OwnP.map {w w':World}{tg tg':Nat→Option (Nat × List Nat)}{i i':Nat}{p:List Nat}{d:D}{u:Value} (h:OwnP w tg i p d u) (hm:∀ b q,tg b=some (i,q)→w'.heap[b]? = w.heap[b]? ∧tg' b=some (i',q)):OwnP w' tg' i' p d u:=by
  induction h with
  |sc p v h1=>exact .sc p v h1
  |nil p ty size=>exact .nil p ty size
  |tr p ty size n cs b c cur us hb hw hz hl hcur hn hc hu hat _ ih=>
    obtain ⟨h1,h2⟩:=hm b p hb
    exact .tr p ty size n cs b c cur us h2 (h1.trans hw) hz hl hcur hn hc hu hat ih
/-- The owned slices in the objects' cells, by the tags. -/
structure Trs (W:Nat→Prop) (E:Env) (os:List (Nat × Ob)) (w:World):Prop where
  blk:∀ b i p,E.tg b=some (i,p)→b < w.heap.size∧W b∧¬ E.ro b∧∀ j y l,(j,y) ∈ os→E.at_ j=some (some l)→l.g≠b
  cell:∀ i x,(i,x) ∈ os→∀ j ty sz n cs,x.cs[j]? = some (.tr ty sz n cs)→∃ l u,E.at_ i=some (some l)∧w.cell? ⟨l.g,j,none⟩=some u∧OwnP w E.tg i [j] (.tr ty sz n cs) u
/-- The objects of which A holds go on, under the numbers that g gives. -/
theorem Trs.map {W W':Nat→Prop}{E E':Env}{os os':List (Nat × Ob)}{w w':World} (h:Trs W E os w) (A:Nat→Prop) (g:Nat→Nat)
    (ht:∀ b k' p,E'.tg b=some (k',p)→∃ k,E.tg b=some (k,p)∧A k) (ht2:∀ b k p,E.tg b=some (k,p)→A k→E'.tg b=some (g k,p))
    (hb:∀ b k p,E.tg b=some (k,p)→A k→b < w.heap.size→W b→¬ E.ro b→(∀ j y l,(j,y) ∈ os→E.at_ j=some (some l)→l.g≠b)→b < w'.heap.size∧w'.heap[b]? = w.heap[b]? ∧W' b∧¬ E'.ro b∧∀ j y l,(j,y) ∈ os'→E'.at_ j=some (some l)→l.g≠b)
    (hc:∀ k' x',(k',x') ∈ os'→∀ j ty sz n cs,x'.cs[j]? = some (.tr ty sz n cs)→∃ k x,A k∧g k=k'∧(k,x) ∈ os∧x.cs[j]? = some (.tr ty sz n cs)∧∀ l,E.at_ k=some (some l)→∃ l',E'.at_ k' = some (some l')∧w'.cell? ⟨l'.g,j,none⟩=w.cell? ⟨l.g,j,none⟩):
    Trs W' E' os' w':=by
  refine ⟨fun b i p hq=>?_,fun k' x' hx j ty sz n cs hj=>?_⟩
  · obtain ⟨k,h1,h2⟩:=ht b i p hq
    obtain ⟨e1,e2,e3,e4⟩:=h.blk b k p h1
    obtain ⟨h5,_,h6,h7,h8⟩:=hb b k p h1 h2 e1 e2 e3 e4
    exact ⟨h5,h6,h7,h8⟩
  · obtain ⟨k,x,hA,rfl,h1,h2,h3⟩:=hc k' x' hx j ty sz n cs hj
    obtain ⟨l,u,h4,h5,h6⟩:=h.cell k x h1 j ty sz n cs h2
    obtain ⟨l',h7,h8⟩:=h3 l h4
    refine ⟨l',u,h7,h8.trans h5,h6.map fun b q hq=>?_⟩
    obtain ⟨e1,e2,e3,e4⟩:=h.blk b k q hq
    exact ⟨(hb b k q hq hA e1 e2 e3 e4).2.1,ht2 b k q hq hA⟩
/-- As it was, with objects that hold no such slice besides. -/
theorem Trs.keep {W W':Nat→Prop}{E E':Env}{os os':List (Nat × Ob)}{w w':World} (h:Trs W E os w) (ht:E'.tg=E.tg)
    (hb:∀ b k p,E.tg b=some (k,p)→b < w.heap.size→W b→¬ E.ro b→(∀ j y l,(j,y) ∈ os→E.at_ j=some (some l)→l.g≠b)→b < w'.heap.size∧w'.heap[b]? = w.heap[b]? ∧W' b∧¬ E'.ro b∧∀ j y l,(j,y) ∈ os'→E'.at_ j=some (some l)→l.g≠b)
    (hc:∀ k x',(k,x') ∈ os'→∀ j ty sz n cs,x'.cs[j]? = some (.tr ty sz n cs)→∃ x,(k,x) ∈ os∧x.cs[j]? = some (.tr ty sz n cs)∧∀ l,E.at_ k=some (some l)→E'.at_ k=some (some l)∧w'.cell? ⟨l.g,j,none⟩=w.cell? ⟨l.g,j,none⟩):Trs W' E' os' w':=
  h.map (fun _=>True) id (fun b k' p hq=>⟨k',by rw [← ht];exact hq,trivial⟩) (fun b k p hq _=>by rw [ht];exact hq) (fun b k p hq _=>hb b k p hq) fun k' x' hx j ty sz n cs hj=>by
    obtain ⟨x,h1,h2,h3⟩:=hc k' x' hx j ty sz n cs hj
    exact ⟨k',x,trivial,rfl,h1,h2,fun l hl=>⟨l,h3 l hl⟩⟩
/-- No such slice: no tags are wanted. -/
theorem Trs.none {W:Nat→Prop}{E:Env}{os:List (Nat × Ob)}{w:World} (ht:∀ b,E.tg b=none) (h:∀ i x,(i,x) ∈ os→x.cs.all D.nt=true):Trs W E os w:=
  ⟨fun b i p hb=>(by rw [ht] at hb;cases hb),fun i x hi j ty sz n cs hj=>by have:=List.all_eq_true.1 (h i x hi) _ (List.mem_of_getElem? hj);cases this⟩
structure SR (W:Nat→Prop) (E:Env) (os:List (Nat × Ob)) (nb:Nat) (w:World):Prop where
  obs:∀ i x,(i,x) ∈ os→ObAt W E w i x
  new:∀ i,nb≤i→E.at_ i=Option.none
  rolt:RoOk E.ro w.heap
  apart:∀ i x j y,(i,x) ∈ os→(j,y) ∈ os→i≠j→∀ l m,E.at_ i=some (some l)→E.at_ j=some (some m)→l.g≠m.g
  nodup:(os.map (·.1)).Nodup
  tr:Trs W E os w
/-- What a call began with. -/
structure Ctx where
  w:World
  E:Env
  mine:Nat→Prop
  nb:Nat
  new:∀ i,nb≤i→E.at_ i=none
def Ctx.W (X:Ctx) (g:Nat):Prop:=X.w.heap.size≤g∨X.mine g
structure Step (X:Ctx) (E:Env) (nb:Nat) (w:World):Prop where
  le:X.E.le E
  os:w.os=X.w.os
  tape:w.tape=X.w.tape
  output:w.output=X.w.output
  size:X.w.heap.size≤w.heap.size
  block:∀ b,b < X.w.heap.size→¬ X.mine b→w.heap[b]? = X.w.heap[b]?
  ro:∀ b,E.ro b→X.E.ro b∨X.W b
  nb:X.nb≤nb
structure St where
  tm:List D
  os:List (Nat × Ob)
  nb:Nat
structure Rel (X:Ctx) (s:St) (E:Env) (a:Act) (w:World):Prop where
  sz:a.tmps.size=s.tm.length
  tm:∀ (t:Nat) (d:D),s.tm[t]? = some d→Rep E w d (a.tmps.getD t undef)
  df:a.defers = []
  sr:SR X.W E s.os s.nb w
  st:Step X E s.nb w
def St.get (s:St) (t:Nat):D:=(s.tm[t]?).getD .none
def St.put (s:St) (dst:Option Tmp) (d:D):St:=match dst with|some t=>{ s with tm:=s.tm.set t d }|none=>s
def St.ev (s:St):Operand→D
  |.tmp t=>s.get t
  |.const v=>if v.oneCell' then .sc v else .none
  |.global _=>.none
  |.func f=>.fn f []
theorem Rel.ev {X:Ctx}{s:St}{E:Env}{a:Act}{w:World} (h:Rel X s E a w) (x:Operand):Rep E w (s.ev x) (a.eval x):=by
  cases x with
  |tmp t=>
    show Rep E w (s.get t) (a.tmps.getD t undef)
    unfold St.get
    cases hd:s.tm[t]? with
    |none=>trivial
    |some d=>exact h.tm t d hd
  |const v=>
    show Rep E w (if v.oneCell' then .sc v else .none) v
    split
    · rename_i h1;exact ⟨rfl,h1⟩
    · trivial
  |global g=>trivial
  |func f=>exact ⟨[],rfl,rfl,fun j d v hc=>by simp at hc⟩
theorem Rel.put {X:Ctx}{s:St}{E:Env}{a:Act}{w:World} (h:Rel X s E a w) (dst:Option Tmp) {d:D}{v:Value} (hv:Rep E w d v):Rel X (s.put dst d) E (a.put dst v) w:=by
  cases dst with
  |none=>exact h
  |some t=>
    refine ⟨?_,?_,h.df,h.sr,h.st⟩
    · simpa [St.put,Act.put] using h.sz
    · intro k e he
      simp only [St.put,List.getElem?_set] at he
      simp only [Act.put]
      by_cases hk:t=k
      · subst hk
        simp only [if_true] at he
        split at he
        · rename_i hlt
          injection he with he
          subst he
          rw [Array.getD_eq_getD_getElem?, Array.getElem?_setIfInBounds]
          rw [if_pos rfl,if_pos (by rw [h.sz];exact hlt)]
          exact hv
        · cases he
      · rw [if_neg hk] at he
        rw [Array.getD_eq_getD_getElem?, Array.getElem?_setIfInBounds,if_neg hk,← Array.getD_eq_getD_getElem?]
        exact h.tm k e he
theorem Rel.undef {X:Ctx}{s:St}{E:Env}{a:Act}{w:World} (h:Rel X s E a w) (dst:Option Tmp):Rel X (s.put dst .none) E (a.put dst undef) w:=h.put dst trivial
/-- The objects that lie apart from what is written, and all that is read only, are kept. -/
theorem ObAt.keep {W:Nat→Prop}{E E':Env}{w w':World}{i:Nat}{x:Ob} (h:ObAt W E w i x) (hE:E.le E') (hw:∀ b,E.ro b→w'.heap[b]? = w.heap[b]?)
    (hg:∀ l,E.at_ i=some (some l)→w'.heap[l.g]? = w.heap[l.g]? ∧¬ E'.ro l.g):ObAt W E' w' i x:=by
  refine ⟨h.1,?_⟩
  rcases h.2 with ⟨h1,h2⟩|⟨l,h1,h2,h3,h4,h5,⟨cur,h6,h7,h8⟩|⟨h6,es,clock,h7,h8⟩⟩
  · exact .inl ⟨hE.at_ _ _ h1,h2⟩
  · obtain ⟨hg1,hg2⟩:=hg l h1
    refine .inr ⟨l,hE.at_ _ _ h1,h2,hg2,h4,h5,.inl ⟨cur,h6.keep hg1,h7,fun j d hd=>?_⟩⟩
    obtain ⟨u,hu,h9,h10⟩:=h8 j d hd
    exact ⟨u,hu,h9,h10.keep hE hw⟩
  · obtain ⟨hg1,hg2⟩:=hg l h1
    exact .inr ⟨l,hE.at_ _ _ h1,h2,hg2,h4,h5,.inr ⟨h6,es,clock,hg1.trans h7,h8⟩⟩
theorem SR.lt {W:Nat→Prop}{E:Env}{os:List (Nat × Ob)}{nb:Nat}{w:World} (h:SR W E os nb w) {i:Nat}{x:Ob} (hi:(i,x) ∈ os) {l:Loc} (hl:E.at_ i=some (some l)):l.g < w.heap.size:=by
  rcases (h.obs i x hi).2 with ⟨h1,_⟩|⟨l',h1,_,_,_,_,h7⟩
  · rw [hl] at h1;cases h1
  · rw [hl] at h1
    injection h1 with h1
    injection h1 with h1
    subst h1
    rcases h7 with ⟨cur,h6,_⟩|⟨_,es,clock,h6,_⟩
    · exact h6.lt
    · exact (Array.getElem?_eq_some_iff.1 h6).1
theorem SR.idlt {W:Nat→Prop}{E:Env}{os:List (Nat × Ob)}{nb:Nat}{w:World} (h:SR W E os nb w) {i:Nat}{x:Ob} (hi:(i,x) ∈ os):i < nb:=by
  rcases Nat.lt_or_ge i nb with hlt|hge
  · exact hlt
  · have h0:=h.new i hge
    rcases (h.obs i x hi).2 with ⟨h1,_⟩|⟨l',h1,_⟩<;>rw [h0] at h1<;>cases h1
end Go.Proofs.YtidjjfjhmlndjaaGreatDoor
namespace Go.Proofs.YtidjjfjhmlndjaaGreatDoor
open Go.RowKit
def Env.with (E:Env) (i:Nat) (l:Option Loc):Env:={ E with at_:=fun j=>if j=i then some l else E.at_ j }
theorem Env.with_le {E:Env}{i:Nat}{l:Option Loc} (h:E.at_ i=none):E.le (E.with i l):=by
  refine ⟨fun j m hj=>?_,fun b hb=>hb⟩
  show (if j=i then some l else E.at_ j)=some m
  by_cases hji:j=i
  · subst hji;rw [h] at hj;cases hj
  · rw [if_neg hji];exact hj
theorem Env.with_at {E:Env}{i:Nat}{l:Option Loc}:(E.with i l).at_ i=some l:=if_pos rfl
theorem Env.with_ne {E:Env}{i j:Nat}{l:Option Loc} (h:j≠i):(E.with i l).at_ j=E.at_ j:=if_neg h
def St.newOb (s:St) (x:Ob):St:={ s with os:=(s.nb,x)::s.os,nb:=s.nb+1 }
def setCs (os:List (Nat × Ob)) (i:Nat) (cs:List D):List (Nat × Ob):=os.map fun p=>if p.1=i then (p.1,{ p.2 with cs:=cs }) else p
def St.setCs (s:St) (i:Nat) (cs:List D):St:={ s with os:=Go.Proofs.YtidjjfjhmlndjaaGreatDoor.setCs s.os i cs }
theorem setCs_ids (os:List (Nat × Ob)) (i:Nat) (cs:List D):(setCs os i cs).map (·.1)=os.map (·.1):=by
  unfold setCs
  rw [List.map_map]
  congr 1
  funext p
  simp only [Function.comp]
  split<;>rfl
theorem setCs_mem {os:List (Nat × Ob)}{i j:Nat}{cs:List D}{y:Ob} (h:(j,y) ∈ setCs os i cs):∃ x,(j,x) ∈ os∧y=if j=i then { x with cs:=cs } else x:=by
  unfold setCs at h
  obtain ⟨p,hp,he⟩:=List.mem_map.1 h
  split at he<;>rename_i hi
  · injection he with h1 h2
    refine ⟨p.2,?_,?_⟩
    · rw [← h1];exact hp
    · rw [← h1,if_pos hi,h2]
  · subst he
    exact ⟨y,hp,by rw [if_neg hi]⟩
theorem mem_of_lookup {i:Nat}{x:Ob}:∀ {os:List (Nat × Ob)},os.lookup i=some x→(i,x) ∈ os
  | [],h=>by simp at h
  |(j,y)::os,h=>by
    rw [List.lookup_cons] at h
    by_cases hij:i=j
    · subst hij
      simp at h
      subst h
      exact List.mem_cons_self ..
    · rw [beq_false_of_ne hij] at h
      exact List.mem_cons_of_mem _ (mem_of_lookup h)
theorem nodup_eq {os:List (Nat × Ob)} (h:(os.map (·.1)).Nodup) {i:Nat}{x y:Ob} (hx:(i,x) ∈ os) (hy:(i,y) ∈ os):x=y:=by
  induction os with
  |nil=>cases hx
  |cons p os ih=>
    rw [List.map_cons,List.nodup_cons] at h
    rcases List.mem_cons.1 hx with hx|hx<;>rcases List.mem_cons.1 hy with hy|hy
    · rw [← hx] at hy
      injection hy with _ hy
      exact hy.symm
    · exact absurd (List.mem_map.2 ⟨_,hy,by rw [← hx]⟩) h.1
    · exact absurd (List.mem_map.2 ⟨_,hx,by rw [← hy]⟩) h.1
    · exact ih h.2 hx hy
theorem Rel.newB {X:Ctx}{s:St}{E:Env}{a:Act}{w w':World} (h:Rel X s E a w) (x:Ob) (cur:Array Value) (cap:Nat) (hblk:Blk w' w.heap.size x cur) (hold:∀ b,b < w.heap.size→w'.heap[b]? = w.heap[b]?) (hsize:w'.heap.size=w.heap.size+1) (hos:w'.os=w.os) (htape:w'.tape=w.tape) (hout:w'.output=w.output) (hlen:x.cs.length=x.len*x.size) (hcap:x.len≤cap) (hmax:cap≤maxLen)
    (hcur:cur.size=cap*x.size) (hc:∀ (j:Nat) (d:D),x.cs[j]? = some d→∃ u,cur[j]? = some u∧u.oneCell' = true∧Rep1 E w d u) (hnt:x.cs.all D.nt=true):
    Rel X (s.newOb x) (E.with s.nb (some ⟨w.heap.size,cap⟩)) a w':=by
  have hnew:=h.sr.new s.nb (Nat.le_refl _)
  have hle:E.le (E.with s.nb (some ⟨w.heap.size,cap⟩)):=Env.with_le hnew
  have hro:∀ b,E.ro b→w'.heap[b]? = w.heap[b]? :=fun b hb=>hold _ (h.sr.rolt b hb)
  refine ⟨h.sz,fun t d hd=>(h.tm t d hd).keep hle hro,h.df,?_,?_⟩
  · refine ⟨fun i y hy=>?_,fun i hi=>?_,h.sr.rolt.grow (fun _ h=>h) hro fun b hb=>?_,?_,?_,?_⟩
    · rcases List.mem_cons.1 hy with hy|hy
      · injection hy with h1 h2
        subst h1;subst h2
        refine ⟨fun _=>hlen,.inr ⟨⟨w.heap.size,cap⟩,Env.with_at,.inl h.st.size,fun hr=>?_,hcap,hmax,.inl ⟨cur,hblk,hcur,fun j d hd=>?_⟩⟩⟩
        · exact Nat.lt_irrefl _ (h.sr.rolt _ hr)
        · obtain ⟨u,h1,h2,h3⟩:=hc j d hd
          exact ⟨u,h1,h2,h3.keep hle hro⟩
      · have hlt:=h.sr.idlt hy
        refine (h.sr.obs i y hy).keep hle hro fun l hl=>⟨hold _ (h.sr.lt hy hl),?_⟩
        intro hr
        rcases (h.sr.obs i y hy).2 with ⟨h1,_⟩|⟨l',h1,_,h3,_⟩
        · rw [hl] at h1;cases h1
        · rw [hl] at h1
          injection h1 with h1
          injection h1 with h1
          subst h1
          exact h3 hr
    · show (if i=s.nb then _ else E.at_ i)=none
      have hi':s.nb+1≤i:=hi
      rw [if_neg (by omega)]
      exact h.sr.new i (by omega)
    · have:=h.sr.rolt b hb
      rw [hsize]
      omega
    · intro i y j z hi hj hij l m hl hm
      rcases List.mem_cons.1 hi with hi|hi<;>rcases List.mem_cons.1 hj with hj|hj
      · injection hi with h1 _;injection hj with h2 _;omega
      · injection hi with h1 _
        subst h1
        rw [Env.with_at] at hl
        injection hl with hl;injection hl with hl;subst hl
        rw [Env.with_ne (fun e=>hij e.symm)] at hm
        have:=h.sr.lt hj hm
        intro e
        rw [← e] at this
        exact Nat.lt_irrefl _ this
      · injection hj with h1 _
        subst h1
        rw [Env.with_at] at hm
        injection hm with hm;injection hm with hm;subst hm
        rw [Env.with_ne hij] at hl
        have:=h.sr.lt hi hl
        intro e
        rw [e] at this
        exact Nat.lt_irrefl _ this
      · have h1:=h.sr.idlt hi
        have h2:=h.sr.idlt hj
        rw [Env.with_ne (by omega)] at hl hm
        exact h.sr.apart i y j z hi hj hij l m hl hm
    · show (s.nb::s.os.map (·.1)).Nodup
      rw [List.nodup_cons]
      refine ⟨fun hm=>?_,h.sr.nodup⟩
      obtain ⟨p,hp,he⟩:=List.mem_map.1 hm
      have:=h.sr.idlt (i:=p.1) (x:=p.2) hp
      omega
    · refine h.sr.tr.keep rfl (fun b k p _ h1 h2 h3 h4=>⟨by rw [hsize];omega,hold _ h1,h2,h3,fun j y l hj hl=>?_⟩) fun k x' hx j ty sz n cs hj=>?_
      · rcases List.mem_cons.1 hj with hj|hj
        · injection hj with e1 e2
          subst e1
          rw [Env.with_at] at hl
          injection hl with hl;injection hl with hl;subst hl
          exact Nat.ne_of_gt h1
        · rw [Env.with_ne (Nat.ne_of_lt (h.sr.idlt hj))] at hl
          exact h4 j y l hj hl
      · rcases List.mem_cons.1 hx with hx|hx
        · injection hx with e1 e2
          subst e1;subst e2
          have:=List.all_eq_true.1 hnt _ (List.mem_of_getElem? hj);cases this
        · have hne:=Nat.ne_of_lt (h.sr.idlt hx)
          exact ⟨x',hx,hj,fun l hl=>⟨(Env.with_ne hne).trans hl,World.cell?_of_block (a:=⟨l.g,j,none⟩) (hold _ (h.sr.lt hx hl))⟩⟩
  · refine ⟨h.st.le.trans hle,hos.trans h.st.os,htape.trans h.st.tape,hout.trans h.st.output,?_,fun b hb hm=>?_,h.st.ro,Nat.le_succ_of_le h.st.nb⟩
    · rw [hsize];exact Nat.le_succ_of_le h.st.size
    · exact (hold _ (Nat.lt_of_lt_of_le hb h.st.size)).trans (h.st.block b hb hm)
theorem Rel.alloc {X:Ctx}{s:St}{E:Env}{a:Act}{w:World} (h:Rel X s E a w) (x:Ob) (cur:Array Value) (cap:Nat) (hlen:x.cs.length=x.len*x.size) (hcap:x.len≤cap) (hmax:cap≤maxLen)
    (hcur:cur.size=cap*x.size) (hc:∀ (j:Nat) (d:D),x.cs[j]? = some d→∃ u,cur[j]? = some u∧u.oneCell' = true∧Rep1 E w d u) (hnt:x.cs.all D.nt=true):
    Rel X (s.newOb x) (E.with s.nb (some ⟨w.heap.size,cap⟩)) a (w.alloc (.cells cur x.ty)):=
  h.newB x cur cap (.inl (heap_alloc_new w _)) (fun _ hb=>heap_alloc_old w _ hb) (World.size_alloc w _) rfl rfl rfl hlen hcap hmax hcur hc hnt
/-- A write into an object: its cells turn, all else stays. -/
theorem Rel.write {X:Ctx}{s:St}{E:Env}{a:Act}{w w':World} (h:Rel X s E a w) {i:Nat}{x:Ob}{l:Loc} (hi:(i,x) ∈ s.os) (hl:E.at_ i=some (some l)) (cs:List D) (cur:Array Value)
    (hlen:cs.length=x.cs.length) (hcur:cur.size=l.cap*x.size) (hc:∀ (j:Nat) (d:D),cs[j]? = some d→∃ u,cur[j]? = some u∧u.oneCell' = true∧Rep1 E w d u)
    (htr:∀ j ty sz n cs',cs[j]? = some (.tr ty sz n cs')→x.cs[j]? = some (.tr ty sz n cs')∧cur[j]? = w.cell? ⟨l.g,j,none⟩)
    (hw:Blk w' l.g x cur) (hb:∀ b,b≠l.g→w'.heap[b]? = w.heap[b]?) (hsz:w'.heap.size=w.heap.size) (hos:w'.os=w.os) (htape:w'.tape=w.tape) (hout:w'.output=w.output):
    Rel X (s.setCs i cs) E a w':=by
  obtain ⟨hx1,hx2⟩:=h.sr.obs i x hi
  rcases hx2 with ⟨h1,_⟩|⟨l',h1,hW,hnr,hcap,hmax,_⟩
  · rw [hl] at h1;cases h1
  rw [hl] at h1
  injection h1 with h1
  injection h1 with h1
  subst h1
  have hro:∀ b,E.ro b→w'.heap[b]? = w.heap[b]? :=fun b hr=>hb b (fun e=>hnr (e ▸ hr))
  have hle:=Env.le.refl E
  refine ⟨h.sz,fun t d hd=>(h.tm t d hd).keep hle hro,h.df,?_,?_⟩
  · refine ⟨fun j y hy=>?_,h.sr.new,h.sr.rolt.grow (fun _ h=>h) hro fun b hr=>by rw [hsz];exact h.sr.rolt b hr,?_,?_,?_⟩
    · obtain ⟨z,hz,rfl⟩:=setCs_mem hy
      by_cases hji:j=i
      · subst hji
        rw [if_pos rfl]
        obtain rfl:=nodup_eq h.sr.nodup hi hz
        refine ⟨fun hs=>hlen.trans (hx1 hs),.inr ⟨l,hl,hW,hnr,hcap,hmax,.inl ⟨cur,hw,hcur,fun k d hd=>?_⟩⟩⟩
        obtain ⟨u,h2,h3,h4⟩:=hc k d hd
        exact ⟨u,h2,h3,h4.keep hle hro⟩
      · rw [if_neg hji]
        refine (h.sr.obs j z hz).keep hle hro fun m hm=>⟨hb _ (h.sr.apart j z i x hz hi hji m l hm hl),?_⟩
        rcases (h.sr.obs j z hz).2 with ⟨h5,_⟩|⟨m',h5,_,h6,_⟩
        · rw [hm] at h5;cases h5
        · rw [hm] at h5
          injection h5 with h5
          injection h5 with h5
          subst h5
          exact h6
    · intro j y k z hj hk hjk m n hm hn
      obtain ⟨y',hy',_⟩:=setCs_mem hj
      obtain ⟨z',hz',_⟩:=setCs_mem hk
      exact h.sr.apart j y' k z' hy' hz' hjk m n hm hn
    · rw [show (s.setCs i cs).os=Go.Proofs.YtidjjfjhmlndjaaGreatDoor.setCs s.os i cs from rfl,setCs_ids]
      exact h.sr.nodup
    · refine h.sr.tr.keep rfl (fun b k p _ h1 h2 h3 h4=>⟨by rw [hsz];exact h1,hb b (fun e=>h4 i x l hi hl e.symm),h2,h3,fun j y m hj hm=>?_⟩) fun k x' hx j ty sz n cs' hj=>?_
      · obtain ⟨y',hy',_⟩:=setCs_mem hj
        exact h4 j y' m hy' hm
      · obtain ⟨z,hz,rfl⟩:=setCs_mem hx
        by_cases hki:k=i
        · subst hki
          rw [if_pos rfl] at hj
          obtain rfl:=nodup_eq h.sr.nodup hi hz
          obtain ⟨h1,h2⟩:=htr j ty sz n cs' hj
          refine ⟨x,hz,h1,fun m hm=>⟨hm,?_⟩⟩
          rw [hl] at hm
          injection hm with hm;injection hm with hm;subst hm
          rw [← h2]
          exact hw.cell j
        · rw [if_neg hki] at hj
          exact ⟨z,hz,hj,fun m hm=>⟨hm,World.cell?_of_block (a:=⟨m.g,j,none⟩) (hb _ (h.sr.apart k z i x hz hi hki m l hm hl))⟩⟩
  · refine ⟨h.st.le,hos.trans h.st.os,htape.trans h.st.tape,hout.trans h.st.output,by rw [hsz];exact h.st.size,fun b hlt hm=>?_,h.st.ro,h.st.nb⟩
    by_cases hbg:b=l.g
    · subst hbg
      rcases hW with hW|hW
      · omega
      · exact absurd hW hm
    · exact (hb b hbg).trans (h.st.block b hlt hm)
/-- The location and the block of an object that has cells. -/
theorem Rel.ob {X:Ctx}{s:St}{E:Env}{a:Act}{w:World} (h:Rel X s E a w) {i:Nat}{x:Ob} (hz:x.size≠0) (hi:(i,x) ∈ s.os) {l:Loc} (hl:E.at_ i=some (some l)):
    x.cs.length=x.len*x.size∧x.len≤l.cap∧l.cap≤maxLen∧∃ cur,Blk w l.g x cur∧cur.size=l.cap*x.size∧∀ (j:Nat) (d:D),x.cs[j]? = some d→∃ u,cur[j]? = some u∧u.oneCell' = true∧Rep1 E w d u:=by
  obtain ⟨hx1,hx2⟩:=h.sr.obs i x hi
  rcases hx2 with ⟨h1,_⟩|⟨l',h1,hW,hnr,hcap,hmax,⟨cur,h6,h7,h8⟩|⟨h9,_⟩⟩
  · rw [hl] at h1;cases h1
  rw [hl] at h1
  injection h1 with h1
  injection h1 with h1
  subst h1
  exact ⟨hx1 hz,hcap,hmax,cur,h6,h7,h8⟩
  exact absurd h9 hz
/-- Cells of an object from o on: values that the world holds there. -/
theorem Rel.cells {X:Ctx}{s:St}{E:Env}{a:Act}{w:World} (h:Rel X s E a w) {i:Nat}{x:Ob} (hz:x.size≠0) (hi:(i,x) ∈ s.os) {l:Loc} (hl:E.at_ i=some (some l)) (o n:Nat) (hn:o+n≤x.cs.length):
    ∃ us:List Value,us.length=n∧(∀ (j:Nat) (v:Value),us[j]? = some v→w.cell? ⟨l.g,o+j,none⟩=some v)∧∀ (j:Nat) (d:D) (v:Value),((x.cs.drop o).take n)[j]? = some d→us[j]? = some v→Rep1 E w d v∧v.oneCell' = true:=by
  obtain ⟨h1,h2,h3,cur,h4,h5,h6⟩:=h.ob hz hi hl
  have hle:x.cs.length≤cur.size:=by rw [h1,h5];exact Nat.mul_le_mul_right _ h2
  refine ⟨(cur.toList.drop o).take n,by simp;omega,fun j v hv=>?_,fun j d v hd hv=>?_⟩
  · rw [List.getElem?_take] at hv
    split at hv
    · rw [List.getElem?_drop,Array.getElem?_toList] at hv
      rw [h4.cell]
      exact hv
    · cases hv
  · rw [List.getElem?_take] at hd hv
    split at hd
    · rename_i hj
      rw [if_pos hj] at hv
      rw [List.getElem?_drop] at hd hv
      obtain ⟨u,hu,h7,h8⟩:=h6 _ d hd
      rw [Array.getElem?_toList] at hv
      rw [hu] at hv
      injection hv with hv
      subst hv
      exact ⟨h8,h7⟩
    · cases hd
end Go.Proofs.YtidjjfjhmlndjaaGreatDoor
namespace Go.Proofs.YtidjjfjhmlndjaaGreatDoor
open Go.RowKit
/-- The object that an operation stores into; the one that it loads from. -/
def tgt (s:St) (o:Oper):Option Nat:=match o.op with
  |.store _ x _=>match s.ev x with|.ptr i _=>some i|_=>none
  |_=>none
def rdOf (s:St) (o:Oper):Option Nat:=match o.op with
  |.load _ x=>match s.ev x with|.ptr i _=>some i|_=>none
  |_=>none
/-- Is it a load of cells that are only read? -/
def rcOf (s:St) (o:Oper):Bool:=match o.op with
  |.load _ x=>match s.ev x with|.cptr ..=>true|_=>false
  |_=>false
/-- Of what was there the object tg alone may have turned; new objects lie in new blocks. -/
structure Fr (tg:Option Nat) (E:Env) (w:World) (E':Env) (w':World):Prop where
  le:E.le E'
  size:w.heap.size≤w'.heap.size
  block:∀ b,b < w.heap.size→(∀ i l,tg=some i→E.at_ i=some (some l)→l.g≠b)→w'.heap[b]? = w.heap[b]?
  new:∀ i l,E.at_ i=none→E'.at_ i=some (some l)→w.heap.size≤l.g
  tgs:E'.tg=E.tg
theorem Fr.same (tg:Option Nat) (E:Env) (w:World):Fr tg E w E w:=⟨.refl _,Nat.le_refl _,fun _ _ _=>rfl,fun i l h1 h2=>(by rw [h1] at h2;cases h2),rfl⟩
/-- An operation leads from the state s to the state s'. -/
def AwOp (X:Ctx) (P:Program) (o:Oper) (s s':St):Prop:=
  ∀ E a w (K:Act→World→Prop) (Q:Exit→Act→World→Prop),Rel X s E a w→(∀ E' a' w',Rel X s' E' a' w'→Fr (tgt s o) E w E' w'→K a' w')→o.wp P a w K Q
/-- w' agrees with w where it is read. -/
structure Agr (rd:Option Nat) (rc:Bool) (E:Env) (w w':World):Prop where
  ro:rc=true→∀ b,E.ro b→w'.heap[b]? = w.heap[b]?
  ob:∀ i l,rd=some i→E.at_ i=some (some l)→w'.heap[l.g]? = w.heap[l.g]?
theorem Agr.refl (rd:Option Nat) (rc:Bool) (E:Env) (w:World):Agr rd rc E w w:=⟨fun _ _ _=>rfl,fun _ _ _ _=>rfl⟩
/-- An operation that only reads: it gives d, in every world that agrees. -/
def ValAt (X:Ctx) (P:Program) (o:Oper) (s:St) (d:D):Prop:=
  ∀ E a w,Rel X s E a w→∃ v,Rep E w d v∧∀ w',Agr (rdOf s o) (rcOf s o) E w w'→(execOp a.eval o).run P w' = .ok (.value v) w'
theorem awop_val {X:Ctx}{P:Program}{o:Oper}{s:St}{d:D} (h:ValAt X P o s d):AwOp X P o s (s.put o.dst d):=by
  intro E a w K Q hr hk
  obtain ⟨v,h2,h1⟩:=h E a w hr
  unfold Oper.wp
  rw [h1 w (.refl _ _ _ _)]
  exact hk _ _ _ (hr.put o.dst h2) (.same _ _ _)
theorem run_storeCells_mk (P:Program) (g o:Nat) (t:TypeId) (n:Nat):∀ (vs:List Value) (i:Nat) (cur:Array Value) (w:World),w.heap[g]? = some (.cells cur t (n,n+1))→cur.size≤n→o+i+vs.length≤cur.size→(∀ v ∈ vs,v.oneCell' = true)→
    (storeCells ⟨g,o,none⟩ vs i).run P w = .ok () (w.setRow g (cur.toList.take (o+i)++vs++cur.toList.drop (o+i+vs.length)).toArray)
  | [],i,cur,w,hg,_,_,_=>by
    simp only [storeCells,List.append_nil,List.length_nil,Nat.add_zero,List.take_append_drop,Array.toArray_toList]
    rw [setRow_self w g cur t (n,n+1) hg]
    rfl
  |v::rest,i,cur,w,hg,hn,hl,h1=>by
    have hi:o+i < cur.size:=by simp at hl;omega
    have hadd:(⟨g,o,none⟩:Addr).add i=⟨g,o+i,none⟩:=by unfold Addr.add;split<;>simp_all
    have hcell:w.cell? ⟨g,o+i,none⟩=some cur[o+i]:=by simp [World.cell?, hg,hi]
    have hfro:w.frozen? ⟨g,o+i,none⟩=false:=by
      simp only [World.frozen?, hg,Bool.and_eq_false_iff,decide_eq_false_iff_not]
      omega
    have hst:(store ((⟨g,o,none⟩:Addr).add i) v).run P w = .ok () (w.setRow g (cur.setIfInBounds (o+i) v)):=by
      rw [hadd,run_store P w _ v _ (h1 v (by simp)),hcell]
      simp [hfro,setCell_eq_setRow w g (o+i) cur t (n,n+1) v hg]
    have ih:=run_storeCells_mk P g o t n rest (i+1) (cur.setIfInBounds (o+i) v) (w.setRow g (cur.setIfInBounds (o+i) v)) (setRow_heap w g cur _ t _ hg) (by simpa using hn) (by simp at hl ⊢;omega) (fun x hx=>h1 x (by simp [hx]))
    simp only [storeCells,Sem.run_bind,hst,Result.andThen_ok,ih,setRow_setRow]
    congr 3
    have e:=list_seg_step cur.toList (o+i) v rest (by simp at hl ⊢;omega)
    simpa [Array.toList_setIfInBounds,Nat.add_assoc] using e
theorem Blk.store {w:World}{g:Nat}{x:Ob}{cur:Array Value} (h:Blk w g x cur) (P:Program) (k:Nat) (vs:List Value) (hl:k+0+vs.length≤cur.size) (h1:∀ v ∈ vs,v.oneCell' = true):
    (storeCells ⟨g,k,none⟩ vs 0).run P w = .ok () (w.setRow g (cur.toList.take (k+0)++vs++cur.toList.drop (k+0+vs.length)).toArray):=by
  rcases h with h|⟨_,t,h⟩
  · exact run_storeCells_at P g k x.ty vs 0 cur w h hl h1
  · exact run_storeCells_mk P g k t _ vs 0 cur w h (Nat.le_refl _) hl h1
theorem Blk.set {w:World}{g:Nat}{x:Ob}{cur news:Array Value} (h:Blk w g x cur) (hs:news.size=cur.size):Blk (w.setRow g news) g x news:=by
  rcases h with h|⟨hx,t,h⟩
  · exact .inl (setRow_heap w g cur news x.ty (0,0) h)
  · refine .inr ⟨hx,t,?_⟩
    rw [hs]
    exact setRow_heap w g cur news t _ h
theorem awop_new {X : Ctx} {P : Program} {o : Oper} {s : St} {x : Ob} {d : D} (hnt : x.cs.all D.nt = true) (h : ∀ E a w, Rel X s E a w → ∃ cur cap v, (execOp a.eval o).run P w = .ok (.value v) (w.alloc (.cells cur x.ty)) ∧ x.cs.length = x.len * x.size ∧ x.len ≤ cap ∧ cap ≤ maxLen ∧
      cur.size = cap * x.size ∧ (∀ (j : Nat) (d : D), x.cs[j]? = some d → ∃ u, cur[j]? = some u ∧ u.oneCell' = true ∧ Rep1 E w d u) ∧ Rep (E.with s.nb (some ⟨w.heap.size, cap⟩)) (w.alloc (.cells cur x.ty)) d v) :
    AwOp X P o s ((s.newOb x).put o.dst d):=by
  intro E a w K Q hr hk
  obtain ⟨cur,cap,v,h1,h2,h3,h4,h5,h6,h7⟩:=h E a w hr
  unfold Oper.wp
  rw [h1]
  refine hk _ _ _ ((hr.alloc x cur cap h2 h3 h4 h5 h6 hnt).put o.dst h7) ⟨Env.with_le (hr.sr.new _ (Nat.le_refl _)),by rw [World.size_alloc];exact Nat.le_succ _,fun b hb _=>heap_alloc_old w _ hb,fun i l h8 h9=>?_,rfl⟩
  by_cases hi:i=s.nb
  · subst hi
    rw [Env.with_at] at h9
    injection h9 with h9;injection h9 with h9;subst h9
    exact Nat.le_refl _
  · rw [Env.with_ne hi,h8] at h9
    cases h9
def tyK (P:Program) (t:TypeId):Option (Bool × Nat):=
  match P.underlying t,P.info? t with
  |some (.struct _),some i=>some (true,i.size)
  |some (.array ..),_=>none
  |some _,some i=>some (false,i.size)
  |_,_=>none
def fldK (P:Program) (t:TypeId) (f:Nat):Option Nat:=
  match P.underlying t with
  |some (.struct fs)=>match fs[f]? with
    |some x=>match P.info? x.type with
      |some i=>if i.size=0 then none else some x.offset
      |none=>none
    |none=>none
  |_=>none
def elemK (P:Program) (t:TypeId):Option (TypeId × Nat):=
  match P.underlying t with
  |some (.slice e)=>(P.info? e).map fun i=>(e,i.size)
  |_=>none
def zeroK (P:Program) (t:TypeId):Option Value:=(P.info? t).bind (·.zero)
def isStr (P:Program) (t:TypeId):Bool:=match P.underlying t with|some .string=>true|_=>false
def isBool (P:Program) (t:TypeId):Bool:=match P.underlying t with|some .bool=>true|_=>false
def D.cells:D→List D
  |.agg cs=>cs
  |d=> [d]
def D.known (d:D):Bool:=d.cells.all D.one
theorem known_nt {d:D} (h:d.known=true):d.cells.all D.nt=true:=List.all_eq_true.2 fun e he=>D.one_nt (List.all_eq_true.1 h e he)
theorem sc_nt (vs:List Value):(vs.map D.sc).all D.nt=true:=List.all_eq_true.2 fun e he=>by obtain ⟨v,_,rfl⟩:=List.mem_map.1 he;rfl
theorem rep_cells {E:Env}{w:World}{d:D}{u:Value} (h:Rep E w d u) (hk:d.known=true):
    u.cells.size=d.cells.length∧∀ (j:Nat) (e:D),d.cells[j]? = some e→∃ v,u.cells[j]? = some v∧v.oneCell' = true∧Rep1 E w e v:=by
  unfold D.known at hk
  by_cases hd:∃ cs,d = .agg cs
  · obtain ⟨cs,rfl⟩:=hd
    obtain ⟨us,rfl,h2,h3⟩:=h
    refine ⟨by simpa [Value.cells,D.cells] using h2,fun j e he=>?_⟩
    have hj:j < us.length:=by rw [h2];exact (List.getElem?_eq_some_iff.1 he).1
    have:=h3 j e us[j] he (List.getElem?_eq_getElem hj)
    exact ⟨us[j],by simp [Value.cells,hj],this.2,this.1⟩
  · have hone:d.one=true:=by
      cases d<;>first|exact absurd ⟨_,rfl⟩ hd|(simp [D.cells] at hk;exact hk)
    have h1:=h.one hone
    have ho:=h1.oneCell hone
    have hc:u.cells=#[u]:=by
      cases u<;>first|rfl|cases ho
    have hdc:d.cells = [d]:=by cases d<;>first|rfl|exact absurd ⟨_,rfl⟩ hd
    rw [hc,hdc]
    refine ⟨rfl,fun j e he=>?_⟩
    rcases j with _|j
    · simp only [List.getElem?_cons_zero,Option.some.injEq] at he
      subst he
      exact ⟨u,by simp,ho,h1⟩
    · simp at he
/-- A cell that may be loaded: no owned slice. -/
def unT:Option D→Option D
  |some (.tr ..)=>none
  |x=>x
theorem unT_ {x:Option D}{d:D} (h:unT x=some d):x=some d:=by
  unfold unT at h
  split at h
  · cases h
  · exact h
theorem unT_sc (v:Value):unT (some (.sc v))=some (.sc v):=rfl
theorem unT_sl (n:Nat) (cs:List D):unT (some (.sl n cs))=some (.sl n cs):=rfl
theorem unT_own (i o n:Nat):unT (some (.own i o n))=some (.own i o n):=rfl
theorem unT_ptr (i o:Nat):unT (some (.ptr i o))=some (.ptr i o):=rfl
theorem unT_cptr (cs:List D) (o:Nat):unT (some (.cptr cs o))=some (.cptr cs o):=rfl
theorem unT_mp (i:Nat):unT (some (.mp i))=some (.mp i):=rfl
theorem unT_fn (f:FuncId) (cs:List D):unT (some (.fn f cs))=some (.fn f cs):=rfl
theorem unT_no:unT (some .none)=some .none:=rfl
/-- The part of type t at o. -/
def partD (P:Program) (t:TypeId) (cs:List D) (o:Nat):Option D:=
  match tyK P t with
  |some (true,n)=>if o+n≤cs.length then some (.agg ((cs.drop o).take n)) else none
  |some (false,_)=>unT cs[o]?
  |none=>none
theorem run_isAgg_of {P:Program}{t:TypeId}{b:Bool}{n:Nat} (h:tyK P t=some (b,n)) (w:World):(isAgg t).run P w = .ok b w∧(Go.sizeOf t).run P w = .ok n w:=by
  unfold tyK at h
  cases hu:P.underlying t with
  |none=>rw [hu] at h;simp at h
  |some d=>
    rw [hu] at h
    cases hi:P.info? t with
    |none=>rw [hi] at h;cases d<;>simp at h
    |some i=>
      rw [hi] at h
      have hs:(Go.sizeOf t).run P w = .ok i.size w:=by simp [Go.sizeOf,run_typeInfo w hi]
      cases d<;>simp only [Option.some.injEq,Prod.mk.injEq,reduceCtorEq] at h<;>first|(obtain ⟨rfl,rfl⟩:=h;exact ⟨by simp [isAgg,run_underlying hu],hs⟩)|(exact absurd h (by simp))
/-- What is loaded reads as the part. -/
theorem load_part {P:Program}{E:Env}{w:World}{t:TypeId}{cs:List D}{o g oo:Nat}{d:D} (us:List Value) (hl:us.length=cs.length)
    (hr:∀ (j:Nat) (d:D) (v:Value),cs[j]? = some d→us[j]? = some v→Rep1 E w d v∧v.oneCell' = true) (hp:partD P t cs o=some d):
    ∃ v,(∀ w',(∀ (j:Nat) (v:Value),us[j]? = some v→w'.cell? ⟨g,oo+j,none⟩=some v)→(Instr.loadAt t (.pointer (some ⟨g,oo+o,none⟩))).run P w' = .ok v w')∧Rep E w d v:=by
  unfold partD at hp
  cases ht:tyK P t with
  |none=>rw [ht] at hp;cases hp
  |some bn=>
    obtain ⟨b,n⟩:=bn
    rw [ht] at hp
    cases b with
    |true=>
      simp only at hp
      split at hp
      · rename_i hle
        injection hp with hp
        subst hp
        have hlen:((us.drop o).take n).length=n:=by simp;omega
        refine ⟨.agg ((us.drop o).take n).toArray,fun w' hc=>?_,(us.drop o).take n,rfl,by simp [hl],fun j e v he hv=>?_⟩
        · obtain ⟨h1,h2⟩:=run_isAgg_of ht w'
          have := run_loadCells_list (P := P) w' ⟨g, oo + o, none⟩ ((us.drop o).take n) (fun j v hv => by
            rw [List.getElem?_take] at hv
            split at hv
            · rw [List.getElem?_drop] at hv
              rw [Addr.add_lit,Nat.add_assoc]
              exact hc _ _ hv
            · cases hv)
          rw [hlen] at this
          simp [Instr.loadAt,Instr.sureAddr,loadVar,h1,h2,this]
        · rw [List.getElem?_take] at he hv
          split at he
          · rename_i hj
            rw [if_pos hj] at hv
            rw [List.getElem?_drop] at he hv
            exact hr _ _ _ he hv
          · cases he
      · cases hp
    |false=>
      simp only at hp
      replace hp:=unT_ hp
      have ho:o < us.length:=by rw [hl];exact (List.getElem?_eq_some_iff.1 hp).1
      refine ⟨us[o],fun w' hc=>?_,Rep.of1 (hr o d us[o] hp (List.getElem?_eq_getElem ho)).1⟩
      obtain ⟨h1,h2⟩:=run_isAgg_of ht w'
      have hv:=hc o us[o] (List.getElem?_eq_getElem ho)
      simp [Instr.loadAt,Instr.sureAddr,loadVar,h1,hv]
def cellOb:Option Ob→Option Ob
  |some x=>cond (x.size==0) none (some x)
  |none=>none
/-- An object that has cells. -/
def St.ob (s:St) (i:Nat):Option Ob:=cellOb (s.os.lookup i)
theorem St.ob_some {s:St}{i:Nat}{x:Ob} (h:s.ob i=some x):s.os.lookup i=some x∧x.size≠0:=by
  unfold St.ob cellOb at h
  cases hl:s.os.lookup i with
  |none=>rw [hl] at h;cases h
  |some y=>
    rw [hl] at h
    cases hy:y.size==0 with
    |true=>simp only [hy,cond_true] at h;cases h
    |false=>
      simp only [hy,cond_false] at h
      injection h with h
      subst h
      exact ⟨rfl,by simpa using hy⟩
def loadD (P:Program) (t:TypeId) (s:St):D→Option D
  |.ptr i o=>match s.ob i with|some x=>partD P t x.cs o|none=>none
  |.cptr cs o=>partD P t cs o
  |_=>none
theorem RepP.to1 {E:Env}{w:World}{d:D}{u:Value} (h:RepP E.ro w d u):Rep1 E w d u∧u.oneCell' = true:=by
  cases h with
  |sc v h1=>exact ⟨⟨rfl,h1⟩,h1⟩
  |sl n cs A c us hl hn hc hcell hrep=>exact ⟨.sl n cs A c us hl hn hc hcell hrep,rfl⟩
theorem val_load {X:Ctx}{P:Program}{o:Oper}{s:St}{t:TypeId}{x:Operand} (ho:o.op = .load t x) {d:D} (h:loadD P t s (s.ev x)=some d):ValAt X P o s d:=by
  intro E a w hr
  have hx:=hr.ev x
  have key:∃ v,Rep E w d v∧∀ w',Agr (rdOf s o) (rcOf s o) E w w'→(Instr.loadAt t (a.eval x)).run P w' = .ok v w':=by
    cases hd:s.ev x with
    |ptr i k=>
      rw [hd] at h hx
      obtain ⟨l,hl,hp⟩:=hx
      simp only [loadD] at h
      cases hob:s.ob i with
      |none=>rw [hob] at h;cases h
      |some ob=>
        rw [hob] at h
        obtain ⟨us,h1,h2,h3⟩:=hr.cells (St.ob_some hob).2 (mem_of_lookup (St.ob_some hob).1) hl 0 ob.cs.length (by omega)
        rw [hp]
        have hrd:rdOf s o=some i:=by simp [rdOf,ho,hd]
        obtain ⟨v,h4,h5⟩:=load_part (P:=P) (E:=E) (t:=t) (cs:=ob.cs) (o:=k) (g:=l.g) (oo:=0) us h1 (fun j e v he hv=>h3 j e v (by simpa using he) hv) h
        refine ⟨v,h5,fun w' hw=>?_⟩
        have:=h4 w' fun j v hv=>(World.cell?_of_block (a:=⟨l.g,0+j,none⟩) (hw.ob i l hrd hl)).trans (h2 j v hv)
        rwa [Nat.zero_add] at this
    |cptr cs k=>
      rw [hd] at h hx
      obtain ⟨b,oo,us,hp,hro,h1,h2,h3⟩:=hx
      rw [hp]
      obtain ⟨v,h4,h5⟩:=load_part (P:=P) (E:=E) (w:=w) (t:=t) (g:=b) (oo:=oo) us h1 (fun j e v he hv=>(h3 j e v he hv).to1) h
      exact ⟨v,h5,fun w' hw=>h4 w' fun j v hv=>(World.cell?_of_block (a:=⟨b,oo+j,none⟩) (hw.ro (by simp [rcOf,ho,hd]) b hro)).trans (h2 j v hv)⟩
    |_=>rw [hd] at h;cases h
  obtain ⟨v,h2,h1⟩:=key
  exact ⟨v,h2,fun w' hw=>by simp [execOp,ho,h1 w' hw]⟩
def setL:List D→Nat→List D→List D
  |cs,_, []=>cs
  |cs,o,d::ds=>setL (cs.set o d) (o+1) ds
theorem setL_len:∀ (ds cs:List D) (o:Nat),(setL cs o ds).length=cs.length
  | [],_,_=>rfl
  |d::ds,cs,o=>by rw [setL,setL_len ds];simp
theorem setL_at:∀ (ds cs:List D) (o j:Nat),o+ds.length≤cs.length→(setL cs o ds)[j]? = if o≤j∧j < o+ds.length then ds[j - o]? else cs[j]?
  | [],cs,o,j,_=>by
    rw [if_neg (by simp)]
    rfl
  |d::ds,cs,o,j,h=>by
    simp only [List.length_cons] at h ⊢
    rw [setL,setL_at ds (cs.set o d) (o+1) j (by simp;omega)]
    by_cases h1:o+1≤j∧j < o+1+ds.length
    · rw [if_pos h1,if_pos (by omega),show j - o=(j - (o+1))+1 by omega,List.getElem?_cons_succ]
    · rw [if_neg h1,List.getElem?_set]
      by_cases h2:o=j
      · subst h2
        rw [if_pos rfl,if_pos (by omega),if_pos (by omega),Nat.sub_self]
        rfl
      · rw [if_neg h2,if_neg (by omega)]
def storeD (P:Program) (t:TypeId) (s:St) (p d:D):Option St:=
  match p with
  |.ptr i o=>match s.ob i,tyK P t with
    |some x,some (_,n)=>if d.known=true∧d.cells.length=n∧o+n≤x.cs.length then some (s.setCs i (setL x.cs o d.cells)) else none
    |_,_=>none
  |_=>none
theorem awop_store {X:Ctx}{P:Program}{o:Oper}{s:St}{t:TypeId}{x y:Operand} (ho:o.op = .store t x y) (hn:o.dst=none) {s':St} (h:storeD P t s (s.ev x) (s.ev y)=some s'):AwOp X P o s s':=by
  intro E a w K Q hr hk
  have hx:=hr.ev x
  have hy:=hr.ev y
  cases hd:s.ev x with
  |ptr i k=>
    rw [hd] at h hx
    obtain ⟨l,hl,hp⟩:=hx
    simp only [storeD] at h
    cases hob:s.ob i with
    |none=>rw [hob] at h;simp at h
    |some ob=>
      rw [hob] at h
      cases ht:tyK P t with
      |none=>rw [ht] at h;simp at h
      |some bn=>
        obtain ⟨b,n⟩:=bn
        rw [ht] at h
        simp only at h
        split at h
        · rename_i hc
          obtain ⟨hk1,hk2,hk3⟩:=hc
          injection h with h
          subst h
          obtain ⟨hc1,hc2⟩:=rep_cells hy hk1
          have hmem:=mem_of_lookup (St.ob_some hob).1
          obtain ⟨h1,h2,h3,cur,h4,h5,h6⟩:=hr.ob (St.ob_some hob).2 hmem hl
          have hle:ob.cs.length≤cur.size:=by rw [h1,h5];exact Nat.mul_le_mul_right _ h2
          have hul:(a.eval y).cells.toList.length=n:=by rw [Array.length_toList,hc1,hk2]
          have hone:∀ v ∈ (a.eval y).cells.toList,v.oneCell' = true:=by
            intro v hv
            obtain ⟨j,hj,rfl⟩:=List.getElem_of_mem hv
            obtain ⟨v',h7,h8,_⟩:=hc2 j ((s.ev y).cells[j]'(by rw [hul] at hj;omega)) (List.getElem?_eq_getElem _)
            rw [Array.getElem_toList]
            rw [Array.getElem?_eq_getElem (by rw [Array.length_toList] at hj;exact hj)] at h7
            injection h7 with h7
            rw [h7];exact h8
          have hst:=h4.store P k (a.eval y).cells.toList (by rw [hul];omega) hone
          have hnews:(cur.toList.take (k+0)++(a.eval y).cells.toList++cur.toList.drop (k+0+(a.eval y).cells.toList.length)).toArray.size=cur.size:=by
            simp only [List.size_toArray,List.length_append,List.length_take,List.length_drop,Array.length_toList]
            rw [Array.length_toList] at hul
            rw [hul]
            omega
          obtain ⟨_,hs2⟩:=run_isAgg_of ht w
          have hrun:(execOp a.eval o).run P w = .ok .skip (w.setRow l.g (cur.toList.take (k+0)++(a.eval y).cells.toList++cur.toList.drop (k+0+(a.eval y).cells.toList.length)).toArray):=by
            have hsz:¬ (a.eval y).cells.size≠n:=by rw [hc1,hk2];simp
            simp only [execOp,ho,hp]
            simp only [Instr.storeAt,Instr.sureAddr,storeVar,Sem.run_bind,Sem.run_pure,Result.andThen_ok,hs2,if_neg hsz,hst]
          unfold Oper.wp
          rw [hrun]
          show K (a.put o.dst undef) _
          rw [hn]
          refine hk _ _ _ (hr.write hmem hl _ _ (setL_len _ _ _) ?_ ?_ ?_ (h4.set hnews) (fun b hb=>setRow_other w _ b _ hb) (by simp) rfl rfl rfl) ⟨.refl _,by simp,fun b hb hne=>setRow_other w _ b _ (hne i l (by simp [tgt,ho,hd]) hl).symm,fun i l h8 h9=>(by rw [h8] at h9;cases h9),rfl⟩
          · simp only [List.size_toArray,List.length_append,List.length_take,List.length_drop,Array.length_toList]
            rw [Array.length_toList] at hul
            rw [hul]
            omega
          · intro j e he
            rw [setL_at _ _ _ _ (by omega)] at he
            rw [Array.length_toList] at hul
            simp only [Nat.add_zero,List.getElem?_toArray]
            split at he
            · rename_i hj
              obtain ⟨v,h7,h8,h9⟩:=hc2 _ e he
              refine ⟨v,?_,h8,h9⟩
              rw [List.append_assoc,List.getElem?_append_right (by simp;omega),List.getElem?_append_left (by simp;omega)]
              simp only [List.length_take,Array.length_toList,Array.getElem?_toList]
              rw [show min k cur.size=k by omega]
              exact h7
            · rename_i hj
              obtain ⟨v,h7,h8,h9⟩:=h6 j e he
              refine ⟨v,?_,h8,h9⟩
              by_cases hlt:j < k
              · rw [List.append_assoc,List.getElem?_append_left (by simp;omega),List.getElem?_take,if_pos hlt,Array.getElem?_toList]
                exact h7
              · rw [List.getElem?_append_right (by simp;omega)]
                simp only [List.length_append,List.length_take,Array.length_toList,List.getElem?_drop,Array.getElem?_toList]
                rw [show k+(a.eval y).cells.size+(j - (min k cur.size+(a.eval y).cells.size))=j by omega]
                exact h7
          · intro j ty sz n' cs' he
            rw [setL_at _ _ _ _ (by omega)] at he
            rw [Array.length_toList] at hul
            split at he
            · exfalso
              have:=List.all_eq_true.1 hk1 _ (List.mem_of_getElem? he)
              cases this
            · rename_i hj
              refine ⟨he,?_⟩
              rw [h4.cell j]
              simp only [Nat.add_zero,List.getElem?_toArray]
              by_cases hlt:j < k
              · rw [List.append_assoc,List.getElem?_append_left (by simp;omega),List.getElem?_take,if_pos hlt,Array.getElem?_toList]
              · rw [List.getElem?_append_right (by simp;omega)]
                simp only [List.length_append,List.length_take,Array.length_toList,List.getElem?_drop,Array.getElem?_toList]
                rw [show k+(a.eval y).cells.size+(j - (min k cur.size+(a.eval y).cells.size))=j by omega]
        · cases h
  |_=>rw [hd] at h;cases h
end Go.Proofs.YtidjjfjhmlndjaaGreatDoor
namespace Go.Proofs.YtidjjfjhmlndjaaGreatDoor
open Go.RowKit
/-- Operations on bits: under a name, so that no search looks into them. -/
def bitI (op:BinOp) (k:IntKind) (a b:Int):Int:=match op with
  |.and=>k.wrap (BitVec.ofInt k.bits a &&& BitVec.ofInt k.bits b).toNat
  |.or=>k.wrap (BitVec.ofInt k.bits a|||BitVec.ofInt k.bits b).toNat
  |.xor=>k.wrap (BitVec.ofInt k.bits a ^^^ BitVec.ofInt k.bits b).toNat
  |.andNot=>k.wrap (BitVec.ofInt k.bits a &&& ~~~BitVec.ofInt k.bits b).toNat
  |.shl=>k.wrap (a*2 ^ (min b.toNat k.bits))
  |_=>a.fdiv (2 ^ (min b.toNat k.bits))
theorem bitI_and (k:IntKind) (a b:Int):bitI .and k a b=k.wrap (BitVec.ofInt k.bits a &&& BitVec.ofInt k.bits b).toNat:=rfl
/-- An integer, string or bool operation. -/
def binD (P:Program) (op:BinOp) (t:TypeId):Value→Value→Option Value
  |.int k a,.int k' b=>
    if op = .shl then (if 0≤b then some (.int k (bitI .shl k a b)) else none)
    else if op = .shr then (if 0≤b then some (.int k (bitI .shr k a b)) else none)
    else if k=k' then
      match op with
      |.and=>some (.int k (bitI .and k a b))
      |.or=>some (.int k (bitI .or k a b))
      |.xor=>some (.int k (bitI .xor k a b))
      |.andNot=>some (.int k (bitI .andNot k a b))
      |.add=>some (.int k (k.wrap (a+b)))
      |.sub=>some (.int k (k.wrap (a - b)))
      |.mul=>some (.int k (k.wrap (a*b)))
      |.quo=>if b=0 then none else some (.int k (k.wrap (a.tdiv b)))
      |.rem=>if b=0 then none else some (.int k (a.tmod b))
      |.eql=>some (.bool (a==b))
      |.neq=>some (.bool (a != b))
      |.lss=>some (.bool (decide (a < b)))
      |.leq=>some (.bool (decide (a≤b)))
      |.gtr=>some (.bool (decide (a > b)))
      |.geq=>some (.bool (decide (a≥b)))
      |_=>none
    else none
  |.string a,.string b=>
    match op with
    |.add=>if a.size+b.size≤9223372036854775807 then some (.string (a++b)) else none
    |.eql=>some (.bool (a.toList==b.toList))
    |.neq=>some (.bool (!(a.toList==b.toList)))
    |.lss=>some (.bool (Op.bytesLess a.toList b.toList))
    |.leq=>some (.bool (Op.bytesLess a.toList b.toList||a.toList==b.toList))
    |.gtr=>some (.bool (!(Op.bytesLess a.toList b.toList||a.toList==b.toList)))
    |.geq=>some (.bool (!Op.bytesLess a.toList b.toList))
    |_=>none
  |.bool a,.bool b=>
    match op with
    |.eql=>if isBool P t then some (.bool (a==b)) else none
    |.neq=>if isBool P t then some (.bool (!(a==b))) else none
    |_=>none
  |_,_=>none
theorem isBool_ {P:Program}{t:TypeId} (h:isBool P t=true):P.underlying t=some .bool:=by
  unfold isBool at h
  split at h
  · assumption
  · cases h
theorem isStr_ {P:Program}{t:TypeId} (h:isStr P t=true):P.underlying t=some .string:=by
  unfold isStr at h
  split at h
  · assumption
  · cases h
theorem run_binD {P:Program}{op:BinOp}{t:TypeId}{x y v:Value} (h:binD P op t x y=some v) (X Y:Operand) (w:World):
    (do eqGuard op t X Y x y;binOp op t x y).run P w = .ok v w∧v.oneCell' = true:=by
  unfold binD at h
  split at h
  · rename_i k a k' b
    have hg:(eqGuard op t X Y (.int k a) (.int k' b)).run P w = .ok () w:=by
      unfold eqGuard
      cases op<;>simp
    split at h
    · rename_i hop
      subst hop
      split at h
      · rename_i hb
        injection h with h
        subst h
        exact ⟨by simp [hg,binOp,Op.shift,Int.not_lt.2 hb,bitI],rfl⟩
      · cases h
    split at h
    · rename_i hop
      subst hop
      split at h
      · rename_i hb
        injection h with h
        subst h
        exact ⟨by simp [hg,binOp,Op.shift,Int.not_lt.2 hb,bitI],rfl⟩
      · cases h
    split at h
    · rename_i hk
      subst hk
      cases op<;>simp only [reduceCtorEq,Option.some.injEq] at h<;>
        first
        |(subst h;refine ⟨?_,rfl⟩;simp only [Sem.run_bind,hg,Result.andThen_ok,binOp,ne_eq,not_true_eq_false,if_false,Op.intBits,bitI,Sem.run_pure];done)
        |(subst h;exact ⟨by simp [hg,binOp,Op.intArith,Op.intCmp],rfl⟩)
        | (split at h
           · cases h
           · rename_i hb
             injection h with h
             subst h
             exact ⟨by simp [hg, binOp, Op.intDiv, hb], rfl⟩)
        |contradiction
    · cases h
  · rename_i a b
    have hg:(eqGuard op t X Y (.string a) (.string b)).run P w = .ok () w:=by
      unfold eqGuard
      cases op<;>simp
    cases op<;>simp only [reduceCtorEq,Option.some.injEq] at h<;>
      first
      |(subst h;exact ⟨by simp [hg,binOp,Op.stringOp],rfl⟩)
      | (split at h
         · rename_i hb
           injection h with h
           subst h
           refine ⟨?_,rfl⟩
           have hb':¬ ((a.size+b.size:Nat):Int) > IntKind.i64.max:=by simp [IntKind.max,IntKind.signed,IntKind.bits];omega
           simp only [Sem.run_bind,hg,Result.andThen_ok,binOp,Op.stringOp,if_neg hb',Sem.run_pure]
         · cases h)
  · rename_i a b
    have hg:(eqGuard op t X Y (.bool a) (.bool b)).run P w = .ok () w:=by
      unfold eqGuard
      cases op<;>simp
    cases op<;>simp only [reduceCtorEq] at h<;>
      (split at h
       · rename_i hb
         injection h with h
         subst h
         refine ⟨?_,rfl⟩
         have hu:=isBool_ hb
         first
         |(have:=run_eql_bool (P:=P) w t a b hu;simp only [Sem.run_bind,hg,Result.andThen_ok];exact this)
         |(have:=run_neq_bool (P:=P) w t a b hu;simp only [Sem.run_bind,hg,Result.andThen_ok];rw [this])
       · cases h)
  · cases h
def unD (op:UnOp):Value→Option Value
  |.bool b=>match op with|.not=>some (.bool (!b))|_=>none
  |.int k n=>match op with|.neg=>some (.int k (k.wrap (0 - n)))|_=>none
  |_=>none
theorem run_unD {P:Program}{op:UnOp}{x v:Value} (h:unD op x=some v) (w:World):(Op.unary op x).run P w = .ok v w∧v.oneCell' = true:=by
  unfold unD at h
  split at h
  · split at h
    · injection h with h;subst h;exact ⟨by simp [Op.unary],rfl⟩
    · cases h
  · split at h
    · injection h with h;subst h;exact ⟨by simp [Op.unary,Op.intArith],rfl⟩
    · cases h
  · cases h
def pickD (t:Bool) (x y:D):D:=match x,y with|.sc (.bool p),.sc (.bool q)=>.sc (.bool (cond t p q))|x,y=>if t then x else y
theorem pickD_eq (t:Bool) (x y:D):pickD t x y=if t then x else y:=by
  unfold pickD
  split
  · cases t<;>rfl
  · rfl
/-- The length of a slice or a string. -/
def lenD:D→Option Nat
  |.sl n _=>some n
  |.own _ _ n=>some n
  |.sc (.string s)=>some s.size
  |.sc (.slice _ n _)=>some n
  |_=>none
def idxD (P:Program) (t:TypeId) (x:D) (i:D):Option D:=
  match i,elemK P t with
  |.sc (.int _ k),some (_,size)=>
    match x with
    |.sl n cs=>if 0≤k∧k < (n:Int)∧k.toNat*size < cs.length then some (.cptr cs (k.toNat*size)) else none
    |.own j off n=>if 0≤k∧k < (n:Int) then some (.ptr j (off+k.toNat*size)) else none
    |_=>none
  |_,_=>none
def fldD (P:Program) (t:TypeId) (f:Nat):D→Option D
  |.ptr i o=>(fldK P t f).map fun off=>.ptr i (o+off)
  |.cptr cs o=>(fldK P t f).map fun off=>.cptr cs (o+off)
  |_=>none
/-- len of one thing. -/
def lenOp (P:Program) (s:St) (xs:Array Operand) (ts:Array TypeId):Option D:=
  match xs.toList,ts.toList with
  | [x], [t]=>match s.ev x with
    |.sc (.string b)=>if isStr P t then some (.sc (.int .i64 b.size)) else none
    |d=>match lenD d,elemK P t with|some n,some _=>some (.sc (.int .i64 n))|_,_=>none
  |_,_=>none
theorem val_move {X:Ctx}{P:Program}{o:Oper}{s:St}{x:Operand} (ho:o.op = .move x∨o.op = .assign x):ValAt X P o s (s.ev x):=
  fun E a w hr=>⟨a.eval x,hr.ev x,fun w' _=>by rcases ho with ho|ho<;>simp [execOp,ho]⟩
theorem awop_alloc {X:Ctx}{P:Program}{o:Oper}{s:St}{t:TypeId} (ho:o.op = .alloc t) {z:Value} (hz:zeroK P t=some z) (h1:z.cells.toList.all Value.oneCell' = true):
    AwOp X P o s ((s.newOb ⟨t,z.cells.size,1,z.cells.toList.map .sc⟩).put o.dst (.ptr s.nb 0)):=by
  refine awop_new (sc_nt _) fun E a w hr=>⟨z.cells,1,.pointer (some ⟨w.heap.size,0,none⟩),?_,by simp,Nat.le_refl _,by unfold maxLen;omega,by simp,fun j d hd=>?_,⟨_,Env.with_at,rfl⟩⟩
  · unfold zeroK at hz
    cases hi:P.info? t with
    |none=>rw [hi] at hz;cases hz
    |some i=>
      rw [hi] at hz
      have hz':i.zero=some z:=hz
      simp [execOp,ho,Instr.alloc,zeroValue,run_typeInfo w hi,hz',newVar,newRow]
  · rw [List.getElem?_map] at hd
    cases hj:z.cells.toList[j]? with
    |none=>rw [hj] at hd;cases hd
    |some u=>
      rw [hj] at hd
      have:D.sc u=d:=by simpa using hd
      subst this
      rw [Array.getElem?_toList] at hj
      have hu:u.oneCell' = true:=by
        have hm:u ∈ z.cells.toList:=by simpa using Array.mem_of_getElem? hj
        exact List.all_eq_true.1 h1 u hm
      exact ⟨u,hj,hu,rfl,hu⟩
theorem awop_box {X:Ctx}{P:Program}{o:Oper}{s:St}{t:TypeId}{x:Operand} (ho:o.op = .box t x) (hk:(s.ev x).known=true):
    AwOp X P o s ((s.newOb ⟨t,(s.ev x).cells.length,1,(s.ev x).cells⟩).put o.dst (.ptr s.nb 0)):=by
  refine awop_new (known_nt hk) fun E a w hr=>?_
  obtain ⟨h1,h2⟩:=rep_cells (hr.ev x) hk
  refine ⟨(a.eval x).cells,1,.pointer (some ⟨w.heap.size,0,none⟩),?_,by simp,Nat.le_refl _,by unfold maxLen;omega,by simpa using h1,fun j d hd=>h2 j d hd,⟨_,Env.with_at,rfl⟩⟩
  simp [execOp,ho,Instr.box,newVar,newRow]
theorem run_fieldAt_of {P:Program}{t:TypeId}{f off:Nat} (h:fldK P t f=some off) (g o:Nat) (w:World):
    (Instr.fieldAt t (.pointer (some ⟨g,o,none⟩)) f).run P w = .ok (.pointer (some ⟨g,o+off,none⟩)) w:=by
  unfold fldK at h
  split at h
  · rename_i fs hu
    split at h
    · rename_i x hx
      split at h
      · rename_i i hi
        split at h
        · cases h
        · rename_i hne
          injection h with h
          subst h
          have hs:(Go.sizeOf x.type).run P w = .ok i.size w:=by simp [Go.sizeOf,run_typeInfo w hi]
          simp [Instr.fieldAt,run_underlying hu,hx,Instr.sureAddr,fieldPlace,hs,hne,Addr.add_lit]
      · cases h
    · cases h
  · cases h
theorem val_field {X:Ctx}{P:Program}{o:Oper}{s:St}{t:TypeId}{x:Operand}{f:Nat} (ho:o.op = .fieldAddr t x f) {d:D} (h:fldD P t f (s.ev x)=some d):ValAt X P o s d:=by
  intro E a w hr
  have hx:=hr.ev x
  cases hd:s.ev x with
  |ptr i k=>
    rw [hd] at h hx
    obtain ⟨l,hl,hp⟩:=hx
    simp only [fldD] at h
    cases hf:fldK P t f with
    |none=>rw [hf] at h;cases h
    |some off=>
      rw [hf] at h
      injection h with h
      subst h
      exact ⟨.pointer (some ⟨l.g,k+off,none⟩),⟨l,hl,rfl⟩,fun w' _=>by simp only [execOp,ho,hp];simp [run_fieldAt_of hf]⟩
  |cptr cs k=>
    rw [hd] at h hx
    obtain ⟨b,oo,us,hp,h1,h2,h3,h4⟩:=hx
    simp only [fldD] at h
    cases hf:fldK P t f with
    |none=>rw [hf] at h;cases h
    |some off=>
      rw [hf] at h
      injection h with h
      subst h
      exact ⟨.pointer (some ⟨b,oo+k+off,none⟩),⟨b,oo,us,by rw [Nat.add_assoc],h1,h2,h3,h4⟩,fun w' _=>by simp only [execOp,ho,hp];simp [run_fieldAt_of hf]⟩
  |_=>rw [hd] at h;cases h
theorem elemK_ {P:Program}{t:TypeId}{e size:Nat} (h:elemK P t=some (e,size)):P.underlying t=some (.slice e)∧∀ w,(Go.sizeOf e).run P w = .ok size w:=by
  unfold elemK at h
  split at h
  · rename_i e' hu
    cases hi:P.info? e' with
    |none=>rw [hi] at h;cases h
    |some i=>
      rw [hi] at h
      simp only [Option.map_some,Option.some.injEq,Prod.mk.injEq] at h
      obtain ⟨rfl,rfl⟩:=h
      exact ⟨hu,fun w=>by simp [Go.sizeOf,run_typeInfo w hi]⟩
  · cases h
theorem run_indexAt_of {P:Program}{t e size:Nat} (h:elemK P t=some (e,size)) (g o n c:Nat) (q:IntKind) (k:Int) (h0:0≤k) (h1:k < (n:Int)) (w:World):
    (Instr.indexAt t (.slice (some ⟨g,o,none⟩) n c) (.int q k)).run P w = .ok (.pointer (some ⟨g,o+k.toNat*size,none⟩)) w:=by
  obtain ⟨hu,hs⟩:=elemK_ h
  simp [Instr.indexAt,asIntOf,run_underlying hu,h0,h1,hs,Addr.add_lit]
theorem val_index {X:Ctx}{P:Program}{o:Oper}{s:St}{t:TypeId}{x i:Operand} (ho:o.op = .indexAddr t x i) {d:D} (h:idxD P t (s.ev x) (s.ev i)=some d):ValAt X P o s d:=by
  intro E a w hr
  have hx:=hr.ev x
  have hi:=hr.ev i
  unfold idxD at h
  split at h
  · rename_i q k e size hd1 he
    rw [hd1] at hi
    have hi':a.eval i = .int q k:=hi.1
    split at h
    · rename_i n cs hd
      rw [hd] at hx
      split at h
      · rename_i hc
        injection h with h
        subst h
        cases hx':a.eval x with
        |slice A n' c=>
          rw [hx'] at hx
          have hx2:RepP E.ro w (.sl n cs) (.slice A n' c):=hx
          cases hx2 with
          |sl _ _ _ _ us hl hn hcm hcell hrep=>
            obtain ⟨b,oo,rfl,hb,_⟩:=hcell 0 (us[0]'(by omega)) (List.getElem?_eq_getElem _)
            refine ⟨.pointer (some ⟨b,oo+k.toNat*size,none⟩),⟨b,oo,us,rfl,hb,hl,fun j v hv=>?_,hrep⟩,fun w' _=>by simp only [execOp,ho,hx',hi'];simp [run_indexAt_of he b oo n c q k hc.1 hc.2.1]⟩
            obtain ⟨b',o',e1,_,h5⟩:=hcell j v hv
            injection e1 with e1
            injection e1 with e1 e2
            subst e1;subst e2
            exact h5
        |_=>rw [hx'] at hx;cases hx
      · cases h
    · rename_i j off n hd
      rw [hd] at hx
      split at h
      · rename_i hc
        injection h with h
        subst h
        rcases hx with ⟨l,c,hl,hv,_⟩|⟨_,_,hn,_⟩
        · exact ⟨.pointer (some ⟨l.g,off+k.toNat*size,none⟩),⟨l,hl,rfl⟩,fun w' _=>by simp only [execOp,ho,hv,hi'];simp [run_indexAt_of he l.g off n c q k hc.1 hc.2]⟩
        · omega
      · cases h
    · cases h
  · cases h
theorem val_len {X:Ctx}{P:Program}{o:Oper}{s:St}{xs:Array Operand}{ts:Array TypeId} (ho:o.op = .call { callee:=.builtin .len,args:=xs,argTypes:=ts }) {d:D} (h:lenOp P s xs ts=some d):ValAt X P o s d:=by
  unfold lenOp at h
  split at h
  · rename_i x t hx ht
    obtain rfl:xs=#[x]:=by rw [← Array.toArray_toList (xs:=xs),hx]
    obtain rfl:ts=#[t]:=by rw [← Array.toArray_toList (xs:=ts),ht]
    intro E a w hr
    have h1:=hr.ev x
    have hex:∀ w',(execOp a.eval o).run P w' = ((Builtin.len_ #[t] o.type #[a.eval x]).run P w').andThen fun v w=>.ok (.value v) w:=by
      intro w'
      simp [execOp,ho,resolve,invoke,builtin]
    split at h
    · rename_i b hb
      rw [hb] at h1
      have h3:a.eval x = .string b:=h1.1
      split at h
      · rename_i hst
        injection h with h;subst h
        refine ⟨_,⟨rfl,rfl⟩,fun w' _=>?_⟩
        rw [hex,h3,run_len_string w' t o.type b (isStr_ hst)]
        rfl
      · cases h
    · rename_i dd hdd
      split at h
      · rename_i n e hn he
        injection h with h;subst h
        obtain ⟨e,size⟩:=e
        obtain ⟨hu,_⟩:=elemK_ he
        have hsl:∃ A c,a.eval x = .slice A n c:=by
          cases hd:s.ev x with
          |sl m cs=>
            rw [hd] at hn h1
            injection hn with hn;subst hn
            cases hv:a.eval x with
            |slice A m' c=>
              rw [hv] at h1
              have h2:RepP E.ro w (.sl m cs) (.slice A m' c):=h1
              cases h2
              exact ⟨_,_,rfl⟩
            |_=>rw [hv] at h1;cases h1
          |own i off m=>
            rw [hd] at hn h1
            injection hn with hn;subst hn
            rcases h1 with ⟨l,c,_,h2,_⟩|⟨_,_,rfl,h2⟩
            · exact ⟨_,_,h2⟩
            · exact ⟨_,_,h2⟩
          |sc v=>
            rw [hd] at hn h1
            cases v with
            |slice A m c=>
              injection hn with hn;subst hn
              exact ⟨_,_,h1.1⟩
            |string b=>exact absurd hd (hdd b)
            |_=>cases hn
          |_=>rw [hd] at hn;cases hn
        obtain ⟨A,c,hv⟩:=hsl
        refine ⟨_,⟨rfl,rfl⟩,fun w' _=>?_⟩
        have hu':P.underlying t=some (.slice (P.elem t)):=by rw [hu];simp [Program.elem,hu]
        rw [hex,hv,run_len_slice w' t o.type A n c hu']
        rfl
      · cases h
  · cases h
def intK (P:Program) (t:TypeId):Option IntKind:=match P.underlying t with|some (.int k)=>some k|_=>none
theorem intK_ {P:Program}{t:TypeId}{k:IntKind} (h:intK P t=some k):P.underlying t=some (.int k):=by
  unfold intK at h
  split at h
  · rename_i hu
    injection h with h
    subst h
    exact hu
  · cases h
/-- Between numbers, or between strings. -/
def convD (P:Program) (src dst:TypeId):D→Option D
  |.sc (.int _ n)=>match intK P src,intK P dst with|some _,some k=>some (.sc (.int k (k.wrap n)))|_,_=>none
  |.sc (.string b)=>if isStr P src&&isStr P dst then some (.sc (.string b)) else none
  |_=>none
theorem val_conv {X:Ctx}{P:Program}{o:Oper}{s:St}{src dst:TypeId}{x:Operand} (ho:o.op = .convert src dst x) {d:D} (h:convD P src dst (s.ev x)=some d):ValAt X P o s d:=by
  intro E a w hr
  have hx:=hr.ev x
  unfold convD at h
  split at h
  · rename_i q n hd
    rw [hd] at hx
    have hx':a.eval x = .int q n:=hx.1
    split at h
    · rename_i k1 k2 h1 h2
      injection h with h
      subst h
      exact ⟨_,⟨rfl,rfl⟩,fun w' _=>by simp [execOp,ho,hx',Go.convert,run_underlying (intK_ h1),run_underlying (intK_ h2),Conv.intToInt]⟩
    · cases h
  · rename_i b hd
    rw [hd] at hx
    have hx':a.eval x = .string b:=hx.1
    split at h
    · rename_i hs
      simp only [Bool.and_eq_true] at hs
      injection h with h
      subst h
      exact ⟨_,⟨rfl,rfl⟩,fun w' _=>by simp [execOp,ho,hx',Go.convert,run_underlying (isStr_ hs.1),run_underlying (isStr_ hs.2)]⟩
    · cases h
  · cases h
attribute [irreducible] bitI
def placesK (P:Program) (t:TypeId):Option (List (Nat × Nat)):=match P.underlying t with
  |some (.struct fields)=>fields.toList.mapM (fun f=>(P.info? f.type).map fun i=>(f.offset,i.size))
  |_=>none
def fillD (place:Nat→Option (Nat × Nat)):List D→List (Nat × D)→Option (List D)
  |cs, []=>some cs
  |cs,(i,d)::rest=>match place i with
    |some (off,size)=>if d.known=true∧d.cells.length=size∧off+size≤cs.length then fillD place (setL cs off d.cells) rest else none
    |none=>none
def zeroD (z:Value):List D:=z.cells.toList.map .sc
def buildD (P:Program) (s:St) (t:TypeId) (parts:Array (Nat × Operand)):Option D:=
  match zeroK P t,placesK P t with
  |some z,some places=>if z.cells.toList.all Value.oneCell' = true then (fillD (fun i=>places[i]?) (zeroD z) (parts.toList.map fun p=>(p.1,s.ev p.2))).map .agg else none
  |_,_=>none
theorem fill_sound {X:Ctx}{s:St}{E:Env}{a:Act}{w:World} (hr:Rel X s E a w) {place:Nat→Option (Nat × Nat)}:∀ {parts:List (Nat × Operand)}{cs out:List D}{cells:Array Value},
    fillD place cs (parts.map fun p=>(p.1,s.ev p.2))=some out→cells.size=cs.length→(∀ (j:Nat) (d:D),cs[j]? = some d→∃ v,cells[j]? = some v∧v.oneCell' = true∧Rep1 E w d v)→
    ∃ cells',Instr.fill place cells (parts.map fun p=>(p.1,a.eval p.2))=some cells'∧cells'.size=out.length∧∀ (j:Nat) (d:D),out[j]? = some d→∃ v,cells'[j]? = some v∧v.oneCell' = true∧Rep1 E w d v
  | [],cs,out,cells,h,hsz,hc=>by
    injection h with h
    subst h
    exact ⟨cells,rfl,hsz,hc⟩
  |(i,x)::parts,cs,out,cells,h,hsz,hc=>by
    rw [List.map_cons] at h ⊢
    unfold fillD at h
    unfold Instr.fill
    simp only at h ⊢
    cases hp:place i with
    |none=>rw [hp] at h;cases h
    |some os=>
      obtain ⟨off,size⟩:=os
      rw [hp] at h
      simp only at h ⊢
      split at h
      · rename_i hk
        obtain ⟨h1,h2,h3⟩:=hk
        obtain ⟨h4,h5⟩:=rep_cells (hr.ev x) h1
        rw [if_neg (by rw [h4,h2];simp;omega)]
        obtain ⟨h6,h7⟩:=Great.foldl_set off (a.eval x).cells.toList 0 cells
        have he:((a.eval x).cells.zipIdx.foldl (fun cs (c,j)=>cs.setIfInBounds (off+j) c) cells)=(((a.eval x).cells.toList.zipIdx 0).foldl (fun cs (x:Value × Nat)=>cs.setIfInBounds (off+x.2) x.1) cells):=by
          rw [← Array.foldl_toList,Array.toList_zipIdx]
        rw [he]
        refine fill_sound hr h (by rw [h6,setL_len,hsz]) fun j d hd=>?_
        rw [setL_at _ _ _ _ (by omega)] at hd
        rw [h7]
        have hl:(a.eval x).cells.toList.length=(s.ev x).cells.length:=by simpa using h4
        by_cases hj:off≤j∧j < off+(s.ev x).cells.length
        · rw [if_pos hj] at hd
          rw [if_pos (by omega),Nat.add_zero]
          obtain ⟨v,h8,h9⟩:=h5 _ _ hd
          exact ⟨v,by rw [Array.getElem?_toList];exact h8,h9⟩
        · rw [if_neg hj] at hd
          rw [if_neg (by omega)]
          exact hc j d hd
      · cases h
theorem zero_cells {E:Env}{w:World}{z:Value} (h1:z.cells.toList.all Value.oneCell' = true):z.cells.size=(zeroD z).length∧∀ (j:Nat) (d:D),(zeroD z)[j]? = some d→∃ v,z.cells[j]? = some v∧v.oneCell' = true∧Rep1 E w d v:=by
  refine ⟨by simp [zeroD],fun j d hd=>?_⟩
  unfold zeroD at hd
  rw [List.getElem?_map] at hd
  cases hj:z.cells.toList[j]? with
  |none=>rw [hj] at hd;cases hd
  |some u=>
    rw [hj] at hd
    have:D.sc u=d:=by simpa using hd
    subst this
    rw [Array.getElem?_toList] at hj
    have hu:u.oneCell' = true:=by
      have hm:u ∈ z.cells.toList:=by simpa using Array.mem_of_getElem? hj
      exact List.all_eq_true.1 h1 u hm
    exact ⟨u,hj,hu,rfl,hu⟩
theorem val_build {X:Ctx}{P:Program}{o:Oper}{s:St}{t:TypeId}{parts:Array (Nat × Operand)} (ho:o.op = .build t parts) {d:D} (h:buildD P s t parts=some d):ValAt X P o s d:=by
  intro E a w hr
  unfold buildD at h
  split at h
  · rename_i z places hz hpl
    split at h
    · rename_i h1
      cases hf:fillD (fun i=>places[i]?) (zeroD z) (parts.toList.map fun p=>(p.1,s.ev p.2)) with
      |none=>rw [hf] at h;cases h
      |some out=>
        rw [hf] at h
        injection h with h
        subst h
        obtain ⟨h2,h3⟩:=zero_cells (E:=E) (w:=w) h1
        obtain ⟨cells',h4,h5,h6⟩:=fill_sound hr hf h2 h3
        have hb:P.built t (parts.map fun (i,x)=>(i,a.eval x)).toList=some cells':=by
          unfold zeroK at hz
          unfold placesK at hpl
          cases hi:P.info? t with
          |none=>rw [hi] at hz;cases hz
          |some it=>
            rw [hi] at hz
            have hz':it.zero=some z:=hz
            split at hpl
            · rename_i fields hu
              unfold Program.built
              simp only [hi,hu,hz',hpl]
              rw [Array.toList_map]
              simpa using h4
            · cases hpl
        refine ⟨.agg cells',⟨cells'.toList,by simp,by simpa using h5,fun j d v hd hv=>?_⟩,fun w' _=>by simp only [execOp,ho,Sem.run_bind,run_build w' t _ _ hb,Result.andThen_ok];rfl⟩
        obtain ⟨v',h7,h8,h9⟩:=h6 j d hd
        rw [Array.getElem?_toList,h7] at hv
        injection hv with hv
        subst hv
        exact ⟨h9,h8⟩
    · cases h
  · cases h
def rowD (zs:List D):Nat→List D
  |0=> []
  |n+1=>zs++rowD zs n
theorem rowD_len (zs:List D):∀ n,(rowD zs n).length=n*zs.length
  |0=>by simp [rowD]
  |n+1=>by rw [rowD,List.length_append,rowD_len zs n,Nat.add_mul,Nat.one_mul,Nat.add_comm]
theorem rowD_at (zs:List D):∀ n k,k < n*zs.length→(rowD zs n)[k]? = zs[k % zs.length]?
  |0,k,h=>by simp at h
  |n+1,k,h=>by
    rw [rowD]
    by_cases hk:k < zs.length
    · rw [List.getElem?_append_left hk,Nat.mod_eq_of_lt hk]
    · rw [List.getElem?_append_right (by omega),rowD_at zs n (k - zs.length) (by rw [Nat.add_mul] at h;omega),← Nat.mod_eq_sub_mod (by omega)]
def buildSliceD (P:Program) (s:St) (t:TypeId) (len:Nat) (parts:Array (Nat × Operand)):Option Ob:=
  match elemK P t with
  |some (e,size)=>match zeroK P e with
    |some z=>if z.cells.toList.all Value.oneCell' = true∧(zeroD z).length=size∧0 < size∧len*size≤16777216 then (fillD (fun i=>some (i*size,size)) (rowD (zeroD z) len) (parts.toList.map fun p=>(p.1,s.ev p.2))).map fun cs=>⟨e,size,len,cs⟩ else none
    |none=>none
  |none=>none
theorem fillD_len {place:Nat→Option (Nat × Nat)}:∀ {parts:List (Nat × D)}{cs out:List D},fillD place cs parts=some out→out.length=cs.length
  | [],cs,out,h=>by injection h with h;rw [h]
  |(i,d)::parts,cs,out,h=>by
    unfold fillD at h
    split at h
    · split at h
      · rw [fillD_len h,setL_len]
      · cases h
    · cases h
theorem setL_nt:∀ (ds cs:List D) (o:Nat),cs.all D.nt=true→ds.all D.nt=true→(setL cs o ds).all D.nt=true
  | [],_,_,h,_=>h
  |d::ds,cs,o,h,hd=>by
    rw [List.all_cons,Bool.and_eq_true] at hd
    rw [setL]
    refine setL_nt ds _ _ ?_ hd.2
    refine List.all_eq_true.2 fun e he=>?_
    rcases List.mem_or_eq_of_mem_set he with h1|h1
    · exact List.all_eq_true.1 h e h1
    · rw [h1];exact hd.1
theorem rowD_nt {zs:List D} (h:zs.all D.nt=true):∀ n,(rowD zs n).all D.nt=true
  |0=>rfl
  |n+1=>by rw [rowD,List.all_append,h,rowD_nt h n];rfl
theorem fillD_nt {place:Nat→Option (Nat × Nat)}:∀ {parts:List (Nat × D)}{cs out:List D},cs.all D.nt=true→fillD place cs parts=some out→out.all D.nt=true
  | [],cs,out,h0,h=>by injection h with h;rw [← h];exact h0
  |(i,d)::parts,cs,out,h0,h=>by
    unfold fillD at h
    split at h
    · split at h
      · rename_i hc
        exact fillD_nt (setL_nt _ _ _ h0 (known_nt hc.1)) h
      · cases h
    · cases h
theorem awop_buildSlice {X:Ctx}{P:Program}{o:Oper}{s:St}{t:TypeId}{len:Nat}{parts:Array (Nat × Operand)} (ho:o.op = .buildSlice t len parts) {x:Ob} (h:buildSliceD P s t len parts=some x):
    AwOp X P o s ((s.newOb x).put o.dst (.own s.nb 0 len)):=by
  unfold buildSliceD at h
  split at h
  · rename_i e size he
    split at h
    · rename_i z hz
      split at h
      · rename_i hc
        obtain ⟨h1,h2,h3,h4⟩:=hc
        cases hf:fillD (fun i=>some (i*size,size)) (rowD (zeroD z) len) (parts.toList.map fun p=>(p.1,s.ev p.2)) with
        |none=>rw [hf] at h;cases h
        |some out=>
          rw [hf] at h
          injection h with h
          subst h
          refine awop_new (fillD_nt (rowD_nt (sc_nt _) _) hf) fun E a w hr=>?_
          obtain ⟨hu,hs⟩:=elemK_ he
          obtain ⟨h5,h6⟩:=zero_cells (E:=E) (w:=w) h1
          have hzl:z.cells.size=size:=h5.trans h2
          have hzv:(zeroValue e).run P w = .ok z w:=by
            unfold zeroK at hz
            cases hi:P.info? e with
            |none=>rw [hi] at hz;cases hz
            |some it=>
              rw [hi] at hz
              have hz':it.zero=some z:=hz
              simp [zeroValue,run_typeInfo w hi,hz']
          have hcells:∀ (j:Nat) (d:D),(rowD (zeroD z) len)[j]? = some d→∃ v,((Array.range (len*size)).map fun k=>z.cells[k % z.cells.size]!)[j]? = some v∧v.oneCell' = true∧Rep1 E w d v:=by
            intro j d hd
            have hj:j < len*size:=by
              have:=(List.getElem?_eq_some_iff.1 hd).1
              rw [rowD_len,h2] at this
              exact this
            rw [rowD_at _ _ _ (by rw [h2];exact hj),h2] at hd
            obtain ⟨v,h7,h8⟩:=h6 _ d hd
            refine ⟨v,?_,h8⟩
            simp [hj,hzl,getElem!_def,h7]
          obtain ⟨cells',h7,h8,h9⟩:=fill_sound hr hf (cells:=(Array.range (len*size)).map fun k=>z.cells[k % z.cells.size]!) (by simp [rowD_len,h2]) hcells
          have hol:out.length=len*size:=by rw [fillD_len hf,rowD_len,h2]
          refine ⟨cells',len,.slice (some ⟨w.heap.size,0,none⟩) len len,?_,hol,Nat.le_refl _,?_,h8.trans hol,h9,.inl ⟨_,len,Env.with_at,rfl,Nat.le_refl _,?_,fun _=>rfl⟩⟩
          · have hp:(parts.map fun (i,x)=>(i,a.eval x)).toList=parts.toList.map fun p=>(p.1,a.eval p.2):=by simp
            have hgo:(Instr.buildSlice t len (parts.map fun (i,x)=>(i,a.eval x))).run P w = .ok (.slice (some ⟨w.heap.size,0,none⟩) len len) (w.alloc (.cells cells' e)):=by
              unfold Instr.buildSlice
              simp only [Sem.run_bind,run_underlying hu,Result.andThen_ok,hs,hp]
              rw [if_neg (by omega)]
              by_cases h0:len*size=0
              · have hl0:len=0:=by
                  rcases Nat.mul_eq_zero.1 h0 with h|h
                  · exact h
                  · omega
                subst hl0
                simp only [Nat.zero_mul] at h7 ⊢
                simp only [if_true,Sem.run_bind,Sem.run_pure,Result.andThen_ok]
                have e1:(Array.range 0).map (fun k=>(#[]:Array Value)[k % (#[]:Array Value).size]!)=(Array.range 0).map fun k=>z.cells[k % z.cells.size]! :=by simp
                rw [e1,h7]
                simp [newRow]
              · simp only [if_neg h0,Sem.run_bind,hzv,Result.andThen_ok,Sem.run_pure,h7]
                simp [newRow]
            simp only [execOp,ho,Sem.run_bind,hgo,Result.andThen_ok]
            rfl
          · have:len≤len*size:=Nat.le_mul_of_pos_right _ h3
            show len≤maxLen
            unfold maxLen
            omega
          · have:len≤len*size:=Nat.le_mul_of_pos_right _ h3
            unfold maxLen
            omega
      · cases h
    · cases h
  · cases h
def bndD (s:St) (dflt:Nat):Option Operand→Option Nat
  |none=>some dflt
  |some x=>match s.ev x with|.sc (.int _ k)=>if 0≤k then some k.toNat else none|_=>none
def sliceD (P:Program) (s:St) (t:TypeId) (x:Operand) (lo hi:Option Operand):Option D:=
  match s.ev x with
  |.sc (.string b)=>match isStr P t,bndD s b.size hi,bndD s 0 lo with
    |true,some h,some l=>if l≤h∧h≤b.size then some (.sc (.string (b.extract l h))) else none
    |_,_,_=>none
  |.own i off n=>match elemK P t,bndD s n hi,bndD s 0 lo with
    |some (_,size),some h,some l=>if l≤h∧h≤n∧0 < size∧(l=0∨l < n) then some (.own i (off+l*size) (h - l)) else if (l=n∧h=n)∧0 < size then some (.sl 0 []) else none
    |_,_,_=>none
  |.sl n cs=>match elemK P t,bndD s n hi,bndD s 0 lo with
    |some (_,size),some h,some l=>if l≤h∧h≤n∧0 < size∧cs.length=n*size then some (.sl (h - l) ((cs.drop (l*size)).take ((h - l)*size))) else none
    |_,_,_=>none
  |_=>none
theorem bnd_run {X:Ctx}{s:St}{E:Env}{a:Act}{w:World} (hr:Rel X s E a w) {dflt n:Nat}{x:Option Operand} (h:bndD s dflt x=some n):
    (x=none∧n=dflt)∨∃ y q,x=some y∧a.eval y = .int q n:=by
  cases x with
  |none=>injection h with h;exact .inl ⟨rfl,h.symm⟩
  |some y=>
    right
    have h:(match s.ev y with|.sc (.int _ k)=>if 0≤k then some k.toNat else none|_=>none)=some n:=h
    split at h
    · rename_i q k hd
      split at h
      · rename_i h0
        injection h with h
        subst h
        have hy:=hr.ev y
        rw [hd] at hy
        exact ⟨y,q,rfl,by rw [hy.1,Int.toNat_of_nonneg h0]⟩
      · cases h
    · cases h
theorem bounds_run {X:Ctx}{P:Program}{s:St}{E:Env}{a:Act}{w:World} (hr:Rel X s E a w) {len cap h l:Nat}{lo hi:Option Operand} (hh:bndD s len hi=some h) (hl:bndD s 0 lo=some l) (h1:l≤h) (h2:h≤cap) (b:Bool) (w':World):
    (Instr.sliceBounds b len cap (lo.map a.eval) (hi.map a.eval) none).run P w' = .ok (l,h,cap) w':=by
  rcases bnd_run hr hh with ⟨rfl,rfl⟩|⟨y,q,rfl,hy⟩<;>rcases bnd_run hr hl with ⟨rfl,rfl⟩|⟨z,q',rfl,hz⟩
  · simp [Instr.sliceBounds]
  · simp [Instr.sliceBounds,Instr.sliceBound,asIntOf,hz,h1]
  · simp [Instr.sliceBounds,Instr.sliceBound,asIntOf,hy,h2]
  · simp [Instr.sliceBounds,Instr.sliceBound,asIntOf,hy,hz,h1,h2]
theorem val_slice {X:Ctx}{P:Program}{o:Oper}{s:St}{t:TypeId}{x:Operand}{lo hi:Option Operand} (ho:o.op = .slice t x lo hi none) {d:D} (h:sliceD P s t x lo hi=some d):ValAt X P o s d:=by
  intro E a w hr
  have hx:=hr.ev x
  unfold sliceD at h
  split at h
  · rename_i b hd
    rw [hd] at hx
    have hx':a.eval x = .string b:=hx.1
    split at h
    · rename_i hh ll hst h1 h2
      split at h
      · rename_i hc
        injection h with h
        subst h
        refine ⟨_,⟨rfl,rfl⟩,fun w' _=>?_⟩
        have hb:=bounds_run (P:=P) hr h1 h2 hc.1 hc.2 false w'
        simp [execOp,ho,hx',Instr.sliceAt,Instr.slice,run_underlying (isStr_ hst),hb]
      · cases h
    · cases h
  · rename_i i off n hd
    rw [hd] at hx
    split at h
    · rename_i e size hh ll he h1 h2
      split at h
      · rename_i hc
        obtain ⟨c1,c2,c3,c4⟩:=hc
        injection h with h
        subst h
        obtain ⟨hu,hs⟩:=elemK_ he
        rcases hx with ⟨l,c,hl,hv,hnc,hcm,hcc⟩|⟨hnone,h0,hn,hv⟩
        · have hb:=fun w'=>bounds_run (P:=P) hr h1 h2 c1 (Nat.le_trans c2 hnc) true w'
          refine ⟨.slice (some ⟨l.g,off+ll*size,none⟩) (hh - ll) (c - ll),.inl ⟨l,c - ll,hl,rfl,by omega,by omega,fun h0=>?_⟩,fun w' _=>?_⟩
          · have:ll*size=0:=by omega
            rcases Nat.mul_eq_zero.1 this with h5|h5
            · rw [h5,Nat.sub_zero]
              exact hcc (by omega)
            · omega
          · have hlc:c=ll→off+ll*size=off:=by
              intro e
              have:ll=0:=by omega
              rw [this];simp
            simp only [execOp,ho,hv,Instr.sliceAt,Instr.slice,Sem.run_bind,run_underlying hu,Result.andThen_ok,Option.map_none,hb,hs,Sem.run_pure]
            split
            · rename_i e
              rw [hlc e]
            · simp [Addr.add_lit]
        · subst hn
          have hl0:ll=0:=by omega
          have hh0:hh=0:=by omega
          subst hl0;subst hh0
          have hb:=fun w'=>bounds_run (P:=P) hr h1 h2 (Nat.le_refl 0) (Nat.le_refl 0) true w'
          refine ⟨.slice none 0 0,.inr ⟨hnone,by simp [h0],rfl,rfl⟩,fun w' _=>?_⟩
          simp only [execOp,ho,hv,Instr.sliceAt,Instr.slice,Sem.run_bind,run_underlying hu,Result.andThen_ok,Option.map_none,hb,hs,Sem.run_pure]
          rfl
      · rename_i hc0
        split at h
        · rename_i hc
          obtain ⟨⟨c1,c2⟩,c3⟩:=hc
          injection h with h
          subst h
          obtain ⟨hu,hs⟩:=elemK_ he
          have hpos:0 < n:=by
            rcases Nat.eq_zero_or_pos n with h9|h9
            · exact absurd ⟨by omega,by omega,c3,.inl (by omega)⟩ hc0
            · exact h9
          rcases hx with ⟨l,c,hl,hv,hnc,hcm,hcc⟩|⟨hnone,h0,hn,hv⟩
          · have hb:=fun w'=>bounds_run (P:=P) hr h1 h2 (Nat.le_of_eq (c1.trans c2.symm)) (by omega:hh≤c) true w'
            refine ⟨.slice (if c=ll then some ⟨l.g,off,none⟩ else (some ⟨l.g,off,none⟩:Option Addr).map (·.add (ll*size))) (hh - ll) (c - ll),?_,fun w' _=>?_⟩
            · have e:hh - ll=0:=by omega
              rw [e]
              exact RepP.sl _ _ _ _ [] rfl (Nat.zero_le _) (by omega) (fun j u hu'=>by simp at hu') (fun j d u hd' hu'=>by simp at hu')
            · simp only [execOp,ho,hv,Instr.sliceAt,Instr.slice,Sem.run_bind,run_underlying hu,Result.andThen_ok,Option.map_none,hb,hs,Sem.run_pure]
          · omega
        · cases h
    · cases h
  · rename_i n cs hd
    rw [hd] at hx
    split at h
    · rename_i e size hh ll he h1 h2
      split at h
      · rename_i hc
        obtain ⟨c1,c2,c3,c5⟩:=hc
        injection h with h
        subst h
        obtain ⟨hu,hs⟩:=elemK_ he
        cases hv:a.eval x with
        |slice A n' c=>
          rw [hv] at hx
          have hx2:RepP E.ro w (.sl n cs) (.slice A n' c):=hx
          cases hx2 with
          |sl _ _ _ _ us hul hnc hcm hcell hrep=>
            have hb:=fun w'=>bounds_run (P:=P) hr h1 h2 c1 (Nat.le_trans c2 hnc) true w'
            refine ⟨.slice (if c=ll then A else A.map (·.add (ll*size))) (hh - ll) (c - ll),RepP.sl _ _ _ _ ((us.drop (ll*size)).take ((hh - ll)*size)) (by simp [hul]) (by omega) (by omega) (fun j u hu'=>?_) (fun j d u hd' hu'=>?_),fun w' _=>?_⟩
            · rw [List.getElem?_take] at hu'
              split at hu'
              · rename_i hjj
                rw [List.getElem?_drop] at hu'
                obtain ⟨b,oo,rfl,hb',h6⟩:=hcell _ u hu'
                by_cases e:c=ll
                · exfalso
                  have h0:hh - ll=0:=by omega
                  rw [h0,Nat.zero_mul] at hjj
                  omega
                · exact ⟨b,oo+ll*size,by rw [if_neg e];simp [Addr.add_lit],hb',by rw [Nat.add_assoc];exact h6⟩
              · cases hu'
            · rw [List.getElem?_take] at hd' hu'
              split at hd'
              · rename_i hj
                rw [if_pos hj] at hu'
                rw [List.getElem?_drop] at hd' hu'
                exact hrep _ d u hd' hu'
              · cases hd'
            · simp only [execOp,ho,hv,Instr.sliceAt,Instr.slice,Sem.run_bind,run_underlying hu,Result.andThen_ok,Option.map_none,hb,hs,Sem.run_pure]
        |_=>rw [hv] at hx;cases hx
      · cases h
    · cases h
  · cases h
/-- What an operation that only reads gives. -/
def valOp (P:Program) (s:St) (o:Oper):Option D:=
  match o.op with
  |.move x=>some (s.ev x)
  |.assign x=>some (s.ev x)
  |.pick c a b=>match s.ev c with|.sc (.bool t)=>some (pickD t (s.ev a) (s.ev b))|_=>none
  |.extract x i=>match s.ev x with|.tup ds=>ds[i]? |_=>none
  |.load t x=>loadD P t s (s.ev x)
  |.fieldAddr t x f=>fldD P t f (s.ev x)
  |.indexAddr t x i=>idxD P t (s.ev x) (s.ev i)
  |.binOp op t x y _=>match s.ev x,s.ev y with|.sc a,.sc b=>(binD P op t a b).map .sc|_,_=>none
  |.unOp op _ x=>match s.ev x with|.sc a=>(unD op a).map .sc|_=>none
  |.nilCheck x=>match s.ev x with|.ptr i k=>some (.ptr i k)|.cptr cs k=>some (.cptr cs k)|_=>none
  |.index t x i=>if isStr P t then match s.ev x,s.ev i with|.sc (.string b),.sc (.int _ k)=>if h:0≤k∧k < (b.size:Int) then some (.sc (.int .u8 (b[k.toNat]'(by omega)).toNat)) else none|_,_=>none else none
  |.call { callee:=.builtin .len,args:=xs,argTypes:=ts }=>lenOp P s xs ts
  |.convert src dst x=>convD P src dst (s.ev x)
  |.build t parts=>buildD P s t parts
  |.slice t x lo hi none=>sliceD P s t x lo hi
  |_=>none
/-- One operation as a function on states. none: it is none of those that are known here. -/
def stepOp (P:Program) (s:St) (o:Oper):Option St:=
  match o.op with
  |.alloc t=>match zeroK P t with|some z=>if z.cells.toList.all Value.oneCell' then some ((s.newOb ⟨t,z.cells.size,1,z.cells.toList.map .sc⟩).put o.dst (.ptr s.nb 0)) else none|none=>none
  |.box t x=>if (s.ev x).known then some ((s.newOb ⟨t,(s.ev x).cells.length,1,(s.ev x).cells⟩).put o.dst (.ptr s.nb 0)) else none
  |.store t x y=>if o.dst=none then storeD P t s (s.ev x) (s.ev y) else none
  |.buildSlice t len parts=>match buildSliceD P s t len parts with|some x=>some ((s.newOb x).put o.dst (.own s.nb 0 len))|none=>none
  |_=>(valOp P s o).map fun d=>s.put o.dst d
theorem val_sound {X:Ctx}{P:Program}{o:Oper}{s:St}{d:D} (h:valOp P s o=some d):ValAt X P o s d:=by
  unfold valOp at h
  split at h
  · rename_i x ho
    injection h with h;subst h
    exact val_move (.inl ho)
  · rename_i x ho
    injection h with h;subst h
    exact val_move (.inr ho)
  · rename_i c x y ho
    split at h
    · rename_i t hc
      injection h with h;subst h
      intro E a w hr
      have hcc:=hr.ev c
      rw [hc] at hcc
      have hcv:a.eval c = .bool t:=hcc.1
      rw [pickD_eq]
      cases t
      · exact ⟨a.eval y,hr.ev y,fun w' _=>by simp [execOp,ho,hcv,asBool]⟩
      · exact ⟨a.eval x,hr.ev x,fun w' _=>by simp [execOp,ho,hcv,asBool]⟩
    · cases h
  · rename_i x i ho
    split at h
    · rename_i ds hx
      intro E a w hr
      have hxx:=hr.ev x
      rw [hx] at hxx
      obtain ⟨us,h1,h2,h3⟩:=hxx
      have hi:i < us.length:=by rw [h2];exact (List.getElem?_eq_some_iff.1 h).1
      refine ⟨us[i],?_,fun w' _=>by simp [execOp,ho,h1,Instr.extract,hi]⟩
      have h4:=h3 i d us[i] h (List.getElem?_eq_getElem hi)
      by_cases ht:∀ cs,d≠.tup cs
      · rw [rep_of ht];exact h4
      · obtain ⟨cs,ht⟩:=Classical.not_forall.1 ht
        obtain rfl:=Classical.not_not.1 ht
        exact h4.elim
    · cases h
  · rename_i t x ho
    exact val_load ho h
  · rename_i t x f ho
    exact val_field ho h
  · rename_i t x i ho
    exact val_index ho h
  · rename_i op t x y yt ho
    split at h
    · rename_i p q hp hq
      cases hv:binD P op t p q with
      |none=>rw [hv] at h;cases h
      |some v=>
        rw [hv] at h
        injection h with h;subst h
        intro E a w hr
        have h1:=hr.ev x
        have h2:=hr.ev y
        rw [hp] at h1
        rw [hq] at h2
        have h3:a.eval x=p:=h1.1
        have h4:a.eval y=q:=h2.1
        refine ⟨v,⟨rfl,(run_binD hv x y w).2⟩,fun w' _=>?_⟩
        have h7:(execOp a.eval o).run P w' = ((do eqGuard op t x y p q;binOp op t p q).run P w').andThen fun v w=>.ok (.value v) w:=by
          simp only [execOp,ho,h3,h4,Sem.run_bind,Sem.run_pure]
        rw [h7,(run_binD hv x y w').1]
        rfl
    · cases h
  · rename_i op t x ho
    split at h
    · rename_i p hp
      cases hv:unD op p with
      |none=>rw [hv] at h;cases h
      |some v=>
        rw [hv] at h
        injection h with h;subst h
        intro E a w hr
        have h1:=hr.ev x
        rw [hp] at h1
        have h3:a.eval x=p:=h1.1
        exact ⟨v,⟨rfl,(run_unD (P:=P) hv w).2⟩,fun w' _=>by simp [execOp,ho,h3,(run_unD (P:=P) hv w').1]⟩
    · cases h
  · rename_i x ho
    split at h
    · rename_i i k hx
      injection h with h;subst h
      intro E a w hr
      have h1:=hr.ev x
      rw [hx] at h1
      obtain ⟨l,h2,h3⟩:=h1
      exact ⟨_,⟨l,h2,rfl⟩,fun w' _=>by simp [execOp,ho,h3]⟩
    · rename_i cs k hx
      injection h with h;subst h
      intro E a w hr
      have h1:=hr.ev x
      rw [hx] at h1
      have h1':=h1
      obtain ⟨b,oo,us,h3,_⟩:=h1
      exact ⟨_,h1',fun w' _=>by simp only [execOp,ho,h3];rfl⟩
    · cases h
  · rename_i t x i ho
    split at h
    · rename_i hst
      split at h
      · rename_i b q k hx hi
        split at h
        · rename_i hk
          injection h with h;subst h
          intro E a w hr
          have h1:=hr.ev x
          have h2:=hr.ev i
          rw [hx] at h1
          rw [hi] at h2
          have h3:a.eval x = .string b:=h1.1
          have h4:a.eval i = .int q k:=h2.1
          exact ⟨_,⟨rfl,rfl⟩,fun w' _=>by simp only [execOp,ho,h3,h4];simp [run_index_string w' t b q k (isStr_ hst),hk]⟩
        · cases h
      · cases h
    · cases h
  · rename_i xs ts ho
    exact val_len ho h
  · rename_i src dst x ho
    exact val_conv ho h
  · rename_i t parts ho
    exact val_build ho h
  · rename_i t x lo hi ho
    exact val_slice ho h
  · cases h
theorem oc_int (k:IntKind) (n:Int):Value.oneCell' (.int k n)=true:=rfl
theorem oc_str (b:ByteArray):Value.oneCell' (.string b)=true:=rfl
theorem oc_bool (b:Bool):Value.oneCell' (.bool b)=true:=rfl
theorem oc_slice (A:Option Addr) (n c:Nat):Value.oneCell' (.slice A n c)=true:=rfl
theorem vc_int (k:IntKind) (n:Int):Value.cells (.int k n)=#[.int k n]:=rfl
theorem vc_str (b:ByteArray):Value.cells (.string b)=#[.string b]:=rfl
theorem vc_bool (b:Bool):Value.cells (.bool b)=#[.bool b]:=rfl
theorem vc_slice (A:Option Addr) (n c:Nat):Value.cells (.slice A n c)=#[.slice A n c]:=rfl
theorem vc_agg (cs:Array Value):Value.cells (.agg cs)=cs:=rfl
theorem stepOp_sound {X:Ctx}{P:Program}{o:Oper}{s s':St} (h:stepOp P s o=some s'):AwOp X P o s s':=by
  unfold stepOp at h
  split at h
  · rename_i t ho
    split at h
    · rename_i z hz
      split at h
      · rename_i h1
        injection h with h;subst h
        exact awop_alloc ho hz h1
      · cases h
    · cases h
  · rename_i t x ho
    split at h
    · rename_i hk
      injection h with h;subst h
      exact awop_box ho hk
    · cases h
  · rename_i t x y ho
    split at h
    · rename_i hn
      exact awop_store ho hn h
    · cases h
  · rename_i t len parts ho
    split at h
    · rename_i x hx
      injection h with h;subst h
      exact awop_buildSlice ho hx
    · cases h
  · cases hv:valOp P s o with
    |none=>rw [hv] at h;cases h
    |some d=>
      rw [hv] at h
      injection h with h;subst h
      exact awop_val (val_sound hv)
end Go.Proofs.YtidjjfjhmlndjaaGreatDoor
namespace Go.Proofs.YtidjjfjhmlndjaaGreatDoor
open Go.RowKit
/-- An operation leads from s to a state of which Q holds. -/
structure AwStep (X:Ctx) (P:Program) (o:Oper) (s:St) (Q:St→Prop):Prop where
  out:∀ E a w (K:Act→World→Prop) (R:Exit→Act→World→Prop),Rel X s E a w→(∀ s' E' a' w',Q s'→Rel X s' E' a' w'→K a' w')→o.wp P a w K R
/-- Of what was there the objects T alone may have turned; new objects lie in new blocks or in those of T. -/
structure FrT (T:Nat→Prop) (E:Env) (w:World) (E':Env) (w':World):Prop where
  le:E.le E'
  size:w.heap.size≤w'.heap.size
  block:∀ b,b < w.heap.size→E.tg b=none→(∀ i l,T i→E.at_ i=some (some l)→l.g≠b)→w'.heap[b]? = w.heap[b]?
  new:∀ i l,E.at_ i=none→E'.at_ i=some (some l)→w.heap.size≤l.g∨(∃ k m,T k∧E.at_ k=some (some m)∧m.g=l.g)∨E.tg l.g≠none
  tag:∀ b,E.tg b=none→E'.tg b≠none→w.heap.size≤b∨∃ k m,T k∧E.at_ k=some (some m)∧m.g=b
theorem Fr.toT {tg:Option Nat}{E:Env}{w:World}{E':Env}{w':World} (h:Fr tg E w E' w'):FrT (fun i=>tg=some i) E w E' w':=
  ⟨h.le,h.size,fun b h1 _=>h.block b h1,fun i l h1 h2=>.inl (h.new i l h1 h2),fun b h1 h2=>absurd (by rw [h.tgs];exact h1) h2⟩
theorem FrT.of {T:Nat→Prop}{E:Env}{w:World}{E':Env}{w':World} (h:Fr none E w E' w'):FrT T E w E' w':=
  ⟨h.le,h.size,fun b hb _ _=>h.block b hb (fun i l h1=>by cases h1),fun i l h1 h2=>.inl (h.new i l h1 h2),fun b h1 h2=>absurd (by rw [h.tgs];exact h1) h2⟩
/-- As AwStep, and of what was there the objects wr alone, and those from nb on, may have turned. -/
structure AwStepF (X:Ctx) (P:Program) (o:Oper) (s:St) (wr:List Nat) (nb:Nat) (Q:St→Prop):Prop where
  out:∀ E a w (K:Act→World→Prop) (R:Exit→Act→World→Prop),Rel X s E a w→(∀ s' E' a' w',Q s'→Rel X s' E' a' w'→FrT (fun i=>wr.contains i=true∨nb≤i) E w E' w'→K a' w')→o.wp P a w K R
theorem AwStepF.plain {X:Ctx}{P:Program}{o:Oper}{s:St}{wr:List Nat}{nb:Nat}{Q:St→Prop} (h:AwStepF X P o s wr nb Q):AwStep X P o s Q:=
  ⟨fun E a w K R hr hk=>h.out E a w K R hr fun s' E' a' w' hq hr' _=>hk s' E' a' w' hq hr'⟩
structure AwCode (X:Ctx) (P:Program) (c:Code) (s:St) (Q:Exit→St→Prop):Prop where
  out:∀ E a w (R:Exit→Act→World→Prop),Rel X s E a w→(∀ e s' E' a' w',Q e s'→Rel X s' E' a' w'→R e a' w')→c.wp P R a w
/-- What goes on behind a step. (No binder: so that a simp does not look behind a step that it has not taken.) -/
def stepK (r:Option St) (k:St→Prop) (e:Prop):Prop:=match r with|some s=>k s|none=>e
theorem stepK_some (s:St) (k:St→Prop) (e:Prop):stepK (some s) k e=k s:=rfl
theorem stepK_none (k:St→Prop) (e:Prop):stepK none k e=e:=rfl
def boolK (d:D) (A B:St→Prop) (s:St):Prop:=match d with|.sc (.bool t)=>(t=true→A s)∧(t=false→B s)|_=>False
theorem boolK_true (A B:St→Prop) (s:St):boolK (.sc (.bool true)) A B s=A s:=by simp [boolK]
theorem boolK_false (A B:St→Prop) (s:St):boolK (.sc (.bool false)) A B s=B s:=by simp [boolK]
def skipD:D→Bool
  |.tup []=>true
  |_=>false
theorem skipD_ {d:D} (h:skipD d=true):d = .tup []:=by
  unfold skipD at h
  split at h
  · rfl
  · cases h
/-- Behind a guard: k if the guard itself was skipped. -/
def guardK (d:D) (k A B:St→Prop) (s:St):Prop:=cond (skipD d) (k s) (boolK d A B s)
theorem guardK_tup (k A B:St→Prop) (s:St):guardK (.tup []) k A B s=k s:=rfl
theorem guardK_sc (v:Value) (k A B:St→Prop) (s:St):guardK (.sc v) k A B s=boolK (.sc v) A B s:=rfl
def guardD (ops:List Oper) (j:Nat) (s:St):D:=match ops[j]? with|some o=>(match o.dst with|some d=>s.get d|none=>.none)|none=>.none
def WOps (X:Ctx) (P:Program) (ops:List Oper) (Q:St→Prop):List Oper→St→Prop
  | [],s=>Q s
  |o::rest,s=>
    match o.guard with
    |none=>stepK (stepOp P s o) (WOps X P ops Q rest) (AwStep X P o s (WOps X P ops Q rest))
    |some (j,b)=>guardK (guardD ops j s) (fun s=>WOps X P ops Q rest (s.put o.dst (.tup []))) (if b then fun s=>stepK (stepOp P s o) (WOps X P ops Q rest) (AwStep X P o s (WOps X P ops Q rest)) else fun s=>WOps X P ops Q rest (s.put o.dst (.tup [])))
        (if b then fun s=>WOps X P ops Q rest (s.put o.dst (.tup [])) else fun s=>stepK (stepOp P s o) (WOps X P ops Q rest) (AwStep X P o s (WOps X P ops Q rest))) s
def WGo (X:Ctx) (P:Program) (ops:List Oper) (Q:St→Prop) (o:Oper) (rest:List Oper) (s:St):Prop:=stepK (stepOp P s o) (WOps X P ops Q rest) (AwStep X P o s (WOps X P ops Q rest))
def WSkip (X:Ctx) (P:Program) (ops:List Oper) (Q:St→Prop) (o:Oper) (rest:List Oper) (s:St):Prop:=WOps X P ops Q rest (s.put o.dst (.tup []))
theorem wgo_eq (X:Ctx) (P:Program) (ops:List Oper) (Q:St→Prop) (o:Oper) (rest:List Oper) (s:St):WGo X P ops Q o rest s=stepK (stepOp P s o) (WOps X P ops Q rest) (AwStep X P o s (WOps X P ops Q rest)):=rfl
theorem wskip_eq (X:Ctx) (P:Program) (ops:List Oper) (Q:St→Prop) (o:Oper) (rest:List Oper) (s:St):WSkip X P ops Q o rest s=WOps X P ops Q rest (s.put o.dst (.tup [])):=rfl
theorem wops_nil (X:Ctx) (P:Program) (ops:List Oper) (Q:St→Prop) (s:St):WOps X P ops Q [] s=Q s:=rfl
theorem wops_plain (X:Ctx) (P:Program) (ops:List Oper) (Q:St→Prop) (dst:Option Tmp) (op:Op) (t:TypeId) (pos:String) (af:Array Edge) (rest:List Oper) (s:St):
    WOps X P ops Q ({ dst:=dst,op:=op,type:=t,pos:=pos,after:=af,guard:=none }::rest) s=WGo X P ops Q { dst:=dst,op:=op,type:=t,pos:=pos,after:=af,guard:=none } rest s:=rfl
theorem wops_true (X:Ctx) (P:Program) (ops:List Oper) (Q:St→Prop) (dst:Option Tmp) (op:Op) (t:TypeId) (pos:String) (af:Array Edge) (j:Nat) (rest:List Oper) (s:St):
    WOps X P ops Q ({ dst:=dst,op:=op,type:=t,pos:=pos,after:=af,guard:=some (j,true) }::rest) s=guardK (guardD ops j s) (WSkip X P ops Q { dst:=dst,op:=op,type:=t,pos:=pos,after:=af,guard:=some (j,true) } rest) (WGo X P ops Q { dst:=dst,op:=op,type:=t,pos:=pos,after:=af,guard:=some (j,true) } rest) (WSkip X P ops Q { dst:=dst,op:=op,type:=t,pos:=pos,after:=af,guard:=some (j,true) } rest) s:=rfl
theorem wops_false (X:Ctx) (P:Program) (ops:List Oper) (Q:St→Prop) (dst:Option Tmp) (op:Op) (t:TypeId) (pos:String) (af:Array Edge) (j:Nat) (rest:List Oper) (s:St):
    WOps X P ops Q ({ dst:=dst,op:=op,type:=t,pos:=pos,after:=af,guard:=some (j,false) }::rest) s=guardK (guardD ops j s) (WSkip X P ops Q { dst:=dst,op:=op,type:=t,pos:=pos,after:=af,guard:=some (j,false) } rest) (WSkip X P ops Q { dst:=dst,op:=op,type:=t,pos:=pos,after:=af,guard:=some (j,false) } rest) (WGo X P ops Q { dst:=dst,op:=op,type:=t,pos:=pos,after:=af,guard:=some (j,false) } rest) s:=rfl
theorem Rel.skip {X:Ctx}{s:St}{E:Env}{a:Act}{w:World} (h:Rel X s E a w) (dst:Option Tmp):Rel X (s.put dst (.tup [])) E (a.put dst Go.undef) w:=h.put dst ⟨[],rfl,rfl,fun j d v hd=>by simp at hd⟩
theorem yielded_skip {X:Ctx}{s:St}{E:Env}{a:Act}{w:World} (hr:Rel X s E a w) {ops:Array Oper}{j:Nat} (ht:guardD ops.toList j s = .tup []):yielded ops a.tmps j=none:=by
  unfold guardD at ht
  split at ht
  · rename_i oj hoj
    split at ht
    · rename_i d hd
      have hv:a.tmps.getD d undef = .tuple #[]:=by
        have:=hr.ev (.tmp d)
        rw [show s.ev (.tmp d)=s.get d from rfl,ht] at this
        obtain ⟨us,h1,h2,_⟩:=this
        obtain rfl:=List.eq_nil_of_length_eq_zero h2
        exact h1
      rw [Array.getElem?_toList] at hoj
      by_cases hlt:d < a.tmps.size
      · rw [Array.getD_eq_getD_getElem?, Array.getElem?_eq_getElem hlt] at hv
        simp only [Option.getD_some] at hv
        simp [yielded,hoj,hd,hlt,hv]
      · simp [yielded,hoj,hd,Array.getElem?_eq_none (Nat.le_of_not_lt hlt)]
    · cases ht
  · cases ht
theorem wops_sound {X:Ctx}{P:Program}{ops:Array Oper}{Q:St→Prop}:∀ {l:List Oper}{s:St},WOps X P ops.toList Q l s→∀ E a w (R:Exit→Act→World→Prop),Rel X s E a w→
    (∀ s' E' a' w',Q s'→Rel X s' E' a' w'→R .normal a' w')→wpList P ops R l a w
  | [],s,h,E,a,w,R,hr,hk=>hk _ _ _ _ h hr
  |o::rest,s,h,E,a,w,R,hr,hk=>by
    have step:stepK (stepOp P s o) (WOps X P ops.toList Q rest) (AwStep X P o s (WOps X P ops.toList Q rest))→o.wp P a w (wpList P ops R rest) R:=by
      intro h
      unfold stepK at h
      split at h
      · rename_i s' hs
        exact stepOp_sound hs E a w _ _ hr fun E' a' w' hr' _=>wops_sound h E' a' w' R hr' hk
      · exact h.out E a w _ _ hr fun s' E' a' w' hq hr'=>wops_sound hq E' a' w' R hr' hk
    unfold WOps at h
    show (if Region.wanted o (yielded ops a.tmps) then o.wp P a w (wpList P ops R rest) R∨(o.asks P a w∧LetsOut R) else wpList P ops R rest (a.put o.dst undef) w)
    split at h
    · rename_i hg
      rw [if_pos (by simp [Region.wanted,hg])]
      exact .inl (step h)
    · rename_i j b hg
      unfold guardK at h
      cases hsk:skipD (guardD ops.toList j s) with
      |true=>
        rw [hsk] at h
        have hy:=yielded_skip hr (skipD_ hsk)
        rw [if_neg (by simp [Region.wanted,hg,hy])]
        exact wops_sound h E _ w R (hr.skip o.dst) hk
      |false=>
      rw [hsk] at h
      simp only [cond_false] at h
      unfold boolK at h
      split at h
      · rename_i t ht
        have hy:yielded ops a.tmps j=some t:=by
          unfold guardD at ht
          split at ht
          · rename_i oj hoj
            split at ht
            · rename_i d hd
              have hv:a.tmps.getD d undef = .bool t:=by
                have:=hr.ev (.tmp d)
                rw [show s.ev (.tmp d)=s.get d from rfl,ht] at this
                exact this.1
              have hlt:d < a.tmps.size:=by
                unfold St.get at ht
                cases hg:s.tm[d]? with
                |none=>rw [hg] at ht;cases ht
                |some e=>rw [hr.sz];exact (List.getElem?_eq_some_iff.1 hg).1
              rw [Array.getD_eq_getD_getElem?, Array.getElem?_eq_getElem hlt] at hv
              simp only [Option.getD_some] at hv
              rw [Array.getElem?_toList] at hoj
              simp [yielded,hoj,hd,hlt,hv]
            · cases ht
          · cases ht
        obtain ⟨h1,h2⟩:=h
        by_cases hb:t=b
        · subst hb
          rw [if_pos (by simp [Region.wanted,hg,hy])]
          cases t
          · exact .inl (step (h2 rfl))
          · exact .inl (step (h1 rfl))
        · rw [if_neg (by simp [Region.wanted,hg,hy,hb])]
          cases t<;>cases b<;>first|exact absurd rfl hb|skip
          · exact wops_sound (h2 rfl) E _ w R (hr.skip o.dst) hk
          · exact wops_sound (h1 rfl) E _ w R (hr.skip o.dst) hk
      · exact h.elim
def thenQ (K:St→Prop) (Q:Exit→St→Prop):Exit→St→Prop
  |.normal,s=>K s
  |e,s=>Q e s
def blockQ (id:Nat) (Q:Exit→St→Prop):Exit→St→Prop
  |.exit i,s=>if i=id then Q .normal s else Q (.exit i) s
  |e,s=>Q e s
def WCode (X:Ctx) (P:Program):Code→(Exit→St→Prop)→St→Prop
  |.skip,Q,s=>Q .normal s
  |.label _,Q,s=>Q .normal s
  |.seq a b,Q,s=>WCode X P a (thenQ (WCode X P b Q) Q) s
  |.cond c x y,Q,s=>boolK (s.ev c) (WCode X P x Q) (WCode X P y Q) s
  |.block id c,Q,s=>WCode X P c (blockQ id Q) s
  |.exit id,Q,s=>Q (.exit id) s
  |.ret,Q,s=>Q .ret s
  |.region _ ops false,Q,s=>WOps X P ops.toList (Q .normal) ops.toList s
  |.region id ops true,Q,s=>AwCode X P (.region id ops true) s Q
  |.loop c,Q,s=>AwCode X P (.loop c) s Q
  |c,Q,s=>AwCode X P c s Q
section
variable (X:Ctx) (P:Program) (Q:Exit→St→Prop) (K:St→Prop) (s:St) (a b c:Code) (i:Nat)
theorem wc_skip:WCode X P .skip Q s=Q .normal s:=rfl
theorem wc_label:WCode X P (.label i) Q s=Q .normal s:=rfl
theorem wc_seq:WCode X P (.seq a b) Q s=WCode X P a (thenQ (WCode X P b Q) Q) s:=rfl
theorem wc_cond (x:Operand):WCode X P (.cond x a b) Q s=boolK (s.ev x) (WCode X P a Q) (WCode X P b Q) s:=rfl
theorem wc_block:WCode X P (.block i c) Q s=WCode X P c (blockQ i Q) s:=rfl
theorem wc_exit:WCode X P (.exit i) Q s=Q (.exit i) s:=rfl
theorem wc_ret:WCode X P .ret Q s=Q .ret s:=rfl
theorem wc_draw (ops:Array Oper):WCode X P (.region i ops true) Q s=AwCode X P (.region i ops true) s Q:=rfl
theorem wc_loop:WCode X P (.loop c) Q s=AwCode X P (.loop c) s Q:=rfl
theorem tq_normal:thenQ K Q .normal s=K s:=rfl
theorem tq_exit:thenQ K Q (.exit i) s=Q (.exit i) s:=rfl
theorem tq_ret:thenQ K Q .ret s=Q .ret s:=rfl
theorem bq_normal:blockQ i Q .normal s=Q .normal s:=rfl
theorem bq_exit (j:Nat):blockQ i Q (.exit j) s=if j=i then Q .normal s else Q (.exit j) s:=rfl
theorem bq_ret:blockQ i Q .ret s=Q .ret s:=rfl
end
theorem wcode_go {X:Ctx}{P:Program}:∀ {c:Code}{Q:Exit→St→Prop}{s:St},WCode X P c Q s→∀ E a w (R:Exit→Act→World→Prop),Rel X s E a w→(∀ e s' E' a' w',Q e s'→Rel X s' E' a' w'→R e a' w')→c.wp P R a w
  |.skip,Q,s,h=>fun E a w R hr hk=>wp_skip (hk _ _ _ _ _ h hr)
  |.label l,Q,s,h=>fun E a w R hr hk=>wp_label (hk _ _ _ _ _ h hr)
  | .seq x y, Q, s, h => fun E a w R hr hk => wp_seq (wcode_go (c := x) h E a w _ hr fun e s' E' a' w' hq hr' => by
      cases e with
      |normal=>exact wcode_go (c:=y) hq E' a' w' R hr' hk
      | _ => exact hk _ _ _ _ _ hq hr')
  |.cond c x y,Q,s,h=>fun E a w R hr hk=>by
    unfold WCode boolK at h
    split at h
    · rename_i t ht
      have hc:=hr.ev c
      rw [ht] at hc
      exact wp_cond_split (t:=t) hc.1 (fun ht=>wcode_go (h.1 ht) E a w R hr hk) (fun ht=>wcode_go (h.2 ht) E a w R hr hk)
    · exact h.elim
  | .block id c, Q, s, h => fun E a w R hr hk => wp_block (wcode_go (c := c) h E a w _ hr fun e s' E' a' w' hq hr' => by
      cases e with
      |exit i=>
        show (if i=id then R .normal a' w' else R (.exit i) a' w')
        have hq':(if i=id then Q .normal s' else Q (.exit i) s'):=hq
        split at hq'
        · rename_i hi;rw [if_pos hi];exact hk _ _ _ _ _ hq' hr'
        · rename_i hi;rw [if_neg hi];exact hk _ _ _ _ _ hq' hr'
      | _ => exact hk _ _ _ _ _ hq hr')
  |.exit id,Q,s,h=>fun E a w R hr hk=>wp_exit (hk _ _ _ _ _ h hr)
  |.ret,Q,s,h=>fun E a w R hr hk=>wp_ret (hk _ _ _ _ _ h hr)
  |.region id ops false,Q,s,h=>fun E a w R hr hk=>wp_region_list (wops_sound (Q:=Q .normal) h E a w R hr fun s' E' a' w' hq hr'=>hk _ _ _ _ _ hq hr')
  |.region id ops true,Q,s,h=>h.out
  |.loop c,Q,s,h=>h.out
  |.rangeFunc ..,Q,s,h=>h.out
  |.scope _,Q,s,h=>h.out
  |.goto _,Q,s,h=>h.out
  |.refuse _,Q,s,h=>h.out
theorem wcode_sound {X:Ctx}{P:Program}{c:Code}{Q:Exit→St→Prop}{s:St} (h:WCode X P c Q s):AwCode X P c s Q:=⟨wcode_go h⟩
/-- No object is named. -/
def D.noid1:D→Bool
  |.own ..|.ptr ..|.mp ..|.agg ..|.tup ..|.tr ..=>false
  |.fn _ cap=>cap.all fun d=>match d with|.sc _|.sl ..|.cptr ..=>true|_=>false
  |_=>true
def D.noidA:D→Bool
  |.agg cs=>cs.all D.noid1
  |d=>d.noid1
def D.noid:D→Bool
  |.tup ds=>ds.all D.noidA
  |d=>d.noidA
theorem Rep1.free {E E':Env}{w:World}{d:D}{u:Value} (h:Rep1 E w d u) (hn:d.noid1=true) (hr:∀ b,E.ro b→E'.ro b):Rep1 E' w d u:=by
  cases d with
  |none=>trivial
  |sc v=>exact h
  |sl n cs=>exact RepP.keep h hr fun _ _=>rfl
  |own i off n=>cases hn
  |agg cs=>exact h
  |ptr i o=>cases hn
  |mp i=>cases hn
  |tr=>cases hn
  |cptr cs k=>
    obtain ⟨b,o,us,h1,h2,h3,h4,h5⟩:=h
    exact ⟨b,o,us,h1,hr b h2,h3,h4,fun j d v hd hv=>(h5 j d v hd hv).keep hr fun _ _=>rfl⟩
  |tup ds=>exact h
  |fn f cap=>
    obtain ⟨us,h1,h2,h3⟩:=h
    refine ⟨us,h1,h2,fun j d v hc hv=>?_⟩
    have h4:=List.all_eq_true.1 hn _ (List.mem_of_getElem? hc)
    have h5:=h3 j d v hc hv
    cases d with
    |sc v=>exact h5
    |sl n cs=>exact RepP.keep h5 hr fun _ _=>rfl
    |cptr cs k=>
      obtain ⟨b,o,us,e1,e2,e3,e4,e5⟩:=h5
      exact ⟨b,o,us,e1,hr b e2,e3,e4,fun j d v hd hv=>(e5 j d v hd hv).keep hr fun _ _=>rfl⟩
    |_=>cases h4
theorem RepA.free {E E':Env}{w:World}{d:D}{u:Value} (h:RepA E w d u) (hn:d.noidA=true) (hr:∀ b,E.ro b→E'.ro b):RepA E' w d u:=by
  by_cases hd:∀ cs,d≠.agg cs
  · rw [repA_of hd] at h ⊢
    refine h.free ?_ hr
    cases d<;>first|exact hn|exact absurd rfl (hd _)
  · obtain ⟨cs,hd⟩:=Classical.not_forall.1 hd
    obtain rfl:=Classical.not_not.1 hd
    obtain ⟨us,h1,h2,h3⟩:=h
    refine ⟨us,h1,h2,fun j d v hd hv=>⟨(h3 j d v hd hv).1.free ?_ hr,(h3 j d v hd hv).2⟩⟩
    exact List.all_eq_true.1 hn d (List.mem_of_getElem? hd)
theorem Rep.free {E E':Env}{w:World}{d:D}{u:Value} (h:Rep E w d u) (hn:d.noid=true) (hr:∀ b,E.ro b→E'.ro b):Rep E' w d u:=by
  by_cases hd:∀ cs,d≠.tup cs
  · rw [rep_of hd] at h ⊢
    refine h.free ?_ hr
    cases d<;>first|exact hn|exact absurd rfl (hd _)
  · obtain ⟨cs,hd⟩:=Classical.not_forall.1 hd
    obtain rfl:=Classical.not_not.1 hd
    obtain ⟨us,h1,h2,h3⟩:=h
    refine ⟨us,h1,h2,fun j d v hd hv=>(h3 j d v hd hv).free ?_ hr⟩
    exact List.all_eq_true.1 hn d (List.mem_of_getElem? hd)
def roEnv (ro:Nat→Prop):Env:=⟨ro,fun _=>none,fun _=>none⟩
/-- A contract: called with what reads as ds, the function returns what reads as a datum of which Q holds; nothing that was there has changed. -/
def Spec (P:Program) (f:FuncId) (ds:List D) (Q:D→Prop):Prop:=
  (∀ (args:Array Value) (w:World),(callFunc f args).run P w = .ok (.enter f args) w)∧
  ∀ (ro:Nat→Prop) (w:World) (args:Array Value),RoOk ro w.heap→args.size=ds.length→(∀ (j:Nat) (d:D),ds[j]? = some d→Rep (roEnv ro) w d (args.getD j undef))→
    Calls P f args w fun e w'=>∃ d v,Q d∧e = .returned v∧Rep (roEnv fun b=>ro b∨(w.heap.size≤b∧b < w'.heap.size)) w' d v∧Below w.heap.size w w'
theorem Spec.mono {P:Program}{f:FuncId}{ds:List D}{Q Q':D→Prop} (h:Spec P f ds Q) (hq:∀ d,Q d→Q' d):Spec P f ds Q':=
  ⟨h.1,fun ro w args h1 h2 h3=>(h.2 ro w args h1 h2 h3).mono fun _ _ ⟨d,v,h4,h5⟩=>⟨d,v,hq d h4,h5⟩⟩
theorem args_of {X:Ctx}{s:St}{E:Env}{a:Act}{w:World} (hr:Rel X s E a w) {xs:Array Operand} (hno:(xs.toList.map s.ev).all D.noid=true) (j:Nat) (d:D) (hd:(xs.toList.map s.ev)[j]? = some d):Rep (roEnv E.ro) w d ((xs.map a.eval).getD j undef):=by
  rw [List.getElem?_map] at hd
  cases hj:xs.toList[j]? with
  |none=>rw [hj] at hd;cases hd
  |some x=>
    rw [hj] at hd
    have hd':s.ev x=d:=by simpa using hd
    subst hd'
    have h1:=hr.ev x
    have h2:(xs.map a.eval).getD j undef=a.eval x:=by
      rw [Array.getElem?_toList] at hj
      simp [Array.getD_eq_getD_getElem?, hj]
    rw [h2]
    refine h1.free ?_ fun b hb=>hb
    exact List.all_eq_true.1 hno _ (List.mem_map.2 ⟨x,List.mem_of_getElem? hj,rfl⟩)
theorem after_call {X:Ctx}{s:St}{wr:List Nat}{nb:Nat}{E:Env}{a:Act}{w:World} (hr:Rel X s E a w) {dst:Option Tmp}{K:St→Prop}{Q:D→Prop} (hk:∀ d,Q d→K (s.put dst d)) {K':Act→World→Prop}
    (hK:∀ s' E' a' w',K s'→Rel X s' E' a' w'→FrT (fun i=>wr.contains i=true∨nb≤i) E w E' w'→K' a' w') (e:Ending) (w':World)
    (h:∃ d v,Q d∧e = .returned v∧Rep (roEnv fun b=>E.ro b∨(w.heap.size≤b∧b < w'.heap.size)) w' d v∧Below w.heap.size w w'):∃ v,e = .returned v∧K' (a.put dst v) w':=by
  obtain ⟨d,v,hq,rfl,hv,hb⟩:=h
  have hle:E.le ⟨fun b=>E.ro b∨(w.heap.size≤b∧b < w'.heap.size),E.at_,E.tg⟩:=⟨fun _ _ h=>h,fun _ h=>.inl h⟩
  have hro:∀ b,E.ro b→w'.heap[b]? = w.heap[b]? :=fun b h=>hb.block b (hr.sr.rolt b h)
  have hrel:Rel X s ⟨fun b=>E.ro b∨(w.heap.size≤b∧b < w'.heap.size),E.at_,E.tg⟩ a w':=by
    refine ⟨hr.sz,fun t d hd=>(hr.tm t d hd).keep hle hro,hr.df,⟨fun i x hi=>?_,hr.sr.new,hr.sr.rolt.grow (fun _ h=>.inl h) hro fun b h=>?_,hr.sr.apart,hr.sr.nodup,?_⟩,?_⟩
    · refine (hr.sr.obs i x hi).keep hle hro fun l hl=>?_
      have hlt:=hr.sr.lt hi hl
      refine ⟨hb.block _ hlt,fun h=>?_⟩
      rcases h with h|h
      · rcases (hr.sr.obs i x hi).2 with ⟨h5,_⟩|⟨m',h5,_,h6,_⟩
        · rw [hl] at h5;cases h5
        · rw [hl] at h5
          injection h5 with h5
          injection h5 with h5
          subst h5
          exact h6 h
      · omega
    · rcases h with h|h
      · exact Nat.lt_of_lt_of_le (hr.sr.rolt b h) hb.size
      · exact h.2
    · exact hr.sr.tr.keep rfl (fun b k p _ h1 h2 h3 h4=>⟨Nat.lt_of_lt_of_le h1 hb.size,hb.block b h1,h2,fun h=>(by rcases h with h|h;exact h3 h;omega),h4⟩) fun k x' hx j ty sz n cs hj=>⟨x',hx,hj,fun l hl=>⟨hl,World.cell?_of_block (a:=⟨l.g,j,none⟩) (hb.block _ (hr.sr.lt hx hl))⟩⟩
    · refine ⟨hr.st.le.trans hle,hb.os.trans hr.st.os,hb.tape.trans hr.st.tape,hb.output.trans hr.st.output,Nat.le_trans hr.st.size hb.size,fun b h1 h2=>(hb.block b (Nat.lt_of_lt_of_le h1 hr.st.size)).trans (hr.st.block b h1 h2),fun b h=>?_,hr.st.nb⟩
      rcases h with h|h
      · exact hr.st.ro b h
      · exact .inr (.inl (Nat.le_trans hr.st.size h.1))
  refine ⟨v,rfl,hK _ _ _ _ (hk d hq) (hrel.put dst ?_) ⟨hle,hb.size,fun b h _ _=>hb.block b h,fun i l h1 h2=>(by rw [show E.at_ i=some (some l) from h2] at h1;cases h1),fun b h1 h2=>absurd h1 h2⟩⟩
  exact hv.keep ⟨fun i l h=>(by cases h),fun b h=>h⟩ fun _ _=>rfl
theorem awcallF {X:Ctx}{P:Program}{o:Oper}{s:St}{wr:List Nat}{nb:Nat}{f:FuncId}{xs:Array Operand}{ats:Array TypeId}{K:St→Prop} (ho:o.op = .call { callee:=.value (.func f),args:=xs,argTypes:=ats }) (ds:List D) (Q:D→Prop)
    (hs:Spec P f ds Q) (hds:xs.toList.map s.ev=ds) (hno:ds.all D.noid=true) (hk:∀ d,Q d→K (s.put o.dst d)):AwStepF X P o s wr nb K:=by
  refine ⟨fun E a w K' R hr hK=>?_⟩
  have hrun:(execOp a.eval o).run P w = .ok (.enter f (xs.map a.eval)) w:=by
    rw [show execOp a.eval o=callFunc f (#[]++xs.map a.eval++#[]) by simp only [execOp,ho];rfl]
    rw [hs.1]
    simp
  unfold Oper.wp
  rw [hrun]
  show Calls P f _ w _
  subst hds
  refine (hs.2 E.ro w (xs.map a.eval) hr.sr.rolt (by simp) (args_of hr hno)).mono ?_
  intro e w' h
  obtain ⟨v,rfl,h2⟩:=after_call hr hk hK e w' h
  exact h2
/-- What a function hands back. -/
def resD (P:Program) (s:St):ResultVar→Option D
  |.tmp t=>some (s.get t)
  |.cell a t=>loadD P t s (s.get a)
def resAll (P:Program) (s:St):List ResultVar→Option (List D)
  | []=>some []
  |r::rs=>match resD P s r,resAll P s rs with|some d,some ds=>some (d::ds)|_,_=>none
def tupD:List D→D
  | [d]=>d
  |ds=>.tup ds
end Go.Proofs.YtidjjfjhmlndjaaGreatDoor
namespace Go.Proofs.YtidjjfjhmlndjaaGreatDoor
open Go.RowKit
theorem load_run {X:Ctx}{P:Program}{s:St}{E:Env}{a:Act}{w:World} (hr:Rel X s E a w) {t:TypeId}{x:Operand}{d:D} (h:loadD P t s (s.ev x)=some d):
    ∃ ad v,a.eval x = .pointer (some ad)∧(loadVar t ad).run P w = .ok v w∧Rep E w d v:=by
  have hx:=hr.ev x
  have key:∀ (ad:Addr) v,(Instr.loadAt t (.pointer (some ad))).run P w = .ok v w→(loadVar t ad).run P w = .ok v w:=fun ad v h=>by simpa [Instr.loadAt,Instr.sureAddr] using h
  cases hd:s.ev x with
  |ptr i q=>
    rw [hd] at h hx
    obtain ⟨l,hl,hp⟩:=hx
    simp only [loadD] at h
    cases hob:s.ob i with
    |none=>rw [hob] at h;cases h
    |some ob=>
      rw [hob] at h
      obtain ⟨us,e1,e2,e3⟩:=hr.cells (St.ob_some hob).2 (mem_of_lookup (St.ob_some hob).1) hl 0 ob.cs.length (by omega)
      obtain ⟨v,h1,h2⟩:=load_part (P:=P) (E:=E) (w:=w) (t:=t) (cs:=ob.cs) (o:=q) (g:=l.g) (oo:=0) us e1 (fun j e v he hv=>e3 j e v (by simpa using he) hv) h
      replace h1:=h1 w e2
      rw [Nat.zero_add] at h1
      exact ⟨_,v,hp,key _ _ h1,h2⟩
  |cptr cs q=>
    rw [hd] at h hx
    obtain ⟨b,oo,us,hp,hro,e1,e2,e3⟩:=hx
    obtain ⟨v,h1,h2⟩:=load_part (g:=b) (oo:=oo) us e1 (fun j e v he hv=>(e3 j e v he hv).to1) h
    replace h1:=h1 w e2
    exact ⟨_,v,hp,key _ _ h1,h2⟩
  |_=>rw [hd] at h;cases h
/-- What is handed back for one result. -/
def resF (tmps:Array Value):ResultVar→Sem Value
  |.tmp t=>pure (tmps.getD t undef)
  |.cell k t=>do loadVar t (← asAddr (tmps.getD k undef))
theorem results_eq (fn:Func) (tmps:Array Value):results fn tmps=(do let vs ← fn.results.mapM (resF tmps);pure (if h:vs.size=1 then vs[0] else .tuple vs)):=rfl
theorem run_resAll {X:Ctx}{P:Program}{s:St}{E:Env}{a:Act}{w:World} (hr:Rel X s E a w):∀ {rs:List ResultVar}{ds:List D},resAll P s rs=some ds→
    ∃ us:List Value,(rs.mapM (resF a.tmps)).run P w = .ok us w∧us.length=ds.length∧∀ (j:Nat) (d:D) (u:Value),ds[j]? = some d→us[j]? = some u→Rep E w d u
  | [],ds,h=>by
    injection h with h
    subst h
    exact ⟨[],by simp,rfl,fun j d u hd=>by simp at hd⟩
  |r::rs,ds,h=>by
    unfold resAll at h
    split at h
    · rename_i d ds' h1 h2
      injection h with h
      subst h
      obtain ⟨us,h5,h6,h7⟩:=run_resAll hr h2
      have fin:∀ v,Rep E w d v→∀ (j:Nat) (e:D) (u:Value),(d::ds')[j]? = some e→(v::us)[j]? = some u→Rep E w e u:=by
        intro v h4 j e u he hu
        rcases j with _|j
        · simp only [List.getElem?_cons_zero,Option.some.injEq] at he hu
          subst he;subst hu
          exact h4
        · exact h7 j e u (by simpa using he) (by simpa using hu)
      cases r with
      |tmp t=>
        have h1':s.get t=d:=by injection h1
        subst h1'
        refine ⟨a.tmps.getD t undef::us,?_,by simp [h6],fin _ (hr.ev (.tmp t))⟩
        rw [List.mapM_cons,Sem.run_bind,show (resF a.tmps (.tmp t)).run P w = .ok (a.tmps.getD t undef) w from rfl,Result.andThen_ok,Sem.run_bind,h5,Result.andThen_ok,Sem.run_pure]
      |cell k t=>
        obtain ⟨ad,v,h3,h4,h8⟩:=load_run hr (x:=.tmp k) (show loadD P t s (s.ev (.tmp k))=some d from h1)
        have h3':a.tmps.getD k undef = .pointer (some ad):=h3
        refine ⟨v::us,?_,by simp [h6],fin _ h8⟩
        rw [List.mapM_cons,Sem.run_bind]
        have:(resF a.tmps (.cell k t)).run P w = .ok v w:=by
          unfold resF
          simp only [h3']
          simpa [asAddr] using h4
        rw [this,Result.andThen_ok,Sem.run_bind,h5,Result.andThen_ok,Sem.run_pure]
    · cases h
theorem run_results {X:Ctx}{P:Program}{s:St}{E:Env}{a:Act}{w:World} (hr:Rel X s E a w) {fn:Func}{ds:List D} (h:resAll P s fn.results.toList=some ds) (hn:(tupD ds).noid=true):
    ∃ v,(results fn a.tmps).run P w = .ok v w∧Rep E w (tupD ds) v:=by
  obtain ⟨us,h1,h2,h3⟩:=run_resAll hr h
  have hrun:(results fn a.tmps).run P w = .ok (if h:us.toArray.size=1 then us.toArray[0] else .tuple us.toArray) w:=by
    rw [results_eq,Array.mapM_eq_mapM_toList]
    simp only [Sem.run_bind,map_eq_pure_bind]
    rw [h1]
    simp
  refine ⟨_,hrun,?_⟩
  rcases ds with _|⟨d,_|⟨d',ds⟩⟩
  · have:us = []:=List.eq_nil_of_length_eq_zero h2
    subst this
    exact ⟨[],rfl,rfl,fun j d v hd=>by simp at hd⟩
  · obtain ⟨u,rfl⟩:∃ u,us = [u]:=List.length_eq_one_iff.1 h2
    exact h3 0 d u rfl rfl
  · have hl:¬ us.toArray.size=1:=by simp;simp at h2;omega
    rw [dif_neg hl]
    refine ⟨us,rfl,h2,fun j e v he hv=>?_⟩
    have h4:=h3 j e v he hv
    have hmem:e ∈ d::d'::ds:=List.mem_of_getElem? he
    have hna:e.noidA=true:=List.all_eq_true.1 (show (d::d'::ds).all D.noidA=true from hn) e hmem
    by_cases ht:∀ cs,e≠.tup cs
    · rwa [rep_of ht] at h4
    · obtain ⟨cs,ht⟩:=Classical.not_forall.1 ht
      obtain rfl:=Classical.not_not.1 ht
      cases hna
end Go.Proofs.YtidjjfjhmlndjaaGreatDoor
namespace Go.Proofs.YtidjjfjhmlndjaaGreatDoor
open Go.RowKit
def retOk (P:Program) (rs:List ResultVar) (Q:D→Prop) (s:St):Prop:=
  match resAll P s rs with|some ds=>(tupD ds).noid=true∧Q (tupD ds)|none=>False
def retQ (P:Program) (rs:List ResultVar) (Q:D→Prop):Exit→St→Prop
  |.normal,s=>retOk P rs Q s
  |.ret,s=>retOk P rs Q s
  |_,_=>False
theorem rq_normal (P:Program) (rs:List ResultVar) (Q:D→Prop) (s:St):retQ P rs Q .normal s=retOk P rs Q s:=rfl
theorem rq_ret (P:Program) (rs:List ResultVar) (Q:D→Prop) (s:St):retQ P rs Q .ret s=retOk P rs Q s:=rfl
/-- What is asked of the world is said of what is only read: it stays. -/
structure TK (T:(Nat→Prop)→World→Prop) (X:Ctx):Prop where
  ro:∀ b,X.E.ro b→b < X.w.heap.size∧¬ X.mine b
  is:T X.E.ro X.w
/-- A contract under a condition on data of the world that is only read (tables). -/
def SpecT (P:Program) (T:(Nat→Prop)→World→Prop) (f:FuncId) (ds:List D) (Q:D→Prop):Prop:=
  (∀ (args:Array Value) (w:World),(callFunc f args).run P w = .ok (.enter f args) w)∧
  ∀ (ro:Nat→Prop) (w:World) (args:Array Value),T ro w→RoOk ro w.heap→args.size=ds.length→(∀ (j:Nat) (d:D),ds[j]? = some d→Rep (roEnv ro) w d (args.getD j undef))→
    Calls P f args w fun e w'=>∃ d v,Q d∧e = .returned v∧Rep (roEnv fun b=>ro b∨(w.heap.size≤b∧b < w'.heap.size)) w' d v∧Below w.heap.size w w'
def noT:(Nat→Prop)→World→Prop:=fun _ _=>True
theorem SpecT.plain {P:Program}{f:FuncId}{ds:List D}{Q:D→Prop} (h:SpecT P noT f ds Q):Spec P f ds Q:=⟨h.1,fun ro w args=>h.2 ro w args trivial⟩
theorem Spec.toT {P:Program}{T:(Nat→Prop)→World→Prop}{f:FuncId}{ds:List D}{Q:D→Prop} (h:Spec P f ds Q):SpecT P T f ds Q:=⟨h.1,fun ro w args _=>h.2 ro w args⟩
theorem specT_introA {P:Program}{f:FuncId}{fn:Func}{c:Code}{ds:List D}{Q:D→Prop}{rs:List ResultVar}{T:(Nat→Prop)→World→Prop} (hf:P.funcs[f]? = some fn) (hb:fn.body=some c) (hn:(fn.name== "runtime.NumGoroutine")=false) (hrs:fn.results=rs.toArray) {nt:Nat} (hnt:fn.ntmps=nt) (hsz:ds.length≤nt)
    (h:∀ X:Ctx,X.nb=0→TK T X→AwCode X P c ⟨ds++List.replicate (nt - ds.length) .none, [],0⟩ (retQ P rs Q)):SpecT P T f ds Q:=by
  subst hnt
  have h1:fn.name≠ "runtime.NumGoroutine":=by simpa using hn
  refine ⟨fun args w=>by simp [callFunc,hf,h1,hb],fun ro w args hT hlt has hrep=>?_⟩
  have has':args.size=ds.length:=has
  refine calls_of_wp hf hb ?_
  refine (h ⟨w,roEnv ro,fun _=>False,0,fun _ _=>rfl⟩ rfl ⟨fun b hb=>⟨hlt b hb,fun h=>h⟩,hT⟩).out (roEnv ro) _ w _ ?_ ?_
  · refine ⟨by simp;omega,fun t d hd=>?_,rfl,⟨fun i x hi=>(by cases hi),fun _ _=>rfl,hlt,fun i x j y hi=>(by cases hi),List.nodup_nil,.none (fun _=>rfl) fun _ _ h=>(by cases h)⟩,⟨.refl _,rfl,rfl,rfl,Nat.le_refl _,fun _ _ _=>rfl,fun b hb=>.inl hb,Nat.le_refl _⟩⟩
    by_cases ht:t < ds.length
    · rw [List.getElem?_append_left ht] at hd
      have h2:=hrep t d hd
      rw [Array.getD_eq_getD_getElem?, Array.getElem?_append_left (by omega),← Array.getD_eq_getD_getElem?]
      exact h2
    · rw [List.getElem?_append_right (by omega),List.getElem?_replicate] at hd
      split at hd
      · injection hd with hd
        subst hd
        trivial
      · cases hd
  · intro e s' E' a' w' hq hr
    have fin:retOk P rs Q s'→a'.defers = []∧∃ v,(results fn a'.tmps).run P w' = .ok v w'∧(∃ d v',Q d∧Ending.returned v = .returned v'∧Rep (roEnv fun b=>ro b∨(w.heap.size≤b∧b < w'.heap.size)) w' d v'∧Below w.heap.size w w'):=by
      intro hq
      unfold retOk at hq
      split at hq
      · rename_i ds' hds
        have hds':resAll P s' fn.results.toList=some ds':=by rw [hrs];exact hds
        obtain ⟨v,h3,h4⟩:=run_results hr hds' hq.1
        refine ⟨hr.df,v,h3,_,v,hq.2,rfl,h4.free hq.1 fun b hb=>?_,⟨hr.st.os,hr.st.tape,hr.st.output,hr.st.size,fun b hb=>hr.st.block b hb (fun h=>h)⟩⟩
        rcases hr.st.ro b hb with h5|h5|h5
        · exact .inl h5
        · exact .inr ⟨h5,hr.sr.rolt b hb⟩
        · exact h5.elim
      · exact hq.elim
    cases e with
    |normal=>exact fin hq
    |ret=>exact fin hq
    |_=>exact hq.elim
theorem spec_introA {P:Program}{f:FuncId}{fn:Func}{c:Code}{ds:List D}{Q:D→Prop}{rs:List ResultVar} (hf:P.funcs[f]? = some fn) (hb:fn.body=some c) (hn:(fn.name== "runtime.NumGoroutine")=false) (hrs:fn.results=rs.toArray) {nt:Nat} (hnt:fn.ntmps=nt) (hsz:ds.length≤nt)
    (h:∀ X:Ctx,X.nb=0→AwCode X P c ⟨ds++List.replicate (nt - ds.length) .none, [],0⟩ (retQ P rs Q)):Spec P f ds Q:=
  (specT_introA (T:=noT) hf hb hn hrs hnt hsz fun X hX _=>h X hX).plain
theorem spec_intro {P:Program}{f:FuncId}{fn:Func}{c:Code}{ds:List D}{Q:D→Prop}{rs:List ResultVar} (hf:P.funcs[f]? = some fn) (hb:fn.body=some c) (hn:(fn.name== "runtime.NumGoroutine")=false) (hrs:fn.results=rs.toArray) {nt:Nat} (hnt:fn.ntmps=nt) (hsz:ds.length≤nt)
    (h:∀ X:Ctx,X.nb=0→WCode X P c (retQ P rs Q) ⟨ds++List.replicate (nt - ds.length) .none, [],0⟩):Spec P f ds Q:=
  spec_introA hf hb hn hrs hnt hsz fun X hX=>wcode_sound (h X hX)
def D.lt1 (n:Nat):D→Bool
  |.own i _ _=>decide (i < n)
  |.ptr i _=>decide (i < n)
  |.mp i=>decide (i < n)
  |.fn _ cap=>cap.all fun d=>match d with|.ptr i _=>decide (i < n)|_=>true
  |_=>true
def D.ltA (n:Nat):D→Bool
  |.agg cs=>cs.all (D.lt1 n)
  |d=>d.lt1 n
def D.lt (n:Nat):D→Bool
  |.tup ds=>ds.all (D.ltA n)
  |d=>d.ltA n
def Env.cut (E:Env) (n:Nat):Env:=⟨E.ro,fun i=>if i < n then E.at_ i else none,E.tg⟩
theorem Env.cut_at {E:Env}{n i:Nat} (h:i < n):(E.cut n).at_ i=E.at_ i:=if_pos h
theorem Rep1.cut {E:Env}{w:World}{n:Nat}{d:D}{u:Value} (h:Rep1 E w d u) (hd:d.lt1 n=true):Rep1 (E.cut n) w d u:=by
  cases d with
  |none=>trivial
  |sc v=>exact h
  |sl k cs=>exact h
  |own i off k=>
    have hi:i < n:=of_decide_eq_true hd
    rcases h with ⟨l,c,h1,h2⟩|⟨h1,h2⟩
    · exact .inl ⟨l,c,(Env.cut_at hi).trans h1,h2⟩
    · exact .inr ⟨(Env.cut_at hi).trans h1,h2⟩
  |agg cs=>exact h
  |ptr i o=>
    have hi:i < n:=of_decide_eq_true hd
    obtain ⟨l,h1,h2⟩:=h
    exact ⟨l,(Env.cut_at hi).trans h1,h2⟩
  |mp i=>
    have hi:i < n:=of_decide_eq_true hd
    obtain ⟨l,h1,h2⟩:=h
    exact ⟨l,(Env.cut_at hi).trans h1,h2⟩
  |cptr cs k=>exact h
  |tup ds=>exact h
  |tr=>trivial
  |fn f cap=>
    obtain ⟨us,h1,h2,h3⟩:=h
    refine ⟨us,h1,h2,fun j d v hc hv=>?_⟩
    have h4:=h3 j d v hc hv
    have:=List.all_eq_true.1 hd _ (List.mem_of_getElem? hc)
    cases d with
    |ptr i o=>
      obtain ⟨l,h5,h6⟩:=h4
      exact ⟨l,(Env.cut_at (of_decide_eq_true this)).trans h5,h6⟩
    |_=>exact h4
theorem RepA.cut {E:Env}{w:World}{n:Nat}{d:D}{u:Value} (h:RepA E w d u) (hd:d.ltA n=true):RepA (E.cut n) w d u:=by
  by_cases ha:∀ cs,d≠.agg cs
  · rw [repA_of ha] at h ⊢
    refine h.cut ?_
    cases d<;>first|exact hd|exact absurd rfl (ha _)
  · obtain ⟨cs,ha⟩:=Classical.not_forall.1 ha
    obtain rfl:=Classical.not_not.1 ha
    obtain ⟨us,h1,h2,h3⟩:=h
    exact ⟨us,h1,h2,fun j d v hj hv=>⟨(h3 j d v hj hv).1.cut (List.all_eq_true.1 hd d (List.mem_of_getElem? hj)),(h3 j d v hj hv).2⟩⟩
theorem Rep.cut {E:Env}{w:World}{n:Nat}{d:D}{u:Value} (h:Rep E w d u) (hd:d.lt n=true):Rep (E.cut n) w d u:=by
  by_cases ha:∀ cs,d≠.tup cs
  · rw [rep_of ha] at h ⊢
    refine h.cut ?_
    cases d<;>first|exact hd|exact absurd rfl (ha _)
  · obtain ⟨cs,ha⟩:=Classical.not_forall.1 ha
    obtain rfl:=Classical.not_not.1 ha
    obtain ⟨us,h1,h2,h3⟩:=h
    exact ⟨us,h1,h2,fun j d v hj hv=>(h3 j d v hj hv).cut (List.all_eq_true.1 hd d (List.mem_of_getElem? hj))⟩
def fitTm:List D→List D→Prop
  | [], []=>True
  |d::ds,e::es=>(e = .none∨e=d)∧fitTm ds es
  |_,_=>False
theorem fitTm_at:∀ {ds es:List D},fitTm ds es→ds.length=es.length∧∀ (t:Nat) (e:D),es[t]? = some e→e = .none∨ds[t]? = some e
  | [], [],_=>⟨rfl,fun t e h=>by simp at h⟩
  |d::ds,e::es,h=>by
    obtain ⟨h1,h2⟩:=fitTm_at h.2
    refine ⟨by simp [h1],fun t e' he=>?_⟩
    rcases t with _|t
    · simp only [List.getElem?_cons_zero,Option.some.injEq] at he ⊢
      subst he
      rcases h.1 with h3|h3
      · exact .inl h3
      · exact .inr h3.symm
    · exact h2 t e' (by simpa using he)
  | [],_::_,h=>h.elim
  |_::_, [],h=>h.elim
/-- s' says no more than s. -/
def Fit (s s':St):Prop:=
  fitTm s.tm s'.tm∧(∀ p ∈ s'.os,p ∈ s.os)∧(s'.os.map (·.1)).Nodup∧s'.nb≤s.nb∧(s'.tm.all (D.lt s'.nb)=true)∧∀ p ∈ s'.os,p.1 < s'.nb∧p.2.cs.all (D.lt1 s'.nb)=true
theorem fit_sound {X:Ctx}{s s':St} (h:Fit s s') (hnb:X.nb≤s'.nb) {E:Env}{a:Act}{w:World} (hr:Rel X s E a w):Rel X s' (E.cut s'.nb) a w:=by
  obtain ⟨h1,h2,h3,h4,h5,h6⟩:=h
  obtain ⟨hl,hat⟩:=fitTm_at h1
  refine ⟨hr.sz.trans hl,fun t d hd=>?_,hr.df,⟨fun i x hi=>?_,fun i hi=>if_neg (by omega),hr.sr.rolt,fun i x j y hi hj hij l m hl' hm=>?_,h3,hr.sr.tr.keep rfl (fun b k p _ e1 e2 e3 e4=>⟨e1,rfl,e2,e3,fun j y l hj hl=>e4 j y l (h2 _ hj) (by rwa [Env.cut_at (h6 _ hj).1] at hl)⟩) fun k x' hx j ty sz n cs hj=>⟨x',h2 _ hx,hj,fun l hl=>⟨(Env.cut_at (h6 _ hx).1).trans hl,rfl⟩⟩⟩,?_⟩
  · have hlt:=List.all_eq_true.1 h5 d (List.mem_of_getElem? hd)
    rcases hat t d hd with rfl|h7
    · trivial
    · exact (hr.tm t d h7).cut hlt
  · obtain ⟨h7,h8⟩:=h6 _ hi
    obtain ⟨h9,h10⟩:=hr.sr.obs i x (h2 _ hi)
    refine ⟨h9,?_⟩
    rcases h10 with ⟨h11,h12⟩|⟨l,h11,h12,h13,h14,h15,⟨cur,h16,h17,h18⟩|h16⟩
    · exact .inl ⟨(Env.cut_at h7).trans h11,h12⟩
    · refine .inr ⟨l,(Env.cut_at h7).trans h11,h12,h13,h14,h15,.inl ⟨cur,h16,h17,fun j d hd=>?_⟩⟩
      obtain ⟨u,h19,h20,h21⟩:=h18 j d hd
      exact ⟨u,h19,h20,h21.cut (List.all_eq_true.1 h8 d (List.mem_of_getElem? hd))⟩
    · exact .inr ⟨l,(Env.cut_at h7).trans h11,h12,h13,h14,h15,.inr h16⟩
  · rw [Env.cut_at (h6 _ hi).1] at hl'
    rw [Env.cut_at (h6 _ hj).1] at hm
    exact hr.sr.apart i x j y (h2 _ hi) (h2 _ hj) hij l m hl' hm
  · refine ⟨⟨fun i l hl'=>?_,fun b hb=>hr.st.le.ro b hb⟩,hr.st.os,hr.st.tape,hr.st.output,hr.st.size,hr.st.block,hr.st.ro,hnb⟩
    have hi:i < s'.nb:=by
      rcases Nat.lt_or_ge i s'.nb with h|h
      · exact h
      · rw [X.new i (Nat.le_trans hnb h)] at hl';cases hl'
    exact (Env.cut_at hi).trans (hr.st.le.at_ i l hl')
/-- A loop: a family of states, a condition on the index, a measure. -/
theorem awloop {X:Ctx}{P:Program}{c:Code}{s:St}{Q:Exit→St→Prop}{ι:Type} (st:ι→St) (I:ι→Prop) (μ:ι→Nat) (hnb:∀ i,X.nb≤(st i).nb) (i0:ι) (hI:I i0) (h0:Fit s (st i0))
    (round:∀ i,I i→WCode X P c (thenQ (fun s'=>∃ j,I j∧μ j < μ i∧Fit s' (st j)) Q) (st i)):AwCode X P (.loop c) s Q:=by
  refine ⟨fun E a w R hr hk=>?_⟩
  have key:∀ n i,μ i < n→I i→∀ E a w,Rel X (st i) E a w→Code.rounds P c R n a w:=by
    intro n
    induction n with
    |zero=>intro i h;omega
    |succ n ih=>
      intro i hn hi E a w hr
      rw [rounds_succ]
      refine wcode_go (round i hi) E a w _ hr fun e s' E' a' w' hq hr'=>?_
      cases e with
      |normal=>
        obtain ⟨j,h1,h2,h3⟩:=hq
        exact ih j (by omega) h1 _ _ _ (fit_sound h3 (hnb j) hr')
      |_=>exact hk _ _ _ _ _ hq hr'
  exact wp_loop_rounds (μ i0+1) (key _ i0 (by omega) hI _ _ _ (fit_sound h0 (hnb i0) hr))
/-- A slice that reads as a list, flat. -/
def enc {α:Type} (cells:α→List Value) (xs:List α):List D:=(xs.flatMap cells).map .sc
theorem rep_sl {α:Type}{cells:α→List Value}{ok:α→Prop}{size:Nat} (hs:∀ x,(cells x).length=size) (h1:∀ x,∀ v ∈ cells x,v.oneCell' = true) {E:Env}{w:World}{B:Nat}{v:Value}{xs:List α} (h:SlR size (Flat cells ok) w B v xs)
    (hro:∀ b,b < B→E.ro b):Rep E w (.sl xs.length (enc cells xs)) v:=by
  obtain ⟨A,c,rfl,hn,hc,h⟩:=h
  refine .sl _ _ A c (xs.flatMap cells) (by simp [enc]) hn hc (fun j u hu=>?_) (fun j d u hd hu=>?_)
  · have hj:j < xs.length*size:=by rw [← flatMap_len cells size hs];exact (List.getElem?_eq_some_iff.1 hu).1
    have hsz:0 < size:=by
      rcases Nat.eq_zero_or_pos size with h0|h0
      · rw [h0,Nat.mul_zero] at hj;omega
      · exact h0
    have hi:j / size < xs.length:=Nat.div_lt_of_lt_mul (by rw [Nat.mul_comm];exact hj)
    obtain ⟨b,o,cs,hA,hb,hl,hcs,rfl,_⟩:=h _ hi
    have hm:=Nat.mod_lt j hsz
    have hjj:j / size*size+j % size=j:=by rw [Nat.mul_comm];exact Nat.div_add_mod j size
    refine ⟨b,o,hA,hro b hb,?_⟩
    have:=flatMap_at cells size hs xs (j / size) (j % size) hi hm
    rw [hjj,hu] at this
    have h5:=hcs (j % size) (by rw [hs];exact hm)
    rw [Nat.add_assoc,hjj] at h5
    rw [h5,← this]
  · unfold enc at hd
    rw [List.getElem?_map,hu] at hd
    injection hd with hd
    subst hd
    obtain ⟨x,_,hx⟩:=List.mem_flatMap.1 (List.mem_of_getElem? hu)
    exact .sc u (h1 x u hx)
end Go.Proofs.YtidjjfjhmlndjaaGreatDoor
namespace Go.Proofs.YtidjjfjhmlndjaaGreatDoor
open Go.RowKit
/-- Is the order one that serves for all? (i, true): number i is taken first; (i, false): it comes up alone. -/
def drawOk (ops:Array Oper):List (Nat × Bool)→Array Bool→Bool
  | [],listed=>(Region.ready .any ops listed).isEmpty
  |(i,e)::rest,listed=>decide (i < ops.size)&&(if e then Region.free .any ops listed i&&(Region.ready .any ops listed).contains i else Region.ready .any ops listed == [i])&&drawOk ops rest (listed.setIfInBounds i true)
def earlyOk (s:St) (wr ids:List Nat) (fr:Bool) (o:Oper):Bool:=match o.op with
  |.load _ x=>match s.ev x with|.ptr i _=>!wr.contains i&&ids.contains i|.cptr ..=>fr|_=>false
  |_=>true
def lateOk (s:St) (wr:List Nat) (nb:Nat) (o:Oper):Bool:=match o.op with
  |.store _ x _=>match s.ev x with|.ptr i _=>wr.contains i||decide (nb≤i)|_=>false
  |_=>true
def stepV (P:Program) (s:St) (o:Oper):Option St:=(valOp P s o).map fun d=>s.put o.dst d
def opK (o:Option Oper) (k:Oper→St→Prop) (s:St):Prop:=match o with|some o=>k o s|none=>False
theorem opK_some (o:Oper) (k:Oper→St→Prop) (s:St):opK (some o) k s=k o s:=rfl
/-- A region in that order. wr: the objects that it stores into; ids, nb: those that were there. -/
def WOrd (X:Ctx) (P:Program) (ops:List Oper) (wr ids:List Nat) (nb:Nat) (Q:St→Prop):List (Nat × Bool)→Bool→St→Prop
  | [],_,s=>Q s
  | (i, e) :: rest, fr, s => opK (ops[i]?) (fun o s => match o.guard with
      |none=>if e then earlyOk s wr ids fr o=true∧stepK (stepV P s o) (WOrd X P ops wr ids nb Q rest fr) False else lateOk s wr nb o=true∧stepK (stepOp P s o) (WOrd X P ops wr ids nb Q rest false) (AwStepF X P o s wr nb (WOrd X P ops wr ids nb Q rest false))
      |some (j,b)=>guardK (guardD ops j s) (fun s=>WOrd X P ops wr ids nb Q rest fr (s.put o.dst (.tup []))) (if b then fun s=>if e then earlyOk s wr ids fr o=true∧stepK (stepV P s o) (WOrd X P ops wr ids nb Q rest fr) False else lateOk s wr nb o=true∧stepK (stepOp P s o) (WOrd X P ops wr ids nb Q rest false) (AwStepF X P o s wr nb (WOrd X P ops wr ids nb Q rest false)) else fun s=>WOrd X P ops wr ids nb Q rest fr (s.put o.dst (.tup [])))
          (if b then fun s => WOrd X P ops wr ids nb Q rest fr (s.put o.dst (.tup [])) else fun s => if e then earlyOk s wr ids fr o = true ∧ stepK (stepV P s o) (WOrd X P ops wr ids nb Q rest fr) False else lateOk s wr nb o = true ∧ stepK (stepOp P s o) (WOrd X P ops wr ids nb Q rest false) (AwStepF X P o s wr nb (WOrd X P ops wr ids nb Q rest false))) s) s
/-- It is carried out. -/
def WOGo (X:Ctx) (P:Program) (ops:List Oper) (wr ids:List Nat) (nb:Nat) (Q:St→Prop) (e:Bool) (rest:List (Nat × Bool)) (fr:Bool) (o:Oper) (s:St):Prop:=
  if e then earlyOk s wr ids fr o=true∧stepK (stepV P s o) (WOrd X P ops wr ids nb Q rest fr) False else lateOk s wr nb o=true∧stepK (stepOp P s o) (WOrd X P ops wr ids nb Q rest false) (AwStepF X P o s wr nb (WOrd X P ops wr ids nb Q rest false))
def WOSkip (X:Ctx) (P:Program) (ops:List Oper) (wr ids:List Nat) (nb:Nat) (Q:St→Prop) (rest:List (Nat × Bool)) (fr:Bool) (o:Oper) (s:St):Prop:=WOrd X P ops wr ids nb Q rest fr (s.put o.dst (.tup []))
def WOAt (X:Ctx) (P:Program) (ops:List Oper) (wr ids:List Nat) (nb:Nat) (Q:St→Prop) (e:Bool) (rest:List (Nat × Bool)) (fr:Bool) (o:Oper) (s:St):Prop:=
  match o.guard with
  |none=>WOGo X P ops wr ids nb Q e rest fr o s
  |some (j,b)=>guardK (guardD ops j s) (WOSkip X P ops wr ids nb Q rest fr o) (if b then WOGo X P ops wr ids nb Q e rest fr o else WOSkip X P ops wr ids nb Q rest fr o) (if b then WOSkip X P ops wr ids nb Q rest fr o else WOGo X P ops wr ids nb Q e rest fr o) s
theorem word_nil (X:Ctx) (P:Program) (ops:List Oper) (wr ids:List Nat) (nb:Nat) (Q:St→Prop) (fr:Bool) (s:St):WOrd X P ops wr ids nb Q [] fr s=Q s:=rfl
theorem word_cons (X:Ctx) (P:Program) (ops:List Oper) (wr ids:List Nat) (nb:Nat) (Q:St→Prop) (i:Nat) (e:Bool) (rest:List (Nat × Bool)) (fr:Bool) (s:St):
    WOrd X P ops wr ids nb Q ((i,e)::rest) fr s=opK (ops[i]?) (WOAt X P ops wr ids nb Q e rest fr) s:=rfl
theorem woat_plain (X:Ctx) (P:Program) (ops:List Oper) (wr ids:List Nat) (nb:Nat) (Q:St→Prop) (e:Bool) (rest:List (Nat × Bool)) (fr:Bool) (dst:Option Tmp) (op:Op) (t:TypeId) (pos:String) (af:Array Edge) (s:St):
    WOAt X P ops wr ids nb Q e rest fr { dst:=dst,op:=op,type:=t,pos:=pos,after:=af,guard:=none } s=WOGo X P ops wr ids nb Q e rest fr { dst:=dst,op:=op,type:=t,pos:=pos,after:=af,guard:=none } s:=rfl
theorem woat_true (X:Ctx) (P:Program) (ops:List Oper) (wr ids:List Nat) (nb:Nat) (Q:St→Prop) (e:Bool) (rest:List (Nat × Bool)) (fr:Bool) (dst:Option Tmp) (op:Op) (t:TypeId) (pos:String) (af:Array Edge) (j:Nat) (s:St):
    WOAt X P ops wr ids nb Q e rest fr { dst:=dst,op:=op,type:=t,pos:=pos,after:=af,guard:=some (j,true) } s=guardK (guardD ops j s) (WOSkip X P ops wr ids nb Q rest fr { dst:=dst,op:=op,type:=t,pos:=pos,after:=af,guard:=some (j,true) }) (WOGo X P ops wr ids nb Q e rest fr { dst:=dst,op:=op,type:=t,pos:=pos,after:=af,guard:=some (j,true) }) (WOSkip X P ops wr ids nb Q rest fr { dst:=dst,op:=op,type:=t,pos:=pos,after:=af,guard:=some (j,true) }) s:=rfl
theorem woat_false (X:Ctx) (P:Program) (ops:List Oper) (wr ids:List Nat) (nb:Nat) (Q:St→Prop) (e:Bool) (rest:List (Nat × Bool)) (fr:Bool) (dst:Option Tmp) (op:Op) (t:TypeId) (pos:String) (af:Array Edge) (j:Nat) (s:St):
    WOAt X P ops wr ids nb Q e rest fr { dst:=dst,op:=op,type:=t,pos:=pos,after:=af,guard:=some (j,false) } s=guardK (guardD ops j s) (WOSkip X P ops wr ids nb Q rest fr { dst:=dst,op:=op,type:=t,pos:=pos,after:=af,guard:=some (j,false) }) (WOSkip X P ops wr ids nb Q rest fr { dst:=dst,op:=op,type:=t,pos:=pos,after:=af,guard:=some (j,false) }) (WOGo X P ops wr ids nb Q e rest fr { dst:=dst,op:=op,type:=t,pos:=pos,after:=af,guard:=some (j,false) }) s:=rfl
def earlyK (b:Bool) (r:Option St) (k:St→Prop):Prop:=b=true∧stepK r k False
def lateK (b:Bool) (r:Option St) (k:St→Prop) (e:Prop):Prop:=b=true∧stepK r k e
theorem earlyK_go (s:St) (k:St→Prop):earlyK true (some s) k=k s:=by simp [earlyK,stepK]
theorem lateK_go (s:St) (k:St→Prop) (e:Prop):lateK true (some s) k e=k s:=by simp [lateK,stepK]
theorem lateK_none (k:St→Prop) (e:Prop):lateK true none k e=e:=by simp [lateK,stepK]
theorem wogo_early (X:Ctx) (P:Program) (ops:List Oper) (wr ids:List Nat) (nb:Nat) (Q:St→Prop) (rest:List (Nat × Bool)) (fr:Bool) (o:Oper) (s:St):
    WOGo X P ops wr ids nb Q true rest fr o s=earlyK (earlyOk s wr ids fr o) (stepV P s o) (WOrd X P ops wr ids nb Q rest fr):=rfl
theorem wogo_late (X:Ctx) (P:Program) (ops:List Oper) (wr ids:List Nat) (nb:Nat) (Q:St→Prop) (rest:List (Nat × Bool)) (fr:Bool) (o:Oper) (s:St):
    WOGo X P ops wr ids nb Q false rest fr o s=lateK (lateOk s wr nb o) (stepOp P s o) (WOrd X P ops wr ids nb Q rest false) (AwStepF X P o s wr nb (WOrd X P ops wr ids nb Q rest false)):=rfl
theorem woskip_eq (X:Ctx) (P:Program) (ops:List Oper) (wr ids:List Nat) (nb:Nat) (Q:St→Prop) (rest:List (Nat × Bool)) (fr:Bool) (o:Oper) (s:St):WOSkip X P ops wr ids nb Q rest fr o s=WOrd X P ops wr ids nb Q rest fr (s.put o.dst (.tup [])):=rfl
theorem yielded_of {X:Ctx}{s:St}{E:Env}{a:Act}{w:World} (hr:Rel X s E a w) {ops:Array Oper}{j:Nat}{t:Bool} (ht:guardD ops.toList j s = .sc (.bool t)):yielded ops a.tmps j=some t:=by
  unfold guardD at ht
  split at ht
  · rename_i oj hoj
    split at ht
    · rename_i d hd
      have hv:a.tmps.getD d undef = .bool t:=by
        have:=hr.ev (.tmp d)
        rw [show s.ev (.tmp d)=s.get d from rfl,ht] at this
        exact this.1
      have hlt:d < a.tmps.size:=by
        unfold St.get at ht
        cases hg:s.tm[d]? with
        |none=>rw [hg] at ht;cases ht
        |some e=>rw [hr.sz];exact (List.getElem?_eq_some_iff.1 hg).1
      rw [Array.getD_eq_getD_getElem?, Array.getElem?_eq_getElem hlt] at hv
      simp only [Option.getD_some] at hv
      rw [Array.getElem?_toList] at hoj
      simp [yielded,hoj,hd,hlt,hv]
    · cases ht
  · cases ht
theorem word_sound {X:Ctx}{P:Program} (hm:P.follows .mixedOrders=true) {id:Nat}{ops:Array Oper}{Q:Exit→St→Prop}{s0:St} (wr:List Nat) (order:List (Nat × Bool)) (hlen:order.length=ops.size) (hns:Region.noSelect ops=true)
    (hok:drawOk ops order (Array.replicate ops.size false)=true) (hwr:∀ i,wr.contains i=true→(s0.os.map (·.1)).contains i=true) (h:WOrd X P ops.toList wr (s0.os.map (·.1)) s0.nb (Q .normal) order true s0):AwCode X P (.region id ops true) s0 Q:=by
  refine ⟨fun E0 a0 w00 R hr0 hk=>?_⟩
  have hr0:Rel X s0 E0 a0 { w00 with drawn:=w00.drawn+1 }:=by
    obtain ⟨h1,h2,h3,h4,h5⟩:=hr0
    exact ⟨h1, fun t d hd => (h2 t d hd).keep (.refl _) fun _ _ => rfl, h3, ⟨fun i x hi => (h4.obs i x hi).keep (.refl _) (fun _ _ => rfl) fun l hl => ⟨rfl, by
      rcases (h4.obs i x hi).2 with ⟨h5,_⟩|⟨m',h5,_,h6,_⟩
      · rw [hl] at h5;cases h5
      · rw [hl] at h5; injection h5 with h5; injection h5 with h5; subst h5; exact h6⟩, h4.new, h4.rolt, h4.apart, h4.nodup, h4.tr.keep rfl (fun b k p _ e1 e2 e3 e4 => ⟨e1, rfl, e2, e3, e4⟩) fun k x' hx j ty sz n cs hj => ⟨x', hx, hj, fun l hl => ⟨hl, rfl⟩⟩⟩, ⟨h5.le, h5.os, h5.tape, h5.output, h5.size, h5.block, h5.ro, h5.nb⟩⟩
  generalize hw0:({ w00 with drawn:=w00.drawn+1 }:World)=w0 at hr0
  let Sb:Nat→Prop:=fun b=>E0.ro b∨∃ j x l,(j,x) ∈ s0.os∧wr.contains j=false∧E0.at_ j=some (some l)∧l.g=b
  let S:World→Prop:=fun w=>∀ b,Sb b→w.heap[b]? = w0.heap[b]?
  let R':Exit→Act→World→Prop:=fun e a w=>e = .normal∧R .normal a w
  have hSlt:∀ b,Sb b→b < w0.heap.size:=by
    rintro b (hb|⟨j,x,l,hj,_,hl,rfl⟩)
    · exact hr0.sr.rolt b hb
    · exact hr0.sr.lt hj hl
  refine wp_mono (Q:=R') (wp_region_held (S:=S) hm ?_) (by rintro e a w ⟨rfl,h⟩;exact h)
  rw [hw0]
  have key:∀ (order:List (Nat × Bool)) (fr:Bool) (listed:Array Bool) (fuel:Nat) (s:St) (E:Env) (a:Act) (w:World),order.length≤fuel→drawOk ops order listed=true→
      WOrd X P ops.toList wr (s0.os.map (·.1)) s0.nb (Q .normal) order fr s→Rel X s E a w→E0.le E→w0.heap.size≤w.heap.size→((∀ i l,E0.at_ i=none→E.at_ i=some (some l)→¬ Sb l.g)∧∀ b,Sb b→E.tg b=none)→(fr=true→E=E0)→S w→
      wpAnyH P .any ops R' S fuel listed a w:=by
    intro order
    induction order with
    |nil=>
      intro fr listed fuel s E a w _ hd hq hr _ _ _ _ _
      have hready:Region.ready .any ops listed = []:=by simpa [drawOk] using hd
      exact wpAnyH_done hready ⟨rfl,hk _ _ _ _ _ hq hr⟩ fuel
    |cons p rest ih=>
      intro fr listed fuel s E a w hfuel hd hq hr hle hsz hnew hfr hS
      obtain ⟨i,e⟩:=p
      obtain ⟨fuel,rfl⟩:∃ n,fuel=n+1:=⟨fuel - 1,by simp at hfuel;omega⟩
      have hfuel':rest.length≤fuel:=by simpa using hfuel
      simp only [drawOk,Bool.and_eq_true,decide_eq_true_eq] at hd
      obtain ⟨⟨hi,hd1⟩,hd2⟩:=hd
      have hio:ops[i]? = some ops[i]:=Array.getElem?_eq_getElem hi
      have hil:ops.toList[i]? = some ops[i]:=by rw [Array.getElem?_toList,hio]
      unfold WOrd at hq
      rw [hil,opK_some] at hq
      -- an operation that is passed over
      have skip:Region.wanted ops[i] (yielded ops a.tmps)=false→WOrd X P ops.toList wr (s0.os.map (·.1)) s0.nb (Q .normal) rest fr (s.put ops[i].dst (.tup []))→wpAnyH P .any ops R' S (fuel+1) listed a w:=by
        intro hw hq
        have hrest:=ih fr (listed.setIfInBounds i true) fuel _ E _ w hfuel' hd2 hq (hr.skip ops[i].dst) hle hsz hnew hfr hS
        cases e with
        |true=>
          simp only [if_true,Bool.and_eq_true] at hd1
          exact wpAnyH_take hio hns hd1.1 hd1.2 (fun c a w h=>by cases h.1) (.inr ⟨hw,rfl⟩) hS hrest
        |false=>
          simp only [Bool.false_eq_true,if_false,beq_iff_eq] at hd1
          refine wpAnyH_all hd1 (by simp) fun k hk=>?_
          obtain rfl:k=i:=by simpa using hk
          unfold wpOp
          rw [hio]
          simp only [hw,Bool.false_eq_true,if_false]
          exact ⟨hS,hrest⟩
      -- one that is carried out
      have go:Region.wanted ops[i] (yielded ops a.tmps)=true→(if e then earlyOk s wr (s0.os.map (·.1)) fr ops[i]=true∧stepK (stepV P s ops[i]) (WOrd X P ops.toList wr (s0.os.map (·.1)) s0.nb (Q .normal) rest fr) False else lateOk s wr s0.nb ops[i]=true∧stepK (stepOp P s ops[i]) (WOrd X P ops.toList wr (s0.os.map (·.1)) s0.nb (Q .normal) rest false) (AwStepF X P ops[i] s wr s0.nb (WOrd X P ops.toList wr (s0.os.map (·.1)) s0.nb (Q .normal) rest false)))→wpAnyH P .any ops R' S (fuel+1) listed a w:=by
        intro hw hq
        cases e with
        |true=>
          simp only [if_true,Bool.and_eq_true] at hd1
          simp only [if_true] at hq
          obtain ⟨he,hq⟩:=hq
          unfold stepK at hq
          split at hq
          · rename_i s' hv0
            obtain ⟨d,hv,rfl⟩:∃ d,valOp P s ops[i]=some d∧s' = s.put ops[i].dst d:=by
              unfold stepV at hv0
              cases hv:valOp P s ops[i] with
              |none=>rw [hv] at hv0;cases hv0
              |some d=>rw [hv] at hv0;injection hv0 with hv0;exact ⟨d,rfl,hv0.symm⟩
            obtain ⟨v,h1,h2⟩:=val_sound (X:=X) hv E a w hr
            refine wpAnyH_take hio hns hd1.1 hd1.2 (fun c a w h=>by cases h.1) (v:=v) (.inl ⟨hw,fun w1 hS1=>h2 w1 ⟨fun hrc b hb=>?_,fun k l hk hl=>?_⟩⟩) hS
              (ih fr (listed.setIfInBounds i true) fuel _ E _ w hfuel' hd2 hq (hr.put _ h1) hle hsz hnew hfr hS)
            · have hfr':fr=true:=by
                unfold rcOf at hrc
                unfold earlyOk at he
                split at hrc
                · rename_i t x ho
                  split at hrc
                  · rename_i cs k hx
                    simp only [ho,hx] at he
                    exact he
                  · cases hrc
                · cases hrc
              rw [hfr hfr'] at hb
              exact (hS1 b (.inl hb)).trans (hS b (.inl hb)).symm
            · have hk':wr.contains k=false∧(s0.os.map (·.1)).contains k=true:=by
                unfold rdOf at hk
                unfold earlyOk at he
                split at hk
                · rename_i t x ho
                  split at hk
                  · rename_i k' q hx
                    injection hk with hk
                    subst hk
                    simp only [ho,hx,Bool.and_eq_true,Bool.not_eq_true'] at he
                    exact he
                  · cases hk
                · cases hk
              obtain ⟨p,hp,hpk⟩:=List.mem_map.1 (List.contains_iff_mem.1 hk'.2)
              obtain ⟨k0,x⟩:=p
              simp only at hpk
              subst hpk
              have hl0:E0.at_ k0=some (some l):=by
                rcases (hr0.sr.obs _ x hp).2 with ⟨h5,_⟩|⟨m',h5,_⟩
                · rw [hle.at_ _ _ h5] at hl;cases hl
                · have:=hle.at_ _ _ h5
                  rw [this] at hl
                  rw [h5,hl]
              have hb:Sb l.g:=.inr ⟨_,x,l,hp,hk'.1,hl0,rfl⟩
              exact (hS1 _ hb).trans (hS _ hb).symm
          · exact hq.elim
        |false=>
          simp only [Bool.false_eq_true,if_false,beq_iff_eq] at hd1
          simp only [Bool.false_eq_true,if_false] at hq
          obtain ⟨hl,hq⟩:=hq
          refine wpAnyH_all hd1 (by simp) fun k hk=>?_
          obtain rfl:k=i:=by simpa using hk
          unfold wpOp
          rw [hio]
          simp only [hw,if_true]
          refine .inl ?_
          have fin:∀ (T:Nat→Prop) s' E' a' w',(∀ i l,T i→E.at_ i=some (some l)→∀ b,Sb b→l.g≠b)→WOrd X P ops.toList wr (s0.os.map (·.1)) s0.nb (Q .normal) rest false s'→Rel X s' E' a' w'→FrT T E w E' w'→S w'∧wpAnyH P .any ops R' S fuel (listed.setIfInBounds k true) a' w':=by
            intro T s' E' a' w' htg hq hr' hf
            have hS':S w':=fun b hb=>(hf.block b (Nat.lt_of_lt_of_le (hSlt b hb) hsz) (hnew.2 b hb) fun i l h1 h2=>htg i l h1 h2 b hb).trans (hS b hb)
            refine ⟨hS',ih false _ fuel s' E' a' w' hfuel' hd2 hq hr' (hle.trans hf.le) (Nat.le_trans hsz hf.size) ⟨fun i l h1 h2=>?_,fun b hb=>?_⟩ (fun h=>by cases h) hS'⟩
            · cases hE:E.at_ i with
              |none=>
                intro hb
                rcases hf.new i l hE h2 with h3|⟨k',m,h3,h4,h5⟩|h3
                · have:=hSlt _ hb;omega
                · exact htg k' m h3 h4 _ hb h5
                · exact h3 (hnew.2 _ hb)
              |some m=>
                have:=hf.le.at_ _ _ hE
                rw [this] at h2
                injection h2 with h2
                subst h2
                exact hnew.1 i l h1 hE
            · cases hE':E'.tg b with
              |none=>rfl
              |some q=>
                exfalso
                rcases hf.tag b (hnew.2 b hb) (by rw [hE'];simp) with h3|⟨k',m,h3,h4,h5⟩
                · have:=hSlt _ hb;omega
                · exact htg k' m h3 h4 _ hb h5
          have apart:∀ i l,wr.contains i=true∨s0.nb≤i→E.at_ i=some (some l)→∀ b,Sb b→l.g≠b:=by
            intro i l hc h2 b hb
            rcases hc with hc|hc
            · obtain ⟨p,hp,hpk⟩:=List.mem_map.1 (List.contains_iff_mem.1 (hwr i hc))
              obtain ⟨k0,x⟩:=p
              simp only at hpk
              subst hpk
              have hl0:E0.at_ k0=some (some l)∧¬ E0.ro l.g:=by
                rcases (hr0.sr.obs _ x hp).2 with ⟨h5,_⟩|⟨m',h5,_,h6,_⟩
                · rw [hle.at_ _ _ h5] at h2;cases h2
                · have:=hle.at_ _ _ h5
                  rw [this] at h2
                  injection h2 with h2
                  injection h2 with h2
                  subst h2
                  exact ⟨h5,h6⟩
              rcases hb with hb|⟨j,y,m,hj,hjw,hm',rfl⟩
              · intro e;subst e;exact hl0.2 hb
              · exact hr0.sr.apart _ x j y hp hj (fun e=>by subst e;rw [hc] at hjw;cases hjw) l m hl0.1 hm'
            · intro e;subst e
              exact hnew.1 i l (hr0.sr.new i hc) h2 hb
          unfold stepK at hq
          split at hq
          · rename_i s' hs
            refine stepOp_sound hs E a w _ _ hr fun E' a' w' hr' hf=>fin _ s' E' a' w' (fun i l h1 h2 b hb=>?_) hq hr' hf.toT
            refine apart i l ?_ h2 b hb
            unfold tgt at h1
            unfold lateOk at hl
            split at h1
            · rename_i t x y ho
              split at h1
              · rename_i i' q hx
                injection h1 with h1
                subst h1
                simp only [ho,hx,Bool.or_eq_true,decide_eq_true_eq] at hl
                exact hl
              · cases h1
            · cases h1
          · exact hq.out E a w _ _ hr fun s' E' a' w' hq' hr' hf=>fin _ s' E' a' w' apart hq' hr' hf
      cases hg:ops[i].guard with
      |none=>
        rw [hg] at hq
        exact go (by simp [Region.wanted,hg]) hq
      |some jb=>
        obtain ⟨j,b⟩:=jb
        rw [hg] at hq
        simp only at hq
        unfold guardK at hq
        cases hsk:skipD (guardD ops.toList j s) with
        |true=>
          rw [hsk] at hq
          exact skip (by simp [Region.wanted,hg,yielded_skip hr (skipD_ hsk)]) hq
        |false=>
        rw [hsk] at hq
        simp only [cond_false] at hq
        unfold boolK at hq
        split at hq
        · rename_i t ht
          have hy:=yielded_of hr ht
          obtain ⟨hq1,hq2⟩:=hq
          cases t<;>cases b
          · exact go (by simp [Region.wanted,hg,hy]) (hq2 rfl)
          · exact skip (by simp [Region.wanted,hg,hy]) (hq2 rfl)
          · exact skip (by simp [Region.wanted,hg,hy]) (hq1 rfl)
          · exact go (by simp [Region.wanted,hg,hy]) (hq1 rfl)
        · exact hq.elim
  exact key order true _ ops.size s0 E0 a0 w0 (by omega) hok h hr0 (.refl _) (Nat.le_refl _) ⟨fun i l h1 h2 => (by rw [h1] at h2; cases h2), fun b hb => by
    cases ht:E0.tg b with
    |none=>rfl
    |some q=>
      exfalso
      obtain ⟨_,_,e3,e4⟩:=hr0.sr.tr.blk b q.1 q.2 ht
      rcases hb with hb|⟨j,x,l,h1,_,h2,h3⟩
      · exact e3 hb
      · exact e4 j x l h1 h2 h3⟩ (fun _ => rfl) (fun b _ => rfl)
end Go.Proofs.YtidjjfjhmlndjaaGreatDoor
namespace Go.Proofs.YtidjjfjhmlndjaaGreatDoor
open Go.RowKit
/-- What a law's walk asks for. -/
theorem spec_law {P:Program}{f:FuncId}{ds:List D} (h:Spec P f ds fun d=>d = .sc (.bool true)) (w:World) (args:Array Value) (hsz:args.size=ds.length) (hrep:∀ (j:Nat) (d:D),ds[j]? = some d→Rep (roEnv fun b=>b < w.heap.size) w d (args.getD j undef)) (hT:TT (fun b=>b < w.heap.size) w.heap:=by exact tt_any _ _):
    Calls P f args w fun e w'=>e = .returned (.bool true)∧Below w.heap.size w w':=
  (h.2 (fun b=>b < w.heap.size) w args ⟨fun _ h=>h,hT⟩ hsz hrep).mono fun e w' ⟨d,v,hd,he,hv,hb⟩=>by
    subst hd
    have:v = .bool true:=hv.1
    subst this
    exact ⟨he,hb⟩
theorem callable {P:Program}{f:FuncId}{fn:Func}{c:Code} (hf:P.funcs[f]? = some fn) (hb:fn.body=some c) (hn:(fn.name== "runtime.NumGoroutine")=false) (args:Array Value) (w:World):(callFunc f args).run P w = .ok (.enter f args) w:=by
  have h1:fn.name≠ "runtime.NumGoroutine":=by simpa using hn
  simp [callFunc,hf,h1,hb]
def fillK (b:Bool) (place:Nat→Option (Nat × Nat)) (cs:List D) (rest:List (Nat × D)):Option (List D):=if b=true then fillD place cs rest else none
def fillP (q:Option (Nat × Nat)) (place:Nat→Option (Nat × Nat)) (cs:List D) (d:D) (rest:List (Nat × D)):Option (List D):=match q with
  |some (off,size)=>fillK (d.known&&(decide (d.cells.length=size)&&decide (off+size≤cs.length))) place (setL cs off d.cells) rest
  |none=>none
theorem fillD_nil (place:Nat→Option (Nat × Nat)) (cs:List D):fillD place cs []=some cs:=rfl
theorem fillD_cons (place:Nat→Option (Nat × Nat)) (cs:List D) (i:Nat) (d:D) (rest:List (Nat × D)):fillD place cs ((i,d)::rest)=fillP (place i) place cs d rest:=by
  rw [fillD]
  cases place i with
  |none=>rfl
  |some q=>simp [fillP,fillK]
theorem fillP_some (off size:Nat) (place:Nat→Option (Nat × Nat)) (cs:List D) (d:D) (rest:List (Nat × D)):fillP (some (off,size)) place cs d rest=fillK (d.known&&(decide (d.cells.length=size)&&decide (off+size≤cs.length))) place (setL cs off d.cells) rest:=rfl
theorem fillK_true (place:Nat→Option (Nat × Nat)) (cs:List D) (rest:List (Nat × D)):fillK true place cs rest=fillD place cs rest:=rfl
theorem ba_size (a:Array UInt8):ByteArray.size ⟨a⟩=a.size:=rfl
theorem wrap_in (n:Int) (h:-9223372036854775808≤n∧n≤9223372036854775807):IntKind.i64.wrap n=n:=IntWalk.i64_in _ h
theorem wrap_nat (n:Nat) (h:n≤9223372036854775807):IntKind.i64.wrap (n:Int)=(n:Int):=IntWalk.i64_in _ (by omega)
end Go.Proofs.YtidjjfjhmlndjaaGreatDoor
namespace Go.Proofs.YtidjjfjhmlndjaaGreatDoor
open Go.RowKit
theorem run_app_at {P:Program} (w:World) (base:Nat) (t ty e:TypeId) (i:TypeInfo) (z:Value) (size bytes:Nat) (ht:P.underlying t=some (.slice e)) (hi:P.info? e=some i) (hz:i.zero=some z)
    (hsize:i.size=size) (hby:i.bytes=bytes) (hzs:z.cells.size=size) (hsz:0 < size)
    (v:Value) (n:Nat) (xs:List Value) (hown:w.ownsRow base e size v n xs)
    (u:Value) (m:Nat) (news:List Value) (hl:news.length=m*size) (hu:FlatAt w u m news) (h1:∀ u ∈ news,u.oneCell' = true)
    (h63:n+m≤maxLen) (hbytes:(n+m)*bytes≤140737488355328) (hbase:base≤w.heap.size):
    ∃ v' w',(Builtin.append_ #[t,t] ty #[v,u]).run P w = .ok v' w'∧w'.ownsRow base e size v' (n+m) (xs++news)∧w.grownBy w' v.ownBlock∧(v'.ownBlock=v.ownBlock∨v'.ownBlock=some w.heap.size):=by
  obtain ⟨A,c,rfl,hu⟩:=hu
  have hnil:m=0→news = []:=fun h=>List.eq_nil_of_length_eq_zero (by rw [hl,h,Nat.zero_mul])
  rcases A with _|ad
  · have hm:m=0:=by
      rcases Nat.eq_zero_or_pos m with h|h
      · exact h
      · obtain ⟨_,_,h,_⟩:=hu h
        cases h
    have hn:=hnil hm
    subst hm hn
    refine ⟨v,w,?_,by simpa using hown,World.grownBy.refl w _,.inl rfl⟩
    rcases hown.2 with ⟨rfl,rfl⟩|⟨g,cap,cur,rfl,_,_,hnc,_⟩
    · simp [Builtin.append_,run_underlying ht,sizeOf,typeInfo,hi,Builtin.lenOf,Builtin.firstCells]
    · simp [Builtin.append_,run_underlying ht,sizeOf,typeInfo,hi,Builtin.lenOf,Builtin.firstCells,hnc,storeCells]
  · have hcells:∀ j u,news[j]? = some u→w.cell? (ad.add j)=some u:=by
      intro j u hj
      rcases Nat.eq_zero_or_pos m with h|h
      · rw [hnil h] at hj
        simp at hj
      · obtain ⟨b,o,e,_,hc⟩:=hu h
        obtain rfl:ad=⟨b,o,none⟩:=by simpa using e
        rw [Addr.add_lit]
        exact hc j u hj
    obtain ⟨v',w',h2,h3,h4,_,h5⟩:=run_append_own_at (P:=P) w base t ty e i z size bytes ht hi hz hsize hby hzs hsz v n xs hown ad m c news hl hcells h1 h63 hbytes hbase
    exact ⟨v',w',h2,h3,h4,h5⟩
/-- What is appended to: an object or nothing; what is appended. -/
def baseD (s:St):D→Option (Option Nat × Nat × List D)
  |.sc (.slice none 0 0)=>some (none,0, [])
  |.own i 0 n=>match s.ob i with|some x=>if x.len=n then some (some i,n,x.cs) else none|none=>none
  |_=>none
def srcD (s:St):D→Option (Nat × List D)
  |.sc (.slice none 0 0)=>some (0, [])
  |.sl m cs=>some (m,cs)
  |.own j off m=>match s.ob j with|some x=>if off+m*x.size≤x.cs.length then some (m,(x.cs.drop off).take (m*x.size)) else none|none=>none
  |_=>none
def dropOb (os:List (Nat × Ob)) (i:Option Nat):List (Nat × Ob):=match i with|some i=>os.filter fun p=>!(p.1==i)|none=>os
def St.app (s:St) (i:Option Nat) (x:Ob):St:={ s with os:=(s.nb,x)::dropOb s.os i,nb:=s.nb+1 }
theorem dropOb_sub {os:List (Nat × Ob)}{i:Option Nat}{p:Nat × Ob} (h:p ∈ dropOb os i):p ∈ os∧some p.1≠i:=by
  unfold dropOb at h
  cases i with
  |none=>exact ⟨h,by simp⟩
  |some i=>
    obtain ⟨h1,h2⟩:=List.mem_filter.1 h
    exact ⟨h1,by simpa using h2⟩
theorem dropOb_nodup {os:List (Nat × Ob)}{i:Option Nat} (h:(os.map (·.1)).Nodup):((dropOb os i).map (·.1)).Nodup:=by
  unfold dropOb
  cases i with
  |none=>exact h
  |some i=>exact h.sublist ((List.filter_sublist).map _)
theorem flat_of {X:Ctx}{s:St}{E:Env}{a:Act}{w:World} (hr:Rel X s E a w) {y:Operand}{m:Nat}{ds:List D} (h:srcD s (s.ev y)=some (m,ds)) (size:Nat) (hsz:0 < size) (hl:ds.length=m*size):
    ∃ news:List Value,news.length=ds.length∧FlatAt w (a.eval y) m news∧∀ (j:Nat) (d:D) (u:Value),ds[j]? = some d→news[j]? = some u→Rep1 E w d u∧u.oneCell' = true:=by
  have hy:=hr.ev y
  have hpos:0 < m→0 < ds.length:=fun hm=>by rw [hl];exact Nat.mul_pos hm hsz
  unfold srcD at h
  split at h
  · rename_i hd
    rw [hd] at hy
    injection h with h
    injection h with h1 h2
    subst h1;subst h2
    exact ⟨[],rfl,⟨none,0,hy.1,fun h=>by omega⟩,fun j d u hd=>by simp at hd⟩
  · rename_i m' cs hd
    rw [hd] at hy
    injection h with h
    injection h with h1 h2
    subst h1;subst h2
    cases hv:a.eval y with
    |slice A n' c=>
      rw [hv] at hy
      have hy2:RepP E.ro w (.sl m' cs) (.slice A n' c):=hy
      cases hy2 with
      |sl _ _ _ _ us hul hn hc hcell hrep=>
        refine ⟨us,hul,?_,fun j d u hd hu=>(hrep j d u hd hu).to1⟩
        by_cases h0:us = []
        · subst h0
          refine ⟨A,c,rfl,fun hm=>?_⟩
          have:=hpos hm
          simp at hul
          omega
        · obtain ⟨b,o,rfl,hb,_⟩:=hcell 0 (us[0]'(List.length_pos_iff.2 h0)) (List.getElem?_eq_getElem _)
          refine ⟨_,c,rfl,fun _=>⟨b,o,rfl,hr.sr.rolt b hb,fun j u hu=>?_⟩⟩
          obtain ⟨b',o',e1,_,h5⟩:=hcell j u hu
          injection e1 with e1
          injection e1 with e1 e2
          subst e1;subst e2
          exact h5
    |_=>rw [hv] at hy;cases hy
  · rename_i j off m' hd
    rw [hd] at hy
    split at h
    · rename_i x hx
      split at h
      · rename_i hle
        injection h with h
        injection h with h1 h2
        subst h1;subst h2
        rcases hy with ⟨l,c,hl',hv,hnc,_⟩|⟨_,rfl,rfl,hv⟩
        · obtain ⟨us,e1,e2,e3⟩:=hr.cells (St.ob_some hx).2 (mem_of_lookup (St.ob_some hx).1) hl' off (m' * x.size) hle
          refine ⟨us,by rw [e1];simp;omega,⟨_,c,hv,fun _=>⟨l.g,off,rfl,hr.sr.lt (mem_of_lookup (St.ob_some hx).1) hl',e2⟩⟩,e3⟩
        · refine ⟨[],by simp,⟨none,0,hv,fun h=>by omega⟩,fun j d u hd=>by simp at hd⟩
      · cases h
    · cases h
  · cases h
theorem baseD_ {X:Ctx}{s:St}{E:Env}{a:Act}{w:World} (hr:Rel X s E a w) {x:Operand}{i:Option Nat}{n:Nat}{cs:List D} (h:baseD s (s.ev x)=some (i,n,cs)) (e:TypeId) (size:Nat) (_hsz:0 < size)
    (hty:∀ k,i=some k→∀ y,s.ob k=some y→y.ty=e∧y.size=size∧¬ e=1000000):
    ∃ xs:List Value,w.ownsRow 0 e size (a.eval x) n xs∧xs.length=cs.length∧(∀ (j:Nat) (d:D) (u:Value),cs[j]? = some d→xs[j]? = some u→Rep1 E w d u∧u.oneCell' = true)∧cs.length=n*size∧
      (∀ g,(a.eval x).ownBlock=some g→∃ k y l,i=some k∧(k,y) ∈ s.os∧E.at_ k=some (some l)∧l.g=g)∧(i=none→cs = [])∧
      ∀ k,i=some k→∃ y,(k,y) ∈ s.os∧cs=y.cs∧∀ l,E.at_ k=some (some l)→∀ (j:Nat) (v:Value),xs[j]? = some v→w.cell? ⟨l.g,j,none⟩=some v:=by
  have hx:=hr.ev x
  unfold baseD at h
  split at h
  · rename_i hd
    rw [hd] at hx
    injection h with h
    injection h with h1 h2
    injection h2 with h2 h3
    subst h1;subst h2;subst h3
    have hv:a.eval x = .slice none 0 0:=hx.1
    rw [hv]
    exact ⟨[],World.ownsRow_nil w 0 e size,rfl,fun j d u hd=>by simp at hd,by simp,fun g hg=>(by simp [Value.ownBlock] at hg),fun _=>rfl,fun k hk=>(by cases hk)⟩
  · rename_i k n' hd
    rw [hd] at hx
    split at h
    · rename_i y hy
      split at h
      · rename_i hlen
        injection h with h
        injection h with h1 h2
        injection h2 with h2 h3
        subst h1;subst h2;subst h3
        obtain ⟨hte,hts,hne⟩:=hty k rfl y hy
        have hmem:=mem_of_lookup (St.ob_some hy).1
        rcases hx with ⟨l,c,hl,hv,hnc,hcm,hcc⟩|⟨hnone,_,h0,hv⟩
        · obtain ⟨h5,h6,h7,cur,h8,h9,h10⟩:=hr.ob (St.ob_some hy).2 hmem hl
          have hc:c=l.cap:=hcc rfl
          have hle:y.cs.length≤cur.size:=by rw [h5,h9];exact Nat.mul_le_mul_right _ h6
          refine ⟨cur.toList.take y.cs.length,?_,by simp;omega,fun j d u hd hu=>?_,by rw [h5,hlen,hts],fun g hg=>⟨k,y,l,rfl,hmem,hl,?_⟩,fun h=>(by cases h),fun k' hk'=>⟨y,by injection hk' with hk';rw [← hk'];exact hmem,rfl,fun m hm j v hv=>?_⟩⟩
          · rw [hv]
            refine ⟨by simp;rw [← hts,← hlen,← h5];omega,.inr ⟨l.g,c,cur,rfl,Nat.zero_le _,by rw [h8.row (by rw [hte];exact hne),hte],hnc,hcm,by rw [h9,hc,hts],by rw [h5,hlen,hts]⟩⟩
          · obtain ⟨u',e1,e2,e3⟩:=h10 j d hd
            rw [List.getElem?_take] at hu
            split at hu
            · rw [Array.getElem?_toList,e1] at hu
              injection hu with hu
              subst hu
              exact ⟨e3,e2⟩
            · cases hu
          · rw [hv] at hg
            simpa [Value.ownBlock] using hg
          · injection hk' with hk'
            subst hk'
            rw [hl] at hm
            injection hm with hm;injection hm with hm;subst hm
            rw [List.getElem?_take] at hv
            split at hv
            · rw [h8.cell j]
              rw [Array.getElem?_toList] at hv
              exact hv
            · cases hv
        · subst h0
          have h5:=(hr.sr.obs k y hmem).1 (St.ob_some hy).2
          rw [hlen,Nat.zero_mul] at h5
          have:y.cs = []:=List.eq_nil_of_length_eq_zero h5
          rw [this,hv]
          exact ⟨[],World.ownsRow_nil w 0 e size,rfl,fun j d u hd=>by simp at hd,by simp,fun g hg=>(by simp [Value.ownBlock] at hg),fun h=>(by cases h),fun k' hk'=>⟨y,by injection hk' with hk';rw [← hk'];exact hmem,this.symm,fun m hm j v hv=>by simp at hv⟩⟩
      · cases h
    · cases h
  · cases h
def ntOb:Option Ob→Bool
  |some x=>x.cs.all D.nt
  |none=>true
/-- What is appended holds no owned slices. -/
def srcNt (s:St):D→Bool
  |.own j _ _=>ntOb (s.ob j)
  |_=>true
theorem repP_nt {ro:Nat→Prop}{w:World}{d:D}{u:Value} (h:RepP ro w d u):d.nt=true:=by cases h<;>rfl
theorem srcNt_ {X:Ctx}{s:St}{E:Env}{a:Act}{w:World} (hr:Rel X s E a w) {y:Operand}{m:Nat}{ds:List D} (h:srcD s (s.ev y)=some (m,ds)) (hn:srcNt s (s.ev y)=true):ds.all D.nt=true:=by
  have hy:=hr.ev y
  unfold srcD at h
  split at h
  · injection h with h;injection h with h1 h2;subst h2;rfl
  · rename_i m' cs hd
    rw [hd] at hy
    injection h with h;injection h with h1 h2;subst h2
    cases hv:a.eval y with
    |slice A n' c=>
      rw [hv] at hy
      have hy2:RepP E.ro w (.sl m' cs) (.slice A n' c):=hy
      cases hy2 with
      |sl _ _ _ _ us hul _ _ _ hrep=>
        refine List.all_eq_true.2 fun d hd=>?_
        obtain ⟨j,hj,rfl⟩:=List.getElem_of_mem hd
        have:=hrep j cs[j] us[j] (List.getElem?_eq_getElem hj) (List.getElem?_eq_getElem (by omega))
        exact repP_nt this
    |_=>rw [hv] at hy;cases hy
  · rename_i j off m' hd
    rw [hd] at hn
    split at h
    · rename_i x hx
      split at h
      · injection h with h;injection h with h1 h2;subst h2
        simp only [srcNt,hx,ntOb] at hn
        exact List.all_eq_true.2 fun d hd=>List.all_eq_true.1 hn d (List.mem_of_mem_drop (List.mem_of_mem_take hd))
      · cases h
    · cases h
  · cases h
def Env.app (E:Env) (i:Option Nat) (nb:Nat) (l:Option Loc):Env:=⟨E.ro,fun j=>if j=nb then some l else E.at_ j,fun b=>match E.tg b with|some (k,p)=>if some k=i then some (nb,p) else some (k,p)|none=>none⟩
theorem Env.app_le {E:Env}{i:Option Nat}{nb:Nat}{l:Option Loc} (h:E.at_ nb=none):E.le (E.app i nb l):=⟨(Env.with_le h).at_,(Env.with_le (l:=l) h).ro⟩
theorem Env.app_at {E:Env}{i:Option Nat}{nb:Nat}{l:Option Loc}:(E.app i nb l).at_ nb=some l:=if_pos rfl
theorem Env.app_ne {E:Env}{i:Option Nat}{nb j:Nat}{l:Option Loc} (h:j≠nb):(E.app i nb l).at_ j=E.at_ j:=if_neg h
/-- append. -/
theorem awappendF {X:Ctx}{P:Program}{o:Oper}{s:St}{wr:List Nat}{nb:Nat}{x y:Operand}{t:TypeId}{K:St→Prop} (ho:o.op = .call { callee:=.builtin .append,args:=#[x,y],argTypes:=#[t,t] })
    {e size bytes:Nat}{z:Value} (hel:elemK P t=some (e,size)) (hinfo:(P.info? e).map (fun i=>(i.zero,i.size,i.bytes))=some (some z,size,bytes)) (hzs:z.cells.size=size) (hsz:0 < size)
    {i:Option Nat}{n:Nat}{cs:List D} (hbase:baseD s (s.ev x)=some (i,n,cs)) (hty:∀ k,i=some k→∀ q,s.ob k=some q→q.ty=e∧q.size=size∧¬ e=1000000)
    {m:Nat}{ds:List D} (hsrc:srcD s (s.ev y)=some (m,ds)) (hl:ds.length=m*size) (hnt0:srcNt s (s.ev y)=true) (h63:n+m≤maxLen) (hbytes:(n+m)*bytes≤140737488355328)
    (hk:K ((s.app i ⟨e,size,n+m,cs++ds⟩).put o.dst (.own s.nb 0 (n+m)))) (hwr:∀ k,i=some k→wr.contains k=true∨nb≤k):AwStepF X P o s wr nb K:=by
  refine ⟨fun E a w K' R hr hK=>?_⟩
  obtain ⟨hu,_⟩:=elemK_ hel
  obtain ⟨inf,hi,hz,hsize,hby⟩:=info_parts hinfo
  obtain ⟨xs,hown,hxl,hxr,hcl,hblk,hno,hbase2⟩:=baseD_ hr hbase e size hsz hty
  obtain ⟨news,hnl,hflat,hnr⟩:=flat_of hr hsrc size hsz hl
  have hnt:=srcNt_ hr hsrc hnt0
  have h1:∀ u ∈ news,u.oneCell' = true:=fun u hu'=>by
    obtain ⟨j,hj,rfl⟩:=List.getElem_of_mem hu'
    exact (hnr j (ds[j]'(by omega)) news[j] (List.getElem?_eq_getElem _) (List.getElem?_eq_getElem hj)).2
  obtain ⟨v',w',hrun,hown',hg,hloc⟩:=run_app_at (P:=P) w 0 t o.type e inf z size bytes hu hi hz hsize hby hzs hsz _ n xs hown _ m news (by rw [hnl,hl]) hflat h1 h63 hbytes (Nat.zero_le _)
  have hex:(execOp a.eval o).run P w = .ok (.value v') w':=by
    unfold execOp
    simp only [ho,resolve,invoke,builtin,Sem.run_bind,Sem.run_pure,Result.andThen_ok,List.map_toArray,List.map_cons,List.map_nil,hrun]
  unfold Oper.wp
  rw [hex]
  show K' (a.put o.dst v') w'
  have hnew:=hr.sr.new s.nb (Nat.le_refl _)
  have hro:∀ b,E.ro b→w'.heap[b]? = w.heap[b]? :=by
    intro b hb
    refine hg.block b (hr.sr.rolt b hb) fun he=>?_
    obtain ⟨k,q,l,_,hm,hl',rfl⟩:=hblk b he.symm
    rcases (hr.sr.obs k q hm).2 with ⟨h5,_⟩|⟨m',h5,_,h6,_⟩
    · rw [hl'] at h5;cases h5
    · rw [hl'] at h5;injection h5 with h5;injection h5 with h5;subst h5;exact h6 hb
  -- the new object's place
  obtain ⟨loc,hval,hob⟩:∃ loc:Option Loc,Rep1 (E.app i s.nb loc) w' (.own s.nb 0 (n+m)) v'∧
      ((loc=none∧n+m=0)∨∃ l cur,loc=some l∧(l.g=w.heap.size∨∃ k q l',i=some k∧(k,q) ∈ s.os∧E.at_ k=some (some l')∧l'.g=l.g)∧n+m≤l.cap∧l.cap≤maxLen∧w'.heap[l.g]? = some (.cells cur e (0,0))∧cur.size=l.cap*size∧cur.toList.take ((n+m)*size)=xs++news):=by
    rcases hown'.2 with ⟨rfl,h0⟩|⟨g,cap,cur,rfl,_,h5,h6,h7,h8,h9⟩
    · exact ⟨none,.inr ⟨Env.app_at,rfl,h0,rfl⟩,.inl ⟨rfl,h0⟩⟩
    · refine ⟨some ⟨g,cap⟩,.inl ⟨⟨g,cap⟩,cap,Env.app_at,rfl,h6,h7,fun _=>rfl⟩,.inr ⟨⟨g,cap⟩,cur,rfl,?_,h6,h7,h5,h8,h9⟩⟩
      rcases hloc with h10|h10
      · have:(a.eval x).ownBlock=some g:=by rw [← h10];rfl
        obtain ⟨k,q,l,h11,h12,h13,h14⟩:=hblk g this
        exact .inr ⟨k,q,l,h11,h12,h13,h14⟩
      · left
        simpa [Value.ownBlock] using h10
  have hle:E.le (E.app i s.nb loc):=Env.app_le hnew
  refine hK _ _ _ _ hk ((⟨hr.sz,fun t d hd=>(hr.tm t d hd).keep hle hro,hr.df,⟨fun j q hq=>?_,fun j hj=>?_,hr.sr.rolt.grow (fun _ h=>h) hro fun b hb=>Nat.lt_of_lt_of_le (hr.sr.rolt b hb) hg.size,?_,?_,?_⟩,?_⟩:Rel X (s.app i ⟨e,size,n+m,cs++ds⟩) (E.app i s.nb loc) a w').put o.dst (Rep.of1 hval)) ⟨hle,hg.size,fun b hb _ hT=>hg.block b hb fun he=>?_,fun j l h1 h2=>?_,fun b h1 h2=>absurd (show (match E.tg b with|some (k,p)=>if some k=i then some (s.nb,p) else some (k,p)|none=>none)=none by rw [h1]) h2⟩
  · rcases List.mem_cons.1 hq with hq|hq
    · injection hq with e1 e2
      subst e1;subst e2
      refine ⟨fun _=>by show (cs++ds).length=_;rw [List.length_append,hcl,hl,Nat.add_mul],?_⟩
      rcases hob with ⟨rfl,h0⟩|⟨l,cur,rfl,hwhere,hcap,hmax,hcur,hcs,htake⟩
      · exact .inl ⟨Env.app_at,h0⟩
      · refine .inr ⟨l,Env.app_at,?_,?_,hcap,hmax,.inl ⟨cur,.inl hcur,hcs,fun j d hd=>?_⟩⟩
        · rcases hwhere with h5|⟨k,q,l',_,h6,h7,h8⟩
          · exact .inl (by rw [h5];exact hr.st.size)
          · rcases (hr.sr.obs k q h6).2 with ⟨h9,_⟩|⟨m',h9,h10,_⟩
            · rw [h7] at h9;cases h9
            · rw [h7] at h9;injection h9 with h9;injection h9 with h9;subst h9;rw [← h8];exact h10
        · rcases hwhere with h5|⟨k,q,l',_,h6,h7,h8⟩
          · intro hb;have:=hr.sr.rolt _ hb;omega
          · rcases (hr.sr.obs k q h6).2 with ⟨h9,_⟩|⟨m',h9,_,h10,_⟩
            · rw [h7] at h9;cases h9
            · rw [h7] at h9;injection h9 with h9;injection h9 with h9;subst h9;rw [← h8];exact h10
        · have hd':(cs++ds)[j]? = some d:=hd
          have hjl:j < (cs++ds).length:=(List.getElem?_eq_some_iff.1 hd').1
          have hjx:j < (xs++news).length:=by simp at hjl ⊢;omega
          have hcell:(xs++news)[j]? = cur[j]? :=by
            rw [← htake,List.getElem?_take,if_pos (by rw [List.length_append,hcl,hl,← Nat.add_mul] at hjl;exact hjl),Array.getElem?_toList]
          refine ⟨(xs++news)[j],by rw [← hcell];exact List.getElem?_eq_getElem hjx,?_⟩
          have both:Rep1 E w d (xs++news)[j]∧((xs++news)[j]).oneCell' = true:=by
            by_cases hj:j < xs.length
            · rw [List.getElem?_append_left (by omega)] at hd'
              have:=hxr j d xs[j] hd' (List.getElem?_eq_getElem hj)
              rw [List.getElem_append_left hj]
              exact this
            · rw [List.getElem?_append_right (by omega)] at hd'
              have hjn:j - xs.length < news.length:=by simp at hjx;omega
              have:=hnr (j - xs.length) d news[j - xs.length] (by rw [hxl];exact hd') (List.getElem?_eq_getElem hjn)
              rw [List.getElem_append_right (by omega)]
              exact this
          exact ⟨both.2,both.1.keep hle hro⟩
    · obtain ⟨hq1,hq2⟩:=dropOb_sub hq
      refine (hr.sr.obs j q hq1).keep hle hro fun l hl'=>⟨hg.block _ (hr.sr.lt hq1 hl') fun he=>?_,?_⟩
      · obtain ⟨k,q',l',h5,h6,h7,h8⟩:=hblk _ he.symm
        exact hr.sr.apart j q k q' hq1 h6 (fun e=>hq2 (by rw [h5,e])) l l' hl' h7 h8.symm
      · rcases (hr.sr.obs j q hq1).2 with ⟨h5,_⟩|⟨m',h5,_,h6,_⟩
        · rw [hl'] at h5;cases h5
        · rw [hl'] at h5;injection h5 with h5;injection h5 with h5;subst h5;exact h6
  · have hj':s.nb+1≤j:=hj
    rw [Env.app_ne (by omega)]
    exact hr.sr.new j (by omega)
  · have newapart:∀ j q l lm,(j,q) ∈ s.os→some j≠i→loc=some l→E.at_ j=some (some lm)→l.g≠lm.g:=by
      intro j q l lm hj hji hloc' hlm he
      rcases hob with ⟨h5,_⟩|⟨l2,cur,h5,hwhere,_⟩
      · rw [h5] at hloc';cases hloc'
      · rw [h5] at hloc'
        injection hloc' with hloc'
        subst hloc'
        rcases hwhere with h6|⟨k,q',l',h6,h7,h8,h9⟩
        · have:=hr.sr.lt hj hlm
          omega
        · exact hr.sr.apart k q' j q h7 hj (fun e=>hji (by rw [h6,e])) l' lm h8 hlm (h9.trans he)
    intro j q k q' hj hk' hjk l lm hlj hlk
    rcases List.mem_cons.1 hj with hj|hj<;>rcases List.mem_cons.1 hk' with hk'|hk'
    · injection hj with e1 _;injection hk' with e2 _;omega
    · injection hj with e1 _
      subst e1
      rw [Env.app_at] at hlj
      injection hlj with hlj
      obtain ⟨h5,h6⟩:=dropOb_sub hk'
      rw [Env.app_ne (fun e=>hjk e.symm)] at hlk
      exact newapart k q' l lm h5 h6 hlj hlk
    · injection hk' with e1 _
      subst e1
      rw [Env.app_at] at hlk
      injection hlk with hlk
      obtain ⟨h5,h6⟩:=dropOb_sub hj
      rw [Env.app_ne hjk] at hlj
      exact (newapart j q lm l h5 h6 hlk hlj).symm
    · obtain ⟨h5,_⟩:=dropOb_sub hj
      obtain ⟨h6,_⟩:=dropOb_sub hk'
      rw [Env.app_ne (by have:=hr.sr.idlt h5;omega)] at hlj
      rw [Env.app_ne (by have:=hr.sr.idlt h6;omega)] at hlk
      exact hr.sr.apart j q k q' h5 h6 hjk l lm hlj hlk
  · show (s.nb::(dropOb s.os i).map (·.1)).Nodup
    rw [List.nodup_cons]
    refine ⟨fun hm=>?_,dropOb_nodup hr.sr.nodup⟩
    obtain ⟨p,hp,he⟩:=List.mem_map.1 hm
    have:=hr.sr.idlt (i:=p.1) (x:=p.2) (dropOb_sub hp).1
    omega
  · refine hr.sr.tr.map (fun _=>True) (fun k=>if some k=i then s.nb else k) (fun b k' p hq=>?_) (fun b k p hq _=>?_) (fun b k p hq _ h1 h2 h3 h4=>?_) fun k' x' hx j ty sz q cs' hj=>?_
    · have hq':(match E.tg b with|some (k,p)=>if some k=i then some (s.nb,p) else some (k,p)|none=>none)=some (k',p):=hq
      cases ht:E.tg b with
      |none=>rw [ht] at hq';cases hq'
      |some kp=>
        obtain ⟨k,p0⟩:=kp
        rw [ht] at hq'
        simp only at hq'
        split at hq'<;>(injection hq' with hq';injection hq' with _ e2;subst e2;exact ⟨k,rfl,trivial⟩)
    · show (match E.tg b with|some (k,p)=>if some k=i then some (s.nb,p) else some (k,p)|none=>none)=some (if some k=i then s.nb else k,p)
      rw [hq]
      by_cases hk:some k=i
      · simp only [hk,if_true]
      · simp only [hk,if_false]
    · refine ⟨Nat.lt_of_lt_of_le h1 hg.size,hg.block b h1 fun he=>?_,h2,h3,fun j y l hj hl'=>?_⟩
      · obtain ⟨k2,q2,l2,_,e1,e2,e3⟩:=hblk b he.symm
        exact h4 k2 q2 l2 e1 e2 e3
      · rcases List.mem_cons.1 hj with hj|hj
        · injection hj with e1 _
          subst e1
          rw [Env.app_at] at hl'
          injection hl' with hl'
          rcases hob with ⟨h5,_⟩|⟨l2,cur,h5,hwhere,_⟩
          · rw [h5] at hl';cases hl'
          · rw [h5] at hl'
            injection hl' with hl'
            subst hl'
            rcases hwhere with h6|⟨k2,q2,l',_,h7,h8,h9⟩
            · rw [h6];exact Nat.ne_of_gt h1
            · rw [← h9];exact h4 k2 q2 l' h7 h8
        · obtain ⟨h5,_⟩:=dropOb_sub hj
          rw [Env.app_ne (Nat.ne_of_lt (hr.sr.idlt h5))] at hl'
          exact h4 j y l h5 hl'
    · rcases List.mem_cons.1 hx with hx|hx
      · injection hx with e1 e2
        subst e1;subst e2
        have hj':(cs++ds)[j]? = some (.tr ty sz q cs'):=hj
        by_cases hjl:j < cs.length
        · rw [List.getElem?_append_left hjl] at hj'
          have hi:∃ k,i=some k:=by
            cases hi:i with
            |none=>rw [hno hi] at hjl;simp at hjl
            |some k=>exact ⟨k,rfl⟩
          obtain ⟨k,hk⟩:=hi
          obtain ⟨y,hy,hcy,hyc⟩:=hbase2 k hk
          refine ⟨k,y,trivial,if_pos hk.symm,hy,by rw [← hcy];exact hj',fun l hl'=>?_⟩
          have hjx:j < xs.length:=by rw [hxl];exact hjl
          have h5:=hyc l hl' j xs[j] (List.getElem?_eq_getElem hjx)
          rcases hob with ⟨_,h6⟩|⟨l2,cur,h6,_,_,_,hcur,_,htake⟩
          · have:n=0:=by omega
            rw [hcl,this,Nat.zero_mul] at hjl
            omega
          · refine ⟨l2,by rw [h6];exact Env.app_at,?_⟩
            rw [h5,cell_of_row w' l2.g j cur e (0,0) hcur]
            have hcell:(xs++news)[j]? = cur[j]? :=by
              rw [← htake,List.getElem?_take,if_pos (by rw [hcl] at hjl;rw [Nat.add_mul];omega),Array.getElem?_toList]
            rw [← hcell,List.getElem?_append_left hjx]
            exact List.getElem?_eq_getElem hjx
        · rw [List.getElem?_append_right (by omega)] at hj'
          have:=List.all_eq_true.1 hnt _ (List.mem_of_getElem? hj')
          cases this
      · obtain ⟨h5,h6⟩:=dropOb_sub hx
        refine ⟨k',x',trivial,if_neg h6,h5,hj,fun l hl'=>⟨l,(Env.app_ne (Nat.ne_of_lt (hr.sr.idlt h5))).trans hl',World.cell?_of_block (a:=⟨l.g,j,none⟩) (hg.block _ (hr.sr.lt h5 hl') fun he=>?_)⟩⟩
        obtain ⟨k2,q',l',h7,h8,h9,h10⟩:=hblk _ he.symm
        exact hr.sr.apart k' x' k2 q' h5 h8 (fun e=>h6 (by rw [h7,e])) l l' hl' h9 h10.symm
  · refine ⟨hr.st.le.trans hle,hg.os.trans hr.st.os,hg.tape.trans hr.st.tape,hg.output.trans hr.st.output,Nat.le_trans hr.st.size hg.size,fun b h5 h6=>?_,hr.st.ro,Nat.le_succ_of_le hr.st.nb⟩
    refine (hg.block b (Nat.lt_of_lt_of_le h5 hr.st.size) fun he=>?_).trans (hr.st.block b h5 h6)
    obtain ⟨k,q,l,_,h7,h8,rfl⟩:=hblk b he.symm
    rcases (hr.sr.obs k q h7).2 with ⟨h9,_⟩|⟨m',h9,h10,_⟩
    · rw [h8] at h9;cases h9
    · rw [h8] at h9;injection h9 with h9;injection h9 with h9;subst h9
      rcases h10 with h10|h10
      · omega
      · exact h6 h10
  · obtain ⟨k,q,l,h5,_,h7,h8⟩:=hblk b he.symm
    exact hT k l (hwr k h5) h7 h8
  · by_cases hj:j=s.nb
    · subst hj
      rw [Env.app_at] at h2
      injection h2 with h2
      rcases hob with ⟨h5,_⟩|⟨l2,cur,h5,hwhere,_⟩
      · rw [h5] at h2;cases h2
      · rw [h5] at h2
        injection h2 with h2
        subst h2
        rcases hwhere with h6|⟨k,q',l',h6,_,h8,h9⟩
        · exact .inl (Nat.le_of_eq h6.symm)
        · exact .inr (.inl ⟨k,l',hwr k h6,h8,h9⟩)
    · rw [Env.app_ne hj,h1] at h2
      cases h2
end Go.Proofs.YtidjjfjhmlndjaaGreatDoor
namespace Go.Proofs.YtidjjfjhmlndjaaGreatDoor
open Go.RowKit
def D.ren1 (f:Nat→Nat):D→D
  |.own i off n=>.own (f i) off n
  |.ptr i o=>.ptr (f i) o
  |.mp i=>.mp (f i)
  |.fn g cap=>.fn g (cap.map fun d=>match d with|.ptr i o=>.ptr (f i) o|d=>d)
  |d=>d
def D.renA (f:Nat→Nat):D→D
  |.agg cs=>.agg (cs.map (D.ren1 f))
  |d=>d.ren1 f
def D.ren (f:Nat→Nat):D→D
  |.tup ds=>.tup (ds.map (D.renA f))
  |d=>d.renA f
def Ob.ren (f:Nat→Nat) (x:Ob):Ob:={ x with cs:=x.cs.map (D.ren1 f) }
def D.in1 (p:Nat→Bool):D→Bool
  |.own i _ _=>p i
  |.ptr i _=>p i
  |.mp i=>p i
  |.fn _ cap=>cap.all fun d=>match d with|.ptr i _=>p i|_=>true
  |_=>true
def D.inA (p:Nat→Bool):D→Bool
  |.agg cs=>cs.all (D.in1 p)
  |d=>d.in1 p
def D.inn (p:Nat→Bool):D→Bool
  |.tup ds=>ds.all (D.inA p)
  |d=>d.inA p
def every:Nat→Bool:=fun _=>true
theorem D.in1_every (d:D):d.in1 every=true:=by
  cases d with
  |fn g cap=>exact List.all_eq_true.2 fun d _=>by cases d<;>rfl
  |_=>rfl
theorem D.inA_every (d:D):d.inA every=true:=by
  by_cases h:∃ ds,d = .agg ds
  · obtain ⟨ds,rfl⟩:=h
    exact List.all_eq_true.2 fun d _=>d.in1_every
  · have h1:=d.in1_every
    cases d<;>first|exact h1|exact absurd ⟨_,rfl⟩ h
theorem D.inn_every (d:D):d.inn every=true:=by
  by_cases h:∃ ds,d = .tup ds
  · obtain ⟨ds,rfl⟩:=h
    exact List.all_eq_true.2 fun d _=>d.inA_every
  · have h1:=d.inA_every
    cases d<;>first|exact h1|exact absurd ⟨_,rfl⟩ h
structure Env.via (p:Nat→Bool) (E E':Env) (f:Nat→Nat):Prop where
  at_:∀ i l,p i=true→E.at_ i=some l→E'.at_ (f i)=some l
  ro:∀ b,E.ro b→E'.ro b
theorem Rep1.ren {p:Nat→Bool}{E E':Env}{w:World}{f:Nat→Nat}{d:D}{u:Value} (h:Rep1 E w d u) (hp:d.in1 p=true) (hE:E.via p E' f):Rep1 E' w (d.ren1 f) u:=by
  cases d with
  |none=>trivial
  |sc v=>exact h
  |sl n cs=>exact RepP.keep h hE.ro fun _ _=>rfl
  |own i off n=>
    rcases h with ⟨l,c,h1,h2⟩|⟨h1,h2⟩
    · exact .inl ⟨l,c,hE.at_ _ _ hp h1,h2⟩
    · exact .inr ⟨hE.at_ _ _ hp h1,h2⟩
  |agg cs=>exact h
  |ptr i o=>
    obtain ⟨l,h1,h2⟩:=h
    exact ⟨l,hE.at_ _ _ hp h1,h2⟩
  |mp i=>
    obtain ⟨l,h1,h2⟩:=h
    exact ⟨l,hE.at_ _ _ hp h1,h2⟩
  |cptr cs k=>
    obtain ⟨b,o,us,h1,h2,h3,h4,h5⟩:=h
    exact ⟨b,o,us,h1,hE.ro b h2,h3,h4,fun j d v hd hv=>(h5 j d v hd hv).keep hE.ro fun _ _=>rfl⟩
  |tup ds=>exact h
  |tr=>trivial
  |fn g cap=>
    obtain ⟨us,h1,h2,h3⟩:=h
    refine ⟨us,h1,by simp [h2],fun j e v hc hv=>?_⟩
    rw [List.getElem?_map] at hc
    cases hj:cap[j]? with
    |none=>rw [hj] at hc;cases hc
    |some d=>
      rw [hj] at hc
      have h6:=h3 j d v hj hv
      have:=List.all_eq_true.1 hp _ (List.mem_of_getElem? hj)
      injection hc with hc
      subst hc
      cases d with
      |ptr i' o'=>
        obtain ⟨l,h4,h5⟩:=h6
        exact ⟨l,hE.at_ _ _ this h4,h5⟩
      |sl n cs=>exact RepP.keep h6 hE.ro fun _ _=>rfl
      |cptr cs k=>
        obtain ⟨b,o,us,e1,e2,e3,e4,e5⟩:=h6
        exact ⟨b,o,us,e1,hE.ro b e2,e3,e4,fun j d v hd hv=>(e5 j d v hd hv).keep hE.ro fun _ _=>rfl⟩
      |sc v=>exact h6
      |_=>trivial
theorem RepA.ren {p:Nat→Bool}{E E':Env}{w:World}{f:Nat→Nat}{d:D}{u:Value} (h:RepA E w d u) (hp:d.inA p=true) (hE:E.via p E' f):RepA E' w (d.renA f) u:=by
  by_cases ha:∀ cs,d≠.agg cs
  · rw [repA_of ha] at h
    have hp':d.in1 p=true:=by cases d<;>first|exact hp|exact absurd rfl (ha _)
    have h2:=h.ren hp' hE
    cases d<;>first|exact h2|exact absurd rfl (ha _)
  · obtain ⟨cs,ha⟩:=Classical.not_forall.1 ha
    obtain rfl:=Classical.not_not.1 ha
    obtain ⟨us,h1,h2,h3⟩:=h
    refine ⟨us,h1,by simp [h2],fun j d v hj hv=>?_⟩
    rw [List.getElem?_map] at hj
    cases hc:cs[j]? with
    |none=>rw [hc] at hj;cases hj
    |some e=>
      rw [hc] at hj
      injection hj with hj
      subst hj
      obtain ⟨h4,h5⟩:=h3 j e v hc hv
      exact ⟨h4.ren (List.all_eq_true.1 hp _ (List.mem_of_getElem? hc)) hE,h5⟩
theorem Rep.ren {p:Nat→Bool}{E E':Env}{w:World}{f:Nat→Nat}{d:D}{u:Value} (h:Rep E w d u) (hp:d.inn p=true) (hE:E.via p E' f):Rep E' w (d.ren f) u:=by
  by_cases ha:∀ cs,d≠.tup cs
  · rw [rep_of ha] at h
    have hp':d.inA p=true:=by cases d<;>first|exact hp|exact absurd rfl (ha _)
    have h2:=h.ren hp' hE
    cases d<;>first|exact h2|exact absurd rfl (ha _)
  · obtain ⟨cs,ha⟩:=Classical.not_forall.1 ha
    obtain rfl:=Classical.not_not.1 ha
    obtain ⟨us,h1,h2,h3⟩:=h
    refine ⟨us,h1,by simp [h2],fun j d v hj hv=>?_⟩
    rw [List.getElem?_map] at hj
    cases hc:cs[j]? with
    |none=>rw [hc] at hj;cases hj
    |some e=>
      rw [hc] at hj
      injection hj with hj
      subst hj
      exact (h3 j e v hc hv).ren (List.all_eq_true.1 hp _ (List.mem_of_getElem? hc)) hE
theorem mapOk_ren {cs:List D}{es:Array MapEntry}{f:Nat→Nat} (h:MapOk cs es):MapOk (cs.map (D.ren1 f)) es:=by
  refine ⟨?_,h.2⟩
  rw [h.1,List.map_cons,List.map_flatMap]
  rfl
theorem ObAt.ren {p:Nat→Bool}{W W':Nat→Prop}{E E':Env}{w:World}{j:Nat}{x:Ob}{f:Nat→Nat} (h:ObAt W E w j x) (hp:p j=true) (hc:x.cs.all (D.in1 p)=true) (hE:E.via p E' f)
    (hW:∀ l,E.at_ j=some (some l)→W l.g→¬ E.ro l.g→W' l.g∧¬ E'.ro l.g):ObAt W' E' w (f j) (x.ren f):=by
  refine ⟨fun hs=>by show (x.cs.map _).length=_;rw [List.length_map];exact h.1 hs,?_⟩
  rcases h.2 with ⟨h1,h2⟩|⟨l,h1,h2,h3,h4,h5,⟨cur,h6,h7,h8⟩|⟨h6,es,clock,h7,h8⟩⟩
  · exact .inl ⟨hE.at_ _ _ hp h1,h2⟩
  · obtain ⟨h9,h10⟩:=hW l h1 h2 h3
    refine .inr ⟨l,hE.at_ _ _ hp h1,h9,h10,h4,h5,.inl ⟨cur,h6,h7,fun i d hd=>?_⟩⟩
    have hd':(x.cs.map (D.ren1 f))[i]? = some d:=hd
    rw [List.getElem?_map] at hd'
    cases hi:x.cs[i]? with
    |none=>rw [hi] at hd';cases hd'
    |some e=>
      rw [hi] at hd'
      injection hd' with hd'
      subst hd'
      obtain ⟨u,h11,h12,h13⟩:=h8 i e hi
      exact ⟨u,h11,h12,h13.ren (List.all_eq_true.1 hc _ (List.mem_of_getElem? hi)) hE⟩
  · obtain ⟨h9,h10⟩:=hW l h1 h2 h3
    exact .inr ⟨l,hE.at_ _ _ hp h1,h9,h10,h4,h5,.inr ⟨h6,es,clock,h7,mapOk_ren h8⟩⟩
def sg:List Nat→Nat→Nat
  | [],_=>0
  |j::ρ,i=>if i=j then 0 else sg ρ i+1
theorem sg_at:∀ {ρ:List Nat}{i:Nat},ρ.contains i=true→ρ[sg ρ i]? = some i
  | [],i,h=>by simp at h
  |j::ρ,i,h=>by
    unfold sg
    split
    · rename_i e;subst e;rfl
    · rename_i e
      rw [List.getElem?_cons_succ]
      refine sg_at ?_
      simp at h ⊢
      rcases h with h|h
      · exact absurd h e
      · exact h
theorem sg_inj {ρ:List Nat}{i j:Nat} (hi:ρ.contains i=true) (hj:ρ.contains j=true) (h:sg ρ i=sg ρ j):i=j:=by
  have h1:=sg_at hi
  rw [h,sg_at hj] at h1
  injection h1 with h1
  exact h1.symm
def Env.hand (E:Env) (ρ:List Nat):Env:=⟨E.ro,fun i=>match ρ[i]? with|some j=>E.at_ j|none=>none,fun b=>match E.tg b with|some (k,p)=>if ρ.contains k=true then some (sg ρ k,p) else none|none=>none⟩
theorem Env.hand_of {E:Env}{ρ:List Nat}{i j:Nat} (h:ρ[i]? = some j):(E.hand ρ).at_ i=E.at_ j:=by
  show (match ρ[i]? with|some j=>E.at_ j|none=>none)=_
  rw [h]
theorem Env.hand_via (E:Env) (ρ:List Nat):E.via ρ.contains (E.hand ρ) (sg ρ):=⟨fun _ _ hp h=>(Env.hand_of (sg_at hp)).trans h,fun _ h=>h⟩
def handOs (os:List (Nat × Ob)) (f:Nat→Nat):List Nat→List (Nat × Ob)
  | []=> []
  |j::l=>match os.lookup j with|some x=>(f j,x.ren f)::handOs os f l|none=>handOs os f l
theorem mem_handOs {os:List (Nat × Ob)}{f:Nat→Nat}{i:Nat}{y:Ob}:∀ {l:List Nat},(i,y) ∈ handOs os f l→∃ j x,j ∈ l∧os.lookup j=some x∧i=f j∧y=x.ren f
  | [],h=>by cases h
  |j::l,h=>by
    unfold handOs at h
    split at h
    · rename_i x hx
      rcases List.mem_cons.1 h with h|h
      · injection h with h1 h2
        exact ⟨j,x,List.mem_cons_self ..,hx,h1,h2⟩
      · obtain ⟨j',x',h1,h2⟩:=mem_handOs h
        exact ⟨j',x',List.mem_cons_of_mem _ h1,h2⟩
    · obtain ⟨j',x',h1,h2⟩:=mem_handOs h
      exact ⟨j',x',List.mem_cons_of_mem _ h1,h2⟩
theorem handOs_nodup {os:List (Nat × Ob)}{f:Nat→Nat}:∀ {l:List Nat},l.Nodup→(∀ i ∈ l,∀ j ∈ l,f i=f j→i=j)→((handOs os f l).map (·.1)).Nodup
  | [],_,_=>List.nodup_nil
  |j::l,h,hf=>by
    have h':=List.nodup_cons.1 h
    have ih:=handOs_nodup (os:=os) h'.2 fun i hi k hk=>hf i (List.mem_cons_of_mem _ hi) k (List.mem_cons_of_mem _ hk)
    unfold handOs
    split
    · rw [List.map_cons,List.nodup_cons]
      refine ⟨fun hm=>?_,ih⟩
      obtain ⟨⟨i,y⟩,hp,he⟩:=List.mem_map.1 hm
      obtain ⟨k,x,h1,_,h3,_⟩:=mem_handOs hp
      have he':i=f j:=he
      have:=hf k (List.mem_cons_of_mem _ h1) j (List.mem_cons_self ..) (h3.symm.trans he')
      subst this
      exact h'.1 h1
    · exact ih
/-- The objects ρ hold no others. -/
def insOk (os:List (Nat × Ob)) (ρ:List Nat) (miss:Bool):Bool:=ρ.all fun j=>match os.lookup j with|some x=>x.cs.all (D.in1 ρ.contains)|none=>miss
theorem insOk_at {os:List (Nat × Ob)}{ρ:List Nat}{miss:Bool} (h:insOk os ρ miss=true) {j:Nat}{x:Ob} (hj:j ∈ ρ) (hx:os.lookup j=some x):x.cs.all (D.in1 ρ.contains)=true:=by
  have:=List.all_eq_true.1 h j hj
  rw [hx] at this
  exact this
theorem insOk_some {os:List (Nat × Ob)}{ρ:List Nat} (h:insOk os ρ false=true) {j:Nat} (hj:j ∈ ρ):∃ x,os.lookup j=some x:=by
  have:=List.all_eq_true.1 h j hj
  cases hx:os.lookup j with
  |none=>rw [hx] at this;cases this
  |some x=>exact ⟨x,rfl⟩
theorem hand_sr {W W':Nat→Prop}{E:Env}{os:List (Nat × Ob)}{nb:Nat}{w:World} (h:SR W E os nb w) (ρ:List Nat) (hρ:ρ.Nodup) {miss:Bool} (hin:insOk os ρ miss=true)
    (hW:∀ j x l,j ∈ ρ→os.lookup j=some x→E.at_ j=some (some l)→W l.g→W' l.g) (hT:∀ b k p,E.tg b=some (k,p)→ρ.contains k=true→W b→W' b):SR W' (E.hand ρ) (handOs os (sg ρ) ρ) ρ.length w:=by
  refine ⟨fun i y hy=>?_,fun i hi=>?_,h.rolt,fun i y j z hy hz hij l m hl hm=>?_,handOs_nodup hρ fun i hi j hj=>sg_inj (by simpa using hi) (by simpa using hj),?_⟩
  · obtain ⟨j,x,h1,h2,rfl,rfl⟩:=mem_handOs hy
    exact (h.obs j x (mem_of_lookup h2)).ren (by simpa using h1) (insOk_at hin h1 h2) (E.hand_via ρ) fun l hl hw hr=>⟨hW j x l h1 h2 hl hw,hr⟩
  · show (match ρ[i]? with|some j=>E.at_ j|none=>none)=none
    rw [List.getElem?_eq_none hi]
  · obtain ⟨i',x,h1,h2,rfl,rfl⟩:=mem_handOs hy
    obtain ⟨j',x',h3,h4,rfl,rfl⟩:=mem_handOs hz
    rw [Env.hand_of (sg_at (by simpa using h1))] at hl
    rw [Env.hand_of (sg_at (by simpa using h3))] at hm
    exact h.apart i' x j' x' (mem_of_lookup h2) (mem_of_lookup h4) (fun e=>hij (by rw [e])) l m hl hm
  · refine h.tr.map (fun k=>ρ.contains k=true) (sg ρ) (fun b k' p hq=>?_) (fun b k p hq hA=>?_) (fun b k p hq hA h1 h2 h3 h4=>⟨h1,rfl,hT b k p hq hA h2,h3,fun j y l hj hl=>?_⟩) fun k' x' hx j ty sz n cs hj=>?_
    · have hq':(match E.tg b with|some (k,p)=>if ρ.contains k=true then some (sg ρ k,p) else none|none=>none)=some (k',p):=hq
      cases ht:E.tg b with
      |none=>rw [ht] at hq';cases hq'
      |some kp=>
        obtain ⟨k,p0⟩:=kp
        rw [ht] at hq'
        simp only at hq'
        split at hq'
        · rename_i hA
          injection hq' with hq';injection hq' with _ e2;subst e2
          exact ⟨k,rfl,hA⟩
        · cases hq'
    · show (match E.tg b with|some (k,p)=>if ρ.contains k=true then some (sg ρ k,p) else none|none=>none)=some (sg ρ k,p)
      rw [hq]
      exact if_pos hA
    · obtain ⟨j0,x,e1,e2,rfl,rfl⟩:=mem_handOs hj
      rw [Env.hand_of (sg_at (by simpa using e1))] at hl
      exact h4 j0 x l (mem_of_lookup e2) hl
    · obtain ⟨j0,x,e1,e2,rfl,rfl⟩:=mem_handOs hx
      have hj':(x.cs.map (D.ren1 (sg ρ)))[j]? = some (.tr ty sz n cs):=hj
      rw [List.getElem?_map] at hj'
      cases hx2:x.cs[j]? with
      |none=>rw [hx2] at hj';cases hj'
      |some d=>
        rw [hx2] at hj'
        injection hj' with hj'
        have hd:d = .tr ty sz n cs:=by cases d<;>simp only [D.ren1,reduceCtorEq] at hj'<;>exact hj'
        exact ⟨j0,x,by simpa using e1,rfl,mem_of_lookup e2,by rw [hx2,hd],fun l hl=>⟨l,(Env.hand_of (sg_at (by simpa using e1))).trans hl,rfl⟩⟩
/-- A contract with objects: the function is handed the objects os (numbers 0, 1, .., k in all), and hands back os'. -/
def SpecH (P:Program) (f:FuncId) (ds:List D) (os:List (Nat × Ob)) (k:Nat) (Q:D→List (Nat × Ob)→Nat→Prop):Prop:=
  (∀ (args:Array Value) (w:World),(callFunc f args).run P w = .ok (.enter f args) w)∧
  ∀ (E:Env) (M:Nat→Prop) (w:World) (args:Array Value),SR M E os k w→args.size=ds.length→(∀ (j:Nat) (d:D),ds[j]? = some d→Rep E w d (args.getD j undef))→
    Calls P f args w fun e w'=>∃ d os' nb' E' v,Q d os' nb'∧e = .returned v∧Rep E' w' d v∧SR (fun g=>w.heap.size≤g∨M g) E' os' nb' w'∧k≤nb'∧E.le E'∧
      w'.os=w.os∧w'.tape=w.tape∧w'.output=w.output∧w.heap.size≤w'.heap.size∧(∀ b,b < w.heap.size→¬ M b→w'.heap[b]? = w.heap[b]?)∧(∀ b,E'.ro b→E.ro b∨w.heap.size≤b∨M b)∧(∀ i l,k≤i→E'.at_ i=some (some l)→w.heap.size≤l.g∨M l.g)
def D.flat:D→Bool
  |.tup _=>false
  |_=>true
/-- What is handed back: the objects that were handed, and ids. -/
def retAt (P:Program) (rs:List ResultVar) (k:Nat) (Q:D→List (Nat × Ob)→Nat→Prop) (s:St) (ids:List Nat):Prop:=
  match resAll P s rs with
  |some ds=>(ds.all D.flat=true∧ds.all (D.inn (List.range k++ids).contains)=true∧(List.range k++ids).Nodup∧insOk s.os (List.range k++ids) true=true∧ids.all (fun j=>(s.os.lookup j).isSome)=true)∧
      Q (tupD (ds.map (D.ren (sg (List.range k++ids))))) (handOs s.os (sg (List.range k++ids)) (List.range k++ids)) (List.range k++ids).length
  |none=>False
def retOkH (P:Program) (rs:List ResultVar) (k:Nat) (Q:D→List (Nat × Ob)→Nat→Prop) (s:St):Prop:=∃ ids,retAt P rs k Q s ids
def retQH (P:Program) (rs:List ResultVar) (k:Nat) (Q:D→List (Nat × Ob)→Nat→Prop):Exit→St→Prop
  |.normal,s=>retOkH P rs k Q s
  |.ret,s=>retOkH P rs k Q s
  |_,_=>False
theorem rqh_normal (P:Program) (rs:List ResultVar) (k:Nat) (Q:D→List (Nat × Ob)→Nat→Prop) (s:St):retQH P rs k Q .normal s=retOkH P rs k Q s:=rfl
theorem rqh_ret (P:Program) (rs:List ResultVar) (k:Nat) (Q:D→List (Nat × Ob)→Nat→Prop) (s:St):retQH P rs k Q .ret s=retOkH P rs k Q s:=rfl
theorem run_resultsH {X:Ctx}{P:Program}{s:St}{E:Env}{a:Act}{w:World} (hr:Rel X s E a w) {fn:Func}{ds:List D} (h:resAll P s fn.results.toList=some ds) (hn:ds.all D.flat=true):
    ∃ v,(results fn a.tmps).run P w = .ok v w∧Rep E w (tupD ds) v:=by
  obtain ⟨us,h1,h2,h3⟩:=run_resAll hr h
  have hrun:(results fn a.tmps).run P w = .ok (if h:us.toArray.size=1 then us.toArray[0] else .tuple us.toArray) w:=by
    rw [results_eq,Array.mapM_eq_mapM_toList]
    simp only [Sem.run_bind,map_eq_pure_bind]
    rw [h1]
    simp
  refine ⟨_,hrun,?_⟩
  rcases ds with _|⟨d,_|⟨d',ds⟩⟩
  · have:us = []:=List.eq_nil_of_length_eq_zero h2
    subst this
    exact ⟨[],rfl,rfl,fun j d v hd=>by simp at hd⟩
  · obtain ⟨u,rfl⟩:∃ u,us = [u]:=List.length_eq_one_iff.1 h2
    exact h3 0 d u rfl rfl
  · have hl:¬ us.toArray.size=1:=by simp;simp at h2;omega
    rw [dif_neg hl]
    refine ⟨us,rfl,h2,fun j e v he hv=>?_⟩
    have h4:=h3 j e v he hv
    have hna:e.flat=true:=List.all_eq_true.1 hn e (List.mem_of_getElem? he)
    by_cases ht:∀ cs,e≠.tup cs
    · rwa [rep_of ht] at h4
    · obtain ⟨cs,ht⟩:=Classical.not_forall.1 ht
      obtain rfl:=Classical.not_not.1 ht
      cases hna
theorem tup_inn {p:Nat→Bool}{ds:List D} (h:ds.all (D.inn p)=true) (hf:ds.all D.flat=true):(tupD ds).inn p=true:=by
  rcases ds with _|⟨d,_|⟨d',ds⟩⟩
  · rfl
  · exact List.all_eq_true.1 h d (List.mem_cons_self ..)
  · refine List.all_eq_true.2 fun e he=>?_
    have h1:=List.all_eq_true.1 h e he
    have h2:=List.all_eq_true.1 hf e he
    cases e<;>first|exact h1|cases h2
theorem tup_ren {f:Nat→Nat}{ds:List D} (hf:ds.all D.flat=true):(tupD ds).ren f=tupD (ds.map (D.ren f)):=by
  rcases ds with _|⟨d,_|⟨d',ds⟩⟩
  · rfl
  · rfl
  · show D.tup _=D.tup _
    congr 1
    refine List.map_congr_left fun e he=>?_
    have h2:=List.all_eq_true.1 hf e he
    cases e<;>first|rfl|cases h2
theorem specH_introA {P:Program}{f:FuncId}{fn:Func}{c:Code}{ds:List D}{os:List (Nat × Ob)}{Q:D→List (Nat × Ob)→Nat→Prop}{rs:List ResultVar} (hf:P.funcs[f]? = some fn) (hb:fn.body=some c) (hn:(fn.name== "runtime.NumGoroutine")=false) (hrs:fn.results=rs.toArray) {nt:Nat} (hnt:fn.ntmps=nt) (hsz:ds.length≤nt) {k:Nat}
    (h:∀ X:Ctx,X.nb=k→AwCode X P c ⟨ds++List.replicate (nt - ds.length) .none,os,k⟩ (retQH P rs k Q)):SpecH P f ds os k Q:=by
  subst hnt
  have h1:fn.name≠ "runtime.NumGoroutine":=by simpa using hn
  refine ⟨fun args w=>by simp [callFunc,hf,h1,hb],fun E M w args hsr has hrep=>?_⟩
  have has':args.size=ds.length:=has
  refine calls_of_wp hf hb ?_
  refine (h ⟨w,E,M,k,hsr.new⟩ rfl).out E _ w _ ?_ ?_
  · refine ⟨by simp;omega,fun t d hd=>?_,rfl,⟨fun i x hi=>?_,hsr.new,hsr.rolt,hsr.apart,hsr.nodup,hsr.tr.keep rfl (fun b k p _ h1 h2 h3 h4=>⟨h1,rfl,.inr h2,h3,h4⟩) fun k' x' hx j ty sz n cs hj=>⟨x',hx,hj,fun l hl=>⟨hl,rfl⟩⟩⟩,⟨.refl _,rfl,rfl,rfl,Nat.le_refl _,fun _ _ _=>rfl,fun b hb=>.inl hb,Nat.le_refl _⟩⟩
    · by_cases ht:t < ds.length
      · rw [List.getElem?_append_left ht] at hd
        have h2:=hrep t d hd
        rw [Array.getD_eq_getD_getElem?, Array.getElem?_append_left (by omega),← Array.getD_eq_getD_getElem?]
        exact h2
      · rw [List.getElem?_append_right (by omega),List.getElem?_replicate] at hd
        split at hd
        · injection hd with hd
          subst hd
          trivial
        · cases hd
    · obtain ⟨h2,h3⟩:=hsr.obs i x hi
      refine ⟨h2,?_⟩
      rcases h3 with h3|⟨l,h3,h4,h5⟩
      · exact .inl h3
      · exact .inr ⟨l,h3,.inr h4,h5⟩
  · intro e s' E' a' w' hq hr
    have fin : retOkH P rs k Q s' → a'.defers = [] ∧ ∃ v, (results fn a'.tmps).run P w' = .ok v w' ∧ (∃ d os' nb' E' v', Q d os' nb' ∧ Ending.returned v = .returned v' ∧ Rep E' w' d v' ∧ SR (fun g => w.heap.size ≤ g ∨ M g) E' os' nb' w' ∧ k ≤ nb' ∧ E.le E' ∧
      w'.os = w.os ∧ w'.tape = w.tape ∧ w'.output = w.output ∧ w.heap.size ≤ w'.heap.size ∧ (∀ b, b < w.heap.size → ¬ M b → w'.heap[b]? = w.heap[b]?) ∧ (∀ b, E'.ro b → E.ro b ∨ w.heap.size ≤ b ∨ M b) ∧ (∀ i l, k ≤ i → E'.at_ i = some (some l) → w.heap.size ≤ l.g ∨ M l.g)) := by
      rintro ⟨ids,hq⟩
      unfold retAt at hq
      split at hq
      · rename_i ds' hds
        obtain ⟨⟨hq1,hq2,hq3,hq4,hq6⟩,hq5⟩:=hq
        have hds':resAll P s' fn.results.toList=some ds':=by rw [hrs];exact hds
        obtain ⟨v,h3,h4⟩:=run_resultsH hr hds' hq1
        have h5:=h4.ren (tup_inn hq2 hq1) (E'.hand_via _)
        rw [tup_ren hq1] at h5
        refine ⟨hr.df, v, h3, _, _, _, E'.hand (List.range k ++ ids), v, hq5, rfl, h5, hand_sr hr.sr _ hq3 hq4 (fun j x l _ _ _ hw => hw) (fun _ _ _ _ _ hw => hw),
          by simp, ⟨fun i l hl => ?_, hr.st.le.ro⟩, hr.st.os, hr.st.tape, hr.st.output, hr.st.size, hr.st.block, hr.st.ro, fun i l h6 h7 => ?_⟩
        rotate_left
        · have h8:(match (List.range k++ids)[i]? with|some j=>E'.at_ j|none=>none)=some (some l):=h7
          rw [List.getElem?_append_right (by simpa using h6)] at h8
          split at h8
          · rename_i j hj
            have h9:=List.all_eq_true.1 hq6 j (List.mem_of_getElem? hj)
            obtain ⟨x,hx⟩:=Option.isSome_iff_exists.1 h9
            rcases (hr.sr.obs j x (mem_of_lookup hx)).2 with ⟨h10,_⟩|⟨m,h10,h11,_⟩
            · rw [h8] at h10;cases h10
            · rw [h8] at h10;injection h10 with h10;injection h10 with h10;subst h10;exact h11
          · cases h8
        have hi:i < k:=by
          rcases Nat.lt_or_ge i k with h|h
          · exact h
          · rw [hsr.new i h] at hl;cases hl
        rw [Env.hand_of (j:=i) (by rw [List.getElem?_append_left (by simpa using hi)];simp [hi])]
        exact hr.st.le.at_ i l hl
      · exact hq.elim
    cases e with
    |normal=>exact fin hq
    |ret=>exact fin hq
    |_=>exact hq.elim
theorem specH_intro {P:Program}{f:FuncId}{fn:Func}{c:Code}{ds:List D}{os:List (Nat × Ob)}{Q:D→List (Nat × Ob)→Nat→Prop}{rs:List ResultVar} (hf:P.funcs[f]? = some fn) (hb:fn.body=some c) (hn:(fn.name== "runtime.NumGoroutine")=false) (hrs:fn.results=rs.toArray) {nt:Nat} (hnt:fn.ntmps=nt) (hsz:ds.length≤nt) {k:Nat}
    (h:∀ X:Ctx,X.nb=k→WCode X P c (retQH P rs k Q) ⟨ds++List.replicate (nt - ds.length) .none,os,k⟩):SpecH P f ds os k Q:=
  specH_introA hf hb hn hrs hnt hsz fun X hX=>wcode_sound (h X hX)
end Go.Proofs.YtidjjfjhmlndjaaGreatDoor
