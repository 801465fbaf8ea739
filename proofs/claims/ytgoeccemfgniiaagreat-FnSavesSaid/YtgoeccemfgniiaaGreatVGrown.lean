/- Grown (what is wanted of them). -/
import Derived.Test.YtgoeccemfgniiaaGreatVAwa
namespace Go.Proofs.YtgoeccemfgniiaaGreat
open Go.RowKit
theorem flatMap_drop {α:Type} (cells:α→List Value) (size:Nat) (hs:∀ x,(cells x).length=size):∀ (xs:List α) (i:Nat),(xs.drop i).flatMap cells=(xs.flatMap cells).drop (i*size)
  |xs,0=>by simp
  | [],i+1=>by simp
  |x::xs,i+1=>by
    have e:(i+1)*size=(cells x).length+i*size:=by rw [hs,Nat.succ_mul,Nat.add_comm]
    rw [List.drop_succ_cons,flatMap_drop cells size hs xs i,List.flatMap_cons,e,List.drop_append,List.drop_of_length_le (l:=cells x) (by omega),List.nil_append,Nat.add_sub_cancel_left]
theorem flatMap_take {α:Type} (cells:α→List Value) (size:Nat) (hs:∀ x,(cells x).length=size):∀ (xs:List α) (i:Nat),(xs.take i).flatMap cells=(xs.flatMap cells).take (i*size)
  |xs,0=>by simp
  | [],i+1=>by simp
  |x::xs,i+1=>by
    have e:(i+1)*size=(cells x).length+i*size:=by rw [hs,Nat.succ_mul,Nat.add_comm]
    rw [List.take_succ_cons,List.flatMap_cons,flatMap_take cells size hs xs i,List.flatMap_cons,e,List.take_append,List.take_of_length_le (l:=cells x) (by omega),Nat.add_sub_cancel_left]
theorem own_prefix {w:World}{base g n cap size:Nat}{e:TypeId}{xs:List Value} (h:w.ownsRow base e size (.slice (some ⟨g,0,none⟩) n cap) n xs) (k:Nat) (hk:k≤n):
    w.ownsRow base e size (.slice (some ⟨g,0,none⟩) k cap) k (xs.take (k*size)):=by
  have hks:k*size≤n*size:=Nat.mul_le_mul_right _ hk
  refine ⟨by rw [List.length_take,h.1];omega,.inr ?_⟩
  rcases h.2 with ⟨h',_⟩|⟨g',cap',cur,h',hb,hg,hnc,hcm,hcs,htake⟩
  · simp at h'
  · simp only [Value.slice.injEq,Option.some.injEq,Addr.mk.injEq,and_true,true_and] at h'
    obtain ⟨rfl,rfl⟩:=h'
    refine ⟨g,cap,cur,rfl,hb,hg,by omega,hcm,hcs,?_⟩
    rw [← htake,List.take_take,Nat.min_eq_left hks]
theorem own_cap {w:World}{base g n cap size:Nat}{e:TypeId}{xs:List Value} (h:w.ownsRow base e size (.slice (some ⟨g,0,none⟩) n cap) n xs):n≤cap∧cap≤maxLen:=by
  rcases h.2 with ⟨h',_⟩|⟨g',cap',cur,h',_,_,h1,h2,_⟩
  · simp at h'
  · simp only [Value.slice.injEq,Option.some.injEq,Addr.mk.injEq,and_true,true_and] at h'
    obtain ⟨rfl,rfl⟩:=h'
    exact ⟨h1,h2⟩
section
variable {P:Program}
theorem step_fits (w:World) {ops:Array Oper}{o:Oper}{a:Act}{K:Act→World→Prop}{Q:Exit→Act→World→Prop}{E:Prop} (hgd:o.guard=none) (s x:Operand) (t:TypeId)
    (ho:o.op = .call { callee:=.builtin .append,args:=#[s,x],argTypes:=#[t,t] })
    (base:Nat) (e:TypeId) (z:Value) (size bytes:Nat) (ht:P.underlying t=some (.slice e)) (hinfo:(P.info? e).map (fun i=>(i.zero,i.size,i.bytes))=some (some z,size,bytes))
    (g n cap:Nat) (xs:List Value) (hs:a.eval s = .slice (some ⟨g,0,none⟩) n cap) (hown:w.ownsRow base e size (.slice (some ⟨g,0,none⟩) n cap) n xs)
    (ad:Addr) (m c:Nat) (news:List Value) (hx:a.eval x = .slice (some ad) m c) (hl:news.length=m*size) (hu:∀ j u,news[j]? = some u→w.cell? (ad.add j)=some u) (h1:∀ u ∈ news,u.oneCell' = true)
    (hroom:n+m≤cap)
    (h:∀ w',w'.ownsRow base e size (.slice (some ⟨g,0,none⟩) (n+m) cap) (n+m) (xs++news)→w.grownBy w' (some g)→K (a.put o.dst (.slice (some ⟨g,0,none⟩) (n+m) cap)) w'):
    if Region.wanted o (yielded ops a.tmps)=true then Oper.wp P o a w K Q else E:=by
  have hw:Region.wanted o (yielded ops a.tmps)=true:=by simp [Region.wanted,hgd]
  rw [if_pos hw]
  obtain ⟨i,hi,hz,hsize,hby⟩:=info_parts hinfo
  obtain ⟨w',hrun,h2,h3⟩:=run_append_fits (P:=P) w base t o.type e i size ht hi hsize g n cap xs hown ad m c news hl hu h1 hroom
  unfold Oper.wp execOp
  simp only [ho,resolve,invoke,builtin,Sem.run_bind,Sem.run_pure,Result.andThen_ok,List.map_toArray,List.map_cons,List.map_nil,hs,hx,hrun]
  exact h w' h2 h3
end
section
variable {P:Program}
end
end Go.Proofs.YtgoeccemfgniiaaGreat
