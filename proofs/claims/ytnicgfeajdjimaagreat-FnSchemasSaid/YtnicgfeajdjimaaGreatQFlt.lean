/- Flt (what is wanted of them). -/
import Derived.Test.YtnicgfeajdjimaaGreatQNm
namespace Go.Proofs.YtnicgfeajdjimaaGreat
open Go.RowKit
def keepO {α : Type} (b : Bool) (a : α) (l : List α) : List α := match b with | true => a :: l | false => l
theorem keepO_t {α : Type} (a : α) (l : List α) : keepO true a l = a :: l := rfl
theorem keepO_f {α : Type} (a : α) (l : List α) : keepO false a l = l := rfl
theorem filt_cons {α : Type} (f : α → Bool) (a : α) (l : List α) : List.filter f (a :: l) = keepO (f a) a (List.filter f l) := by
  rw [List.filter_cons]
  cases f a <;> rfl
attribute [push_cast high] filt_cons
attribute [push_cast] keepO_t keepO_f
end Go.Proofs.YtnicgfeajdjimaaGreat
