/- Where a row of the call's own lies. A plain theorem. Conditions: none. -/
import Derived.Test.YtieedlokpbeebaaDoorTPictureOfW
namespace Go.Proofs.YtieedlokpbeebaaDoor.XJoin
open Go.RowKit Go.Proofs.YtieedlokpbeebaaDoorW.PrintWords
theorem R_spot {α : Type} {d : Kd α} {e : Nat} {w : World} {base : Nat} {ok : Nat → Prop} {A : Option Addr} {n c : Nat} {xs : List α} (h : d.R e w base ok (.slice A n c) xs) : ∀ ad, A = some ad → ad.spot = none := by
  obtain ⟨_, inner, ho, _⟩ := h
  intro ad ha
  subst ha
  rcases ho.2 with ⟨hv, _⟩ | ⟨g, cap, cur, hv, _⟩
  · cases hv
  · injection hv with h1
    injection h1 with h1
    rw [h1]
end Go.Proofs.YtieedlokpbeebaaDoor.XJoin
