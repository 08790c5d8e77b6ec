/- A new row of texts, told as the call's own. A plain theorem. Conditions: none beyond the length's bound. -/
import Derived.Test.YtjhokefoocajpaaDoorTParseWorldW
namespace Go.Proofs.YtjhokefoocajpaaDoor.XSplit
open Go.RowKit Go.Proofs.YtjhokefoocajpaaDoorW.PrintWords
theorem row (w : World) (xs : List ByteArray) (e : Nat) (hm : xs.length ≤ 9223372036854775807) : Kd.R Kd.string e (w.alloc (.cells (xs.map Value.string).toArray e)) w.heap.size (fun _ => True) (.slice (some ⟨w.heap.size, 0, none⟩) xs.length xs.length) xs := by
  refine ⟨fun _ _ => trivial, xs.map Value.string, ?_, ?_⟩
  · have h2 := World.ownsRow_lit (base := w.heap.size) (e := e) (size := 1) w (xs.map Value.string).toArray xs.length (Nat.le_refl _) (by simpa [maxLen] using hm) (by simp)
    rw [show (Kd.string).sz = 1 from rfl]
    simpa using h2
  · refine ⟨by simp [Kd.string, Kd.scalar], fun i p hp => ?_⟩
    show _ = [Value.string p]
    have h1 : (Kd.string).sz = 1 := rfl
    rw [h1, Nat.mul_one]
    have h2 : (xs.map Value.string)[i]? = some (.string p) := by rw [List.getElem?_map, hp]; rfl
    have hl := (List.getElem?_eq_some_iff.1 h2).1
    rw [List.drop_eq_getElem_cons hl, List.take_succ_cons, List.take_zero, (List.getElem_eq_iff hl).2 h2]
end Go.Proofs.YtjhokefoocajpaaDoor.XSplit
