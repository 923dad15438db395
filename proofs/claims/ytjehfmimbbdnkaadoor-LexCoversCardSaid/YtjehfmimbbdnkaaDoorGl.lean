/- What the walks know of the world: the library's table of blanks (strings.asciiSpace) holds what its initialiser lays; in the two variables of errors stands nil or an error. -/
import Derived.Test.YtjehfmimbbdnkaaDoorProg
import Derived.Below
import Derived.Lib.Space
namespace Go.Proofs.YtjehfmimbbdnkaaDoor
open Go.RowKit

/-- In a variable of the type error stands nil, or an error. -/
def ErrAt (g : Nat) (w : World) : Prop := ∃ ev, w.cell? ⟨g, 0, none⟩ = some ev ∧ (ev = .nilIface ∨ ∃ te pe, ev = .iface te pe)
theorem ErrAt.of_below {g : Nat} {w w' : World} (h : ErrAt g w) (hb : Below w.heap.size w w') : ErrAt g w' := by
  obtain ⟨ev, hc, he⟩ := h
  exact ⟨ev, by rw [hb.cell (p := ⟨g, 0, none⟩) (World.block_lt_of_cell? _ _ hc)]; exact hc, he⟩

structure GL (w : World) : Prop where
  tab : ∀ c : Nat, c < 256 → w.cell? ⟨0, c, none⟩ = some (.int .u8 (if Lib.isSp (UInt8.ofNat c) then 1 else 0))
  syn : ErrAt 4 w
  rng : ErrAt 5 w

/-- It stands while nothing that was there is written. -/
theorem GL.of_below {w w' : World} (h : GL w) (hb : Below w.heap.size w w') : GL w' where
  tab := fun c hc => by
    have hl := World.block_lt_of_cell? _ _ (h.tab c hc)
    rw [hb.cell (p := ⟨0, c, none⟩) hl]
    exact h.tab c hc
  syn := h.syn.of_below hb
  rng := h.rng.of_below hb

end Go.Proofs.YtjehfmimbbdnkaaDoor
