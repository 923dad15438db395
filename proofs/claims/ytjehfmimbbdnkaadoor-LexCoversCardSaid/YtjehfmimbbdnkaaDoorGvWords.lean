/- The words of statements: what strings.Fields makes of the one long text, as a row of the call's own. No condition but that the library's table of blanks holds what its initialiser lays. -/
import Derived.Test.YtjehfmimbbdnkaaDoorGl
import Derived.Test.YtjehfmimbbdnkaaDoorShelf
import Derived.Test.YtjehfmimbbdnkaaDoorWWords
import Derived.Test.YtjehfmimbbdnkaaDoorWLast
import Derived.WalkKit
import Derived.OwnWalk
import Derived.Lib.Hide
namespace Go.Proofs.YtjehfmimbbdnkaaDoor
open Go.RowKit Go.Proofs.YtjehfmimbbdnkaaDoorW.PrintWords Go.Proofs.YtjehfmimbbdnkaaDoorW.PrintLast

/-- All of them, as one text. -/
def wordsText : ByteArray := ⟨#[105, 110, 115, 101, 114, 116, 32, 105, 110, 116, 111, 32, 118, 97, 108, 117, 101, 115, 32, 117, 112, 100, 97, 116, 101, 32, 115, 101, 116, 32, 119, 104, 101, 114, 101, 32, 97, 110, 100, 32, 100, 101, 108, 101, 116, 101, 32, 102, 114, 111, 109, 32, 115, 101, 108, 101, 99, 116, 32, 99, 114, 101, 97, 116, 101, 32, 117, 110, 105, 113, 117, 101, 32, 116, 97, 98, 108, 101, 32, 105, 110, 100, 101, 120, 32, 111, 110, 32, 100, 114, 111, 112, 32, 97, 108, 116, 101, 114, 32, 97, 100, 100, 32, 99, 111, 108, 117, 109, 110, 32, 100, 101, 102, 97, 117, 108, 116, 32, 110, 111, 116, 32, 110, 117, 108, 108, 32, 105, 115, 32, 112, 114, 105, 109, 97, 114, 121, 32, 107, 101, 121, 32, 98, 111, 111, 108, 32, 105, 110, 116, 32, 102, 108, 111, 97, 116, 32, 98, 121, 116, 101, 115, 32, 116, 101, 120, 116, 32, 116, 114, 117, 101, 32, 102, 97, 108, 115, 101]⟩
/-- All of them. -/
def wordsL : List ByteArray := (Lib.fields wordsText.data.toList).map fun l => ⟨l.toArray⟩
def lex_words.f : Option (List ByteArray) := some wordsL

theorem wordsText_ascii : ∀ b ∈ wordsText.data.toList, b.toNat < 128 := by decide +kernel

set_option maxRecDepth 100000 in
theorem lex_words.calls (r : List ByteArray) (w : World) (h : lex_words.f = some r) (hG : GL w) :
    Calls Tryd.prog 22 #[] w fun e w' => ∃ v0_ : Value, e = .returned (v0_) ∧ Kd.R Kd.string 9 w' w.heap.size (fun _ => True) v0_ r ∧ Below w.heap.size w w' := by
  obtain rfl : wordsL = r := Option.some.inj h
  have hc : Calls Tryd.prog 40 #[.string wordsText] w fun e w' => e = .returned (.slice (some ⟨w.heap.size, 0, none⟩) wordsL.length wordsL.length) ∧ w' = w.alloc (.cells (wordsL.map Value.string).toArray 9) := by
    have hx := Any.strings_Fields_core Tryd.lays157 (by kernel_rfl) wordsText w (by decide +kernel) (fun j b hb => wordsText_ascii b (List.mem_of_getElem? hb)) hG.tab
    refine hx.mono ?_
    rintro e w' ⟨rfl, rfl⟩
    refine ⟨?_, ?_⟩
    · simp only [wordsL, List.length_map]
    · simp only [wordsL, List.map_map]
      rfl
  have HC := Lib.hid hc
  clear hc h
  go_enter Tryd.func22, Tryd.ntmps22
  go_wp2_with (go_at_call 40; refine HC.out.mono ?_; rintro e w' ⟨rfl, rfl⟩)
  go_ret
  refine ⟨_, rfl, ?_, below_alloc (Below.refl _ _) _⟩
  refine Kd.R_of_own (enc := Value.string) (h1 := fun _ => rfl) ?_ (fun _ _ => trivial)
  have ho := World.ownsRow_lit (base := w.heap.size) (e := 9) (size := 1) w (wordsL.map Value.string).toArray wordsL.length (Nat.le_refl _) (by decide +kernel) (by simp)
  simpa [encs] using ho

end Go.Proofs.YtjehfmimbbdnkaaDoor
