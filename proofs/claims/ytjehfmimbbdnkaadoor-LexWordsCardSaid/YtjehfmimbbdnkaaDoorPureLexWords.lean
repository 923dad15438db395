/- The law LexWords, as plain Lean: both lists of words are one. -/
import Derived.Test.YtjehfmimbbdnkaaDoorLx45
namespace Go.Proofs.YtjehfmimbbdnkaaDoor.lexWords
open Go.RowKit Go.Proofs.YtjehfmimbbdnkaaDoorW.PrintWords Go.Proofs.YtjehfmimbbdnkaaDoorW.PrintLast Go.Proofs.YtjehfmimbbdnkaaDoorW.PrintMore
open Go.Proofs.YtjehfmimbbdnkaaDoor.L Go.Proofs.YtjehfmimbbdnkaaDoor

theorem wrap_small {i : Int} (h0 : -9223372036854775808 ≤ i) (h1 : i < 9223372036854775808) : wrap64 i = i := by unfold wrap64; omega

theorem index_any (l : List ByteArray) (s : ByteArray) (hl : l.length < 1000000) : ∀ (m k i : Nat), i + m = l.length → m < k →
    ∃ j, slices_Index_string_string.l0 k l s (l.length : Int) (i : Int) = some j ∧ decide (j ≥ 0) = (l.drop i).any (fun w => s.toList == w.toList)
  | 0, k + 1, i, h, _ => by
    obtain rfl : i = l.length := by omega
    refine ⟨-1, ?_, ?_⟩
    · simp [slices_Index_string_string.l0]
    · simp
  | m + 1, k + 1, i, h, hk => by
    obtain ⟨j, hj, ha⟩ := index_any l s hl m k (i + 1) (by omega) (by omega)
    have hi : i < l.length := by omega
    have hd : l.drop i = l[i] :: l.drop (i + 1) := List.drop_eq_getElem_cons hi
    have hr : rdOf ByteArray.empty l (i : Int) = l[i] := by simp [rdOf, List.getD, hi]
    unfold slices_Index_string_string.l0
    rw [if_pos (by omega), if_pos (by omega), if_pos (by omega), hr, hd]
    by_cases hs : s.toList = l[i].toList
    · rw [if_pos hs]
      exact ⟨_, rfl, by rw [List.any_cons, beq_iff_eq.mpr hs, Bool.true_or]; exact decide_eq_true (by omega)⟩
    · rw [if_neg hs, wrap_small (by omega) (by omega)]
      refine ⟨j, by simpa using hj, ?_⟩
      rw [ha, List.any_cons, beq_eq_false_iff_ne.mpr hs, Bool.false_or]

def wordsT : List (List UInt8) := wordsL.map ByteArray.toList
theorem chain (t : List UInt8) : ∀ l : List (List UInt8), l.foldr (fun w r => if t = w then some true else r) (some false) = some (l.any fun w => t == w)
  | [] => rfl
  | w :: l => by
    rw [List.foldr_cons, chain t l, List.any_cons]
    by_cases h : t = w
    · rw [if_pos h, beq_iff_eq.mpr h, Bool.true_or]
    · rw [if_neg h, beq_eq_false_iff_ne.mpr h, Bool.false_or]
theorem wordsT_eq : wordsT = [[105, 110, 115, 101, 114, 116], [105, 110, 116, 111], [118, 97, 108, 117, 101, 115], [117, 112, 100, 97, 116, 101], [115, 101, 116], [119, 104, 101, 114, 101], [97, 110, 100], [100, 101, 108, 101, 116, 101], [102, 114, 111, 109], [115, 101, 108, 101, 99, 116], [99, 114, 101, 97, 116, 101], [117, 110, 105, 113, 117, 101], [116, 97, 98, 108, 101], [105, 110, 100, 101, 120], [111, 110], [100, 114, 111, 112], [97, 108, 116, 101, 114], [97, 100, 100], [99, 111, 108, 117, 109, 110], [100, 101, 102, 97, 117, 108, 116], [110, 111, 116], [110, 117, 108, 108], [105, 115], [112, 114, 105, 109, 97, 114, 121], [107, 101, 121], [98, 111, 111, 108], [105, 110, 116], [102, 108, 111, 97, 116], [98, 121, 116, 101, 115], [116, 101, 120, 116], [116, 114, 117, 101], [102, 97, 108, 115, 101]] := by decide +kernel

theorem lex_word (s : ByteArray) (k : Nat) (hk : 100 < k) : lex_Word.f k s = some (wordsT.any fun w => s.toList == w) := by
  have hl : wordsL.length = 32 := by decide +kernel
  obtain ⟨j, hj, ha⟩ := index_any wordsL s (by omega) wordsL.length k 0 (by omega) (by omega)
  have h1 : slices_Index_string_string.f k wordsL s = some j := by unfold slices_Index_string_string.f; simpa using hj
  unfold lex_Word.f lex_words.f slices_Contains_string_string.f
  simp only [Option.bind_some, h1, ha, List.drop_zero]
  congr 1
theorem ref_word (s : ByteArray) : falseworkref16_Word.f s = some (wordsT.any fun w => s.toList == w) := by
  rw [← chain, wordsT_eq]
  rfl

theorem awake_true : falseworklaw16_awake.f 200 = some true := by decide +kernel

theorem pure_true (s : ByteArray) : ∃ k, falseworklaw16_LexWords.f k s = some true := by
  refine ⟨200, ?_⟩
  unfold falseworklaw16_LexWords.f
  rw [lex_word s 200 (by decide), ref_word s, awake_true]
  simp

end Go.Proofs.YtjehfmimbbdnkaaDoor.lexWords
