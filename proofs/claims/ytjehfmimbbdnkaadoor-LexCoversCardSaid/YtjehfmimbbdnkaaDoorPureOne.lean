/- The plain law of one token: what lex.one computes. -/
import Derived.Test.YtjehfmimbbdnkaaDoorLx17
import Derived.Test.YtjehfmimbbdnkaaDoorPureCoded
namespace Go.Proofs.YtjehfmimbbdnkaaDoor.LexPure
open Go.RowKit Go.Proofs.YtjehfmimbbdnkaaDoorW.PrintWords Go.Proofs.YtjehfmimbbdnkaaDoorW.PrintLast Go.Proofs.YtjehfmimbbdnkaaDoorW.PrintMore
open Go.Proofs.YtjehfmimbbdnkaaDoor.L Go.Proofs.YtjehfmimbbdnkaaDoor

theorem index_any (l : List ByteArray) (s : ByteArray) (hl : l.length < 1000000) : ∀ (m k i : Nat), i + m = l.length → m < k →
    ∃ j, slices_Index_string_string.l0 k l s (l.length : Int) (i : Int) = some j ∧ decide (j ≥ 0) = (l.drop i).any (fun w => s.toList == w.toList)
  | 0, k + 1, i, h, _ => by
    obtain rfl : i = l.length := by omega
    refine ⟨-1, ?_, ?_⟩
    · simp [slices_Index_string_string.l0]
    · simp
  | m + 1, k + 1, i, h, hk => by
    obtain ⟨j, hj, ha⟩ := index_any l s hl m k (i + 1) (by omega) (by omega)
    have hi : i < l.length := by omega
    have hd : l.drop i = l[i] :: l.drop (i + 1) := List.drop_eq_getElem_cons hi
    have hr : rdOf ByteArray.empty l (i : Int) = l[i] := by simp [rdOf, List.getD, hi]
    unfold slices_Index_string_string.l0
    rw [if_pos (by omega), if_pos (by omega), if_pos (by omega), hr, hd]
    by_cases hs : s.toList = l[i].toList
    · rw [if_pos hs]
      exact ⟨_, rfl, by rw [List.any_cons, beq_iff_eq.mpr hs, Bool.true_or]; exact decide_eq_true (by omega)⟩
    · rw [if_neg hs, wrap_small (by omega) (by omega)]
      refine ⟨j, by simpa using hj, ?_⟩
      rw [ha, List.any_cons, beq_eq_false_iff_ne.mpr hs, Bool.false_or]
/-- Is it one of the words? -/
def isWord (s : ByteArray) : Bool := wordsL.any fun w => s.toList == w.toList
theorem lex_word (s : ByteArray) (k : Nat) (hk : 100 < k) : lex_Word.f k s = some (isWord s) := by
  have hl : wordsL.length = 32 := by decide +kernel
  obtain ⟨j, hj, ha⟩ := index_any wordsL s (by omega) wordsL.length k 0 (by omega) (by omega)
  have h1 : slices_Index_string_string.f k wordsL s = some j := by unfold slices_Index_string_string.f; simpa using hj
  unfold lex_Word.f lex_words.f slices_Contains_string_string.f
  simp only [Option.bind_some, h1, ha, List.drop_zero]
  rfl

def namN (s : ByteArray) : Nat := headLen isNam s
theorem headLen_le (p : UInt8 → Bool) (s : ByteArray) : headLen p s ≤ s.size := by
  have := (List.takeWhile_sublist (l := s.data.toList) p).length_le
  rw [Array.length_toList] at this
  exact this
def namedR (s : ByteArray) : Int × ByteArray × Int × Int × Int × ByteArray × Int × Int :=
  if 16 < namN s then (2, s.extract 0 (namN s), 0, 0, 0, ⟨#[]⟩, 0, 0)
  else if isWord (s.extract 0 (namN s)) = true then (1, s.extract 0 (namN s), 0, 0, 0, ⟨#[]⟩, 0, (namN s : Int))
  else (2, s.extract 0 (namN s), 0, 0, 0, ⟨#[]⟩, 0, (namN s : Int))
theorem lex_named_eq (s : ByteArray) (hs : s.size ≤ 1000) (k : Nat) (hk : 2000 < k) : lex_named.f k s = some (namedR s) := by
  have hle := headLen_le isNam s
  have hrun : lex_run.f s 46 = some (namN s : Int) := by
    unfold lex_run.f
    rw [if_pos (by omega)]
    rfl
  unfold namN at hrun
  unfold lex_named.f namedR namN
  rw [hrun, Option.bind_some, if_pos (by omega), if_pos (by omega), Int.toNat_natCast]
  by_cases h : 16 < headLen isNam s
  · rw [if_pos (by omega), if_pos h]
  · rw [if_neg (by omega), if_neg h, lex_word _ k (by omega), Option.bind_some]
    split <;> rfl

def signs : List UInt8 := [40, 41, 44, 59, 61, 60, 62, 43, 42]
def oneR (s : ByteArray) : Int × ByteArray × Int × Int × Int × ByteArray × Int × Int :=
  if (bt s 0 = 120 ∨ bt s 0 = 102) ∧ 1 < s.size ∧ bt s 1 = 39 then codedR s
  else if 97 ≤ bt s 0 ∧ bt s 0 ≤ 122 then namedR s
  else if (48 ≤ bt s 0 ∧ bt s 0 ≤ 57) ∨ bt s 0 = 45 then numR s
  else if bt s 0 = 39 then textR s [] 1 (textS ((L8 s).drop 1))
  else if signs.contains ((bt s 0).toNat.toUInt8) then (4, s.extract 0 1, 0, 0, 0, ⟨#[]⟩, 0, 1)
  else none8

theorem index_ge (c : UInt8) : ∀ l : List UInt8, -1 ≤ Lib.indexByte l c ∧ (0 ≤ Lib.indexByte l c ↔ l.contains c = true)
  | [] => by simp [Lib.indexByte]
  | b :: l => by
    obtain ⟨h1, h2⟩ := index_ge c l
    unfold Lib.indexByte
    by_cases h : b = c
    · subst h
      simp
    · rw [if_neg (by simpa using h)]
      have hc : (b :: l).contains c = l.contains c := by
        rw [List.contains_cons, show (c == b) = false from beq_eq_false_iff_ne.2 (fun e => h e.symm), Bool.false_or]
      rw [hc, ← h2]
      by_cases h3 : Lib.indexByte l c = -1
      · rw [if_pos (by simpa using h3)]
        omega
      · rw [if_neg (by simpa using h3)]
        omega

theorem one_j1 (s : ByteArray) (hs : s.size ≤ 1000) (h0 : 0 < s.size) (k : Nat) (hk : 2000 < k) (f : Bool) (hf : f = decide ((48 ≤ bt s 0 ∧ bt s 0 ≤ 57) ∨ bt s 0 = 45)) :
    lex_one.j1 (k + 1) s (bt s 0) f = some (if (48 ≤ bt s 0 ∧ bt s 0 ≤ 57) ∨ bt s 0 = 45 then numR s
      else if bt s 0 = 39 then textR s [] 1 (textS ((L8 s).drop 1))
      else if signs.contains ((bt s 0).toNat.toUInt8) then (4, s.extract 0 1, 0, 0, 0, ⟨#[]⟩, 0, 1)
      else none8) := by
  rw [lex_one.j1]
  by_cases h : (48 ≤ bt s 0 ∧ bt s 0 ≤ 57) ∨ bt s 0 = 45
  · rw [if_pos (by rw [hf]; exact decide_eq_true h), if_pos h]
    unfold lex_number.f
    rw [if_pos ⟨h0, hs⟩]
    generalize numR s = r
    rfl
  · rw [if_neg (by rw [hf, decide_eq_false h]; simp), if_neg h]
    by_cases h1 : bt s 0 = 39
    · rw [if_pos h1, if_pos h1, lex_text_eq s hs k hk]
      generalize textR s [] 1 (textS ((L8 s).drop 1)) = r
      rfl
    · rw [if_neg h1, if_neg h1]
      unfold strings_IndexByte.f
      rw [Option.bind_some, show (⟨#[40, 41, 44, 59, 61, 60, 62, 43, 42]⟩ : ByteArray).data.toList = signs from rfl]
      obtain ⟨_, h2⟩ := index_ge (bt s 0).toNat.toUInt8 signs
      by_cases h3 : signs.contains (bt s 0).toNat.toUInt8 = true
      · rw [if_pos h3, if_pos (show Lib.indexByte signs (bt s 0).toNat.toUInt8 ≥ 0 from h2.2 h3), if_pos (by omega), if_pos (by omega)]
      · rw [if_neg h3, if_neg (show ¬ Lib.indexByte signs (bt s 0).toNat.toUInt8 ≥ 0 from fun e => h3 (h2.1 e))]
        rfl
theorem one_j0 (s : ByteArray) (hs : s.size ≤ 1000) (h0 : 0 < s.size) (k : Nat) (hk : 2001 < k) (f : Bool) (hf : f = decide ((bt s 0 = 120 ∨ bt s 0 = 102) ∧ 1 < s.size ∧ bt s 1 = 39)) :
    lex_one.j0 (k + 1) s (bt s 0) f = some (oneR s) := by
  rw [lex_one.j0]
  unfold oneR
  by_cases h : (bt s 0 = 120 ∨ bt s 0 = 102) ∧ 1 < s.size ∧ bt s 1 = 39
  · rw [if_pos (by rw [hf]; exact decide_eq_true h), if_pos h, lex_coded_eq s hs (by omega) k (by omega)]
    generalize codedR s = r
    rfl
  · rw [if_neg (by rw [hf, decide_eq_false h]; simp), if_neg h]
    unfold lex_letter.f lex_digit.f
    by_cases h1 : 97 ≤ bt s 0 ∧ bt s 0 ≤ 122
    · rw [if_pos h1, if_pos (by omega), decide_eq_true h1.2, Option.bind_some, if_pos rfl, lex_named_eq s hs k (by omega)]
      generalize namedR s = r
      rfl
    · rw [if_neg h1]
      have e1 : (if bt s 0 ≥ 97 then some (decide (bt s 0 ≤ 122)) else some false) = some false := by
        split
        · rw [decide_eq_false (by omega)]
        · rfl
      rw [e1, Option.bind_some, if_neg (by simp)]
      obtain ⟨k, rfl⟩ : ∃ k', k = k' + 1 := ⟨k - 1, by omega⟩
      by_cases h2 : 48 ≤ bt s 0 ∧ bt s 0 ≤ 57
      · rw [if_pos (show bt s 0 ≥ 48 from h2.1), decide_eq_true h2.2, Option.bind_some, if_pos rfl]
        exact one_j1 s hs h0 k (by omega) true (by rw [decide_eq_true (.inl h2)])
      · have e2 : (if bt s 0 ≥ 48 then some (decide (bt s 0 ≤ 57)) else some false) = some false := by
          split
          · rw [decide_eq_false (by omega)]
          · rfl
        rw [e2, Option.bind_some, if_neg (by simp)]
        refine one_j1 s hs h0 k (by omega) _ ?_
        by_cases h3 : bt s 0 = 45
        · rw [decide_eq_true (.inr h3), h3]; rfl
        · rw [decide_eq_false (by omega), beq_eq_false_iff_ne.2 h3]

/-- lex.one. -/
theorem lex_one_eq (s : ByteArray) (hs : s.size ≤ 1000) (h0 : 0 < s.size) (k : Nat) (hk : 2002 < k) : lex_one.f k s = some (oneR s) := by
  obtain ⟨k, rfl⟩ : ∃ k', k = k' + 1 := ⟨k - 1, by omega⟩
  have J := one_j0 s hs h0 k (by omega)
  unfold lex_one.f
  rw [if_pos (by omega)]
  by_cases h1 : bt s 0 = 120
  · rw [if_pos h1]
    by_cases h2 : 1 < s.size
    · rw [if_pos (by omega), if_pos (by omega)]
      refine J _ ?_
      by_cases h3 : bt s 1 = 39
      · rw [decide_eq_true ⟨.inl h1, h2, h3⟩, h3]; rfl
      · rw [decide_eq_false (fun e => h3 e.2.2), beq_eq_false_iff_ne.2 h3]
    · rw [if_neg (by omega)]
      exact J _ (by rw [decide_eq_false (fun e => h2 e.2.1)])
  · rw [if_neg h1]
    by_cases h1' : bt s 0 = 102
    · rw [if_pos h1']
      by_cases h2 : 1 < s.size
      · rw [if_pos (by omega), if_pos (by omega)]
        refine J _ ?_
        by_cases h3 : bt s 1 = 39
        · rw [decide_eq_true ⟨.inr h1', h2, h3⟩, h3]; rfl
        · rw [decide_eq_false (fun e => h3 e.2.2), beq_eq_false_iff_ne.2 h3]
      · rw [if_neg (by omega)]
        exact J _ (by rw [decide_eq_false (fun e => h2 e.2.1)])
    · rw [if_neg h1']
      exact J _ (by rw [decide_eq_false (fun e => e.1.elim h1 h1')])
end Go.Proofs.YtjehfmimbbdnkaaDoor.LexPure
