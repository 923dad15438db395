/- The plain law of a text between quotes, as lists of bytes: what lex.text computes. -/
import Derived.Test.YtjehfmimbbdnkaaDoorLx15
namespace Go.Proofs.YtjehfmimbbdnkaaDoor.LexPure
open Go.RowKit Go.Proofs.YtjehfmimbbdnkaaDoorW.PrintWords Go.Proofs.YtjehfmimbbdnkaaDoorW.PrintLast Go.Proofs.YtjehfmimbbdnkaaDoorW.PrintMore
open Go.Proofs.YtjehfmimbbdnkaaDoor.L Go.Proofs.YtjehfmimbbdnkaaDoor

theorem wrap_small {i : Int} (h0 : -9223372036854775808 ≤ i) (h1 : i < 9223372036854775808) : wrap64 i = i := by unfold wrap64; omega
/-- A text's bytes. -/
abbrev L8 (s : ByteArray) : List UInt8 := s.data.toList
theorem L8_len (s : ByteArray) : (L8 s).length = s.size := by unfold L8; rw [Array.length_toList]; rfl
theorem bt_L8 (s : ByteArray) (i : Nat) (h : i < s.size) : bt s (i : Int) = (((L8 s)[i]'(by rw [L8_len]; exact h)).toNat : Int) := by
  unfold bt
  rw [dif_pos (by simpa using h)]
  simp [L8, ByteArray.getElem_eq_getElem_data]
theorem drop_L8 (s : ByteArray) (i : Nat) (h : i < s.size) : (L8 s).drop i = (L8 s)[i]'(by rw [L8_len]; exact h) :: (L8 s).drop (i + 1) := List.drop_eq_getElem_cons (by rw [L8_len]; exact h)

/-- Behind the first quote: what is between, and how many bytes up to the closing quote and with it. -/
def textS : List UInt8 → Option (List UInt8 × Nat)
  | [] => none
  | c :: r =>
    if c = 39 then
      match r with
      | d :: r' => if d = 39 then (textS r').map fun x => (39 :: x.1, x.2 + 2) else some ([], 1)
      | [] => some ([], 1)
    else if c < 32 ∨ 126 < c then none else (textS r).map fun x => (c :: x.1, x.2 + 1)

def textR (s : ByteArray) (b : List Int) (i : Nat) : Option (List UInt8 × Nat) → Int × ByteArray × Int × Int × Int × ByteArray × Int × Int
  | none => (0, ⟨#[]⟩, 0, 0, 0, ⟨#[]⟩, 0, 0)
  | some (l, n) => if 40 < b.length + l.length then (0, ⟨#[]⟩, 0, 0, 0, ⟨#[]⟩, 0, 0)
    else (3, s.extract 0 (i + n), 5, 0, 0, strOfNums (b ++ l.map fun c => (c.toNat : Int)), 0, ((i + n : Nat) : Int))

theorem len_small {b : List Int} {i : Nat} {s : ByteArray} (hs : s.size ≤ 1000) (hi : i < s.size) (hb : b.length ≤ i) : b.length < 140737488355328 := by omega

theorem text_stop (k : Nat) (s : ByteArray) (b : List Int) (i : Nat) (hs : s.size ≤ 1000) (hi : i < s.size) (hc : bt s (i : Int) = 39) :
    lex_text.j1 (k + 1) s b (i : Int) false = some (textR s b i (some ([], 1))) := by
  unfold lex_text.j1
  rw [if_neg (by simp), if_pos (by omega), if_pos (by omega), if_pos hc]
  have hw : wrap64 ((i : Int) + 1) = ((i + 1 : Nat) : Int) := by rw [wrap_small (by omega) (by omega)]; omega
  by_cases h : 40 < b.length
  · rw [if_pos (by omega)]
    simp [textR, h]
  · rw [if_neg (by omega), hw, if_pos (by omega), if_pos (by omega)]
    simp only [textR, List.length_nil, Nat.add_zero, if_neg h, List.map_nil, List.append_nil, Int.toNat_natCast]

theorem textR_cons (s : ByteArray) (b : List Int) (i n : Nat) (c : UInt8) (x : Option (List UInt8 × Nat)) :
    textR s b i (x.map fun y => (c :: y.1, y.2 + n)) = textR s (b ++ [(c.toNat : Int)]) (i + n) x := by
  cases x with
  | none => rfl
  | some y =>
    obtain ⟨l, m⟩ := y
    have e1 : b.length + (c :: l).length = (b ++ [(c.toNat : Int)]).length + l.length := by simp; omega
    have e2 : i + (m + n) = i + n + m := by omega
    simp only [Option.map_some, textR, e1, e2, List.map_cons, List.append_assoc, List.singleton_append]

set_option maxRecDepth 4000 in
theorem text_loop (s : ByteArray) (hs : s.size ≤ 1000) : ∀ (m k i : Nat) (b : List Int), s.size ≤ i + m → 1 ≤ i → b.length ≤ i → 2 * m < k →
    lex_text.l0 k s b (i : Int) = some (textR s b i (textS ((L8 s).drop i)))
  | m, 0, i, b, h, h1, hb, hk => by omega
  | 0, k + 1, i, b, h, h1, hb, hk => by
    have : (L8 s).drop i = [] := List.drop_eq_nil_of_le (by rw [L8_len]; omega)
    rw [this]
    unfold lex_text.l0
    rw [if_neg (by omega)]
    rfl
  | m + 1, 1, i, b, h, h1, hb, hk => by omega
  | m + 1, k + 2, i, b, h, h1, hb, hk => by
    by_cases hi : i < s.size
    · have hw : wrap64 ((i : Int) + 1) = ((i + 1 : Nat) : Int) := by rw [wrap_small (by omega) (by omega)]; omega
      rw [drop_L8 s i hi]
      have hbi := bt_L8 s i hi
      generalize hc : (L8 s)[i]'(by rw [L8_len]; exact hi) = c at hbi ⊢
      unfold lex_text.l0
      rw [if_pos (by omega), if_pos (by omega)]
      by_cases hq : c = 39
      · subst hq
        have hbi' : bt s (i : Int) = 39 := hbi
        rw [if_pos hbi', hw]
        by_cases h2 : i + 1 < s.size
        · rw [if_pos (by omega), if_pos (by omega), drop_L8 s (i + 1) h2]
          have hbd := bt_L8 s (i + 1) h2
          generalize hd : (L8 s)[i + 1]'(by rw [L8_len]; exact h2) = d at hbd ⊢
          by_cases hq2 : d = 39
          · subst hq2
            have hbd' : bt s ((i + 1 : Nat) : Int) = 39 := hbd
            rw [hbd']
            have hw2 : wrap64 (((i + 1 : Nat) : Int) + 1) = ((i + 2 : Nat) : Int) := by rw [wrap_small (by omega) (by omega)]; omega
            have e : textS (39 :: 39 :: (L8 s).drop (i + 1 + 1)) = (textS ((L8 s).drop (i + 2))).map fun x => (39 :: x.1, x.2 + 2) := by simp [textS]
            rw [e, textR_cons]
            show lex_text.j1 (k + 1) s b (i : Int) true = _
            unfold lex_text.j1
            rw [if_pos rfl, hw, if_pos (by omega), if_pos (by omega), if_pos (len_small hs hi hb), hw2, hbd']
            exact text_loop s hs m k (i + 2) (b ++ [39]) (by omega) (by omega) (by simp; omega) (by omega)
          · have hbd' : (bt s ((i + 1 : Nat) : Int) == 39) = false := by
              rw [hbd, beq_eq_false_iff_ne]
              intro hh
              exact hq2 (UInt8.toNat_inj.1 (by have : d.toNat = 39 := by omega
                                               exact this))
            rw [hbd', text_stop k s b i hs hi hbi']
            have e : textS (39 :: d :: (L8 s).drop (i + 1 + 1)) = some ([], 1) := by simp [textS, hq2]
            rw [e]
        · rw [if_neg (by omega), text_stop k s b i hs hi hbi']
          have e0 : (L8 s).drop (i + 1) = [] := List.drop_eq_nil_of_le (by rw [L8_len]; omega)
          rw [e0]
          simp [textS]
      · have hne : ¬ bt s (i : Int) = 39 := by
          rw [hbi]
          intro hh
          exact hq (UInt8.toNat_inj.1 (by have : c.toNat = 39 := by omega
                                          exact this))
        rw [if_neg hne]
        have e : textS (c :: (L8 s).drop (i + 1)) = if c < 32 ∨ 126 < c then none else (textS ((L8 s).drop (i + 1))).map fun x => (c :: x.1, x.2 + 1) := by
          rw [textS.eq_def]; simp only [if_neg hq]
        unfold lex_text.j1
        rw [if_neg (by simp), if_pos (by omega), if_pos (by omega), if_neg hne, e]
        have l1 : (c < 32) ↔ c.toNat < 32 := UInt8.lt_iff_toNat_lt
        have l2 : (126 < c) ↔ 126 < c.toNat := UInt8.lt_iff_toNat_lt
        by_cases h3 : c.toNat < 32
        · rw [if_pos (by omega), if_pos (.inl (l1.2 h3))]
          rfl
        · rw [if_neg (by omega)]
          by_cases h4 : 126 < c.toNat
          · rw [if_pos (by omega), if_pos (.inr (l2.2 h4))]
            rfl
          · rw [if_neg (by omega), if_pos (len_small hs hi hb), if_neg (by rw [l1, l2]; omega), textR_cons, hbi, hw]
            exact text_loop s hs m k (i + 1) (b ++ [(c.toNat : Int)]) (by omega) (by omega) (by simp; omega) (by omega)
    · have : (L8 s).drop i = [] := List.drop_eq_nil_of_le (by rw [L8_len]; omega)
      rw [this]
      unfold lex_text.l0
      rw [if_neg (by omega)]
      rfl

/-- lex.text. -/
theorem lex_text_eq (s : ByteArray) (hs : s.size ≤ 1000) (k : Nat) (hk : 2000 < k) :
    lex_text.f k s = some (textR s [] 1 (textS ((L8 s).drop 1))) := by
  unfold lex_text.f
  exact text_loop s hs 999 k 1 [] (by omega) (by omega) (by simp) (by omega)
end Go.Proofs.YtjehfmimbbdnkaaDoor.LexPure
