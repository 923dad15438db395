/- The plain law of bytes and floats in hexadecimal digits: what lex.coded computes. -/
import Derived.Test.YtjehfmimbbdnkaaDoorLx7
import Derived.Test.YtjehfmimbbdnkaaDoorPureText
namespace Go.Proofs.YtjehfmimbbdnkaaDoor.LexPure
open Go.RowKit Go.Proofs.YtjehfmimbbdnkaaDoorW.PrintWords Go.Proofs.YtjehfmimbbdnkaaDoorW.PrintLast Go.Proofs.YtjehfmimbbdnkaaDoorW.PrintMore
open Go.Proofs.YtjehfmimbbdnkaaDoor.L Go.Proofs.YtjehfmimbbdnkaaDoor

theorem L8_ext (s : ByteArray) (i j : Nat) : L8 (s.extract i j) = ((L8 s).drop i).take (j - i) := by
  unfold L8
  rw [ByteArray.data_extract, Array.toList_extract, List.extract_eq_take_drop]
theorem size_ext (s : ByteArray) (i j : Nat) (h : j ≤ s.size) : (s.extract i j).size = j - i := by
  rw [← L8_len, L8_ext, List.length_take, List.length_drop, L8_len]; omega

/-- Pairs of digits as bytes. -/
def pairsS : List UInt8 → List Int
  | a :: b :: r => ((16 * hexVal a + hexVal b : Nat) : Int) :: pairsS r
  | _ => []
theorem hexVal_lt {c : UInt8} (h : isHex c = true) : hexVal c < 16 := by
  rcases hex_cases h with ⟨h1, h2, h3⟩ | ⟨h1, h2, h3⟩ <;> omega
theorem puint_pair (s : ByteArray) (i : Nat) (hi : i + 2 ≤ s.size) (a b : UInt8) (hd : ((L8 s).drop i).take 2 = [a, b]) (ha : isHex a = true) (hb : isHex b = true) :
    strconv_ParseUint.f (s.extract i (i + 2)) 16 8 = some (((16 * hexVal a + hexVal b : Nat) : Int), none) := by
  have hz := size_ext s i (i + 2) hi
  have hl : (s.extract i (i + 2)).data.toList = [a, b] := by
    have := L8_ext s i (i + 2)
    rw [show i + 2 - i = 2 from by omega] at this
    exact this.trans hd
  unfold strconv_ParseUint.f
  have hx := hexVal_lt ha
  have hy := hexVal_lt hb
  rw [if_pos ⟨rfl, .inr rfl, by omega, by rw [hl]; simp [ha, hb]⟩, if_neg (by omega), hl, pmax8]
  have e : h16 255 0 [a, b] = .ok (16 * hexVal a + hexVal b) := by
    unfold h16
    rw [if_neg (by omega), if_neg (by omega)]
    unfold h16
    rw [if_neg (by omega), if_neg (by omega)]
    unfold h16
    congr 1
    omega
  rw [e]

theorem pairs_loop (s : ByteArray) (hs : s.size ≤ 1000) (stop : Nat) (hst : stop ≤ s.size) (hall : ∀ c ∈ ((L8 s).drop 2).take (stop - 2), isHex c = true)
    (c0 : Int) (c1 : ByteArray) (c2 c3 c4 : Int) (c5 : ByteArray) (c6 : Int) : ∀ (m k j : Nat) (b : List Int), j + 2 * m = stop → 2 ≤ j → b.length ≤ j → m < k →
    lex_coded.l0 k s (stop : Int) b (j : Int) c0 c1 c2 c3 c4 c5 c6 = some (c0, c1, 4, 0, 0, strOfNums (b ++ pairsS (((L8 s).drop j).take (stop - j))), c6, wrap64 ((stop : Int) + 1))
  | _, 0, _, _, _, _, _, hk => by omega
  | 0, k + 1, j, b, h, h2, hb, hk => by
    obtain rfl : j = stop := by omega
    unfold lex_coded.l0
    rw [if_neg (by omega), Nat.sub_self]
    simp [pairsS]
  | m + 1, k + 1, j, b, h, h2, hb, hk => by
    have hw : wrap64 ((j : Int) + 2) = ((j + 2 : Nat) : Int) := by rw [wrap_small (by omega) (by omega)]; omega
    have d1 := drop_L8 s j (by omega)
    have d2 := drop_L8 s (j + 1) (by omega)
    generalize ha : (L8 s)[j]'(by rw [L8_len]; omega) = a at d1
    generalize hc : (L8 s)[j + 1]'(by rw [L8_len]; omega) = c at d2
    have hd : (L8 s).drop j = a :: c :: (L8 s).drop (j + 2) := by rw [d1, d2]
    have ht : ((L8 s).drop j).take (stop - j) = a :: c :: ((L8 s).drop (j + 2)).take (stop - (j + 2)) := by
      rw [hd, show stop - j = (stop - (j + 2)) + 1 + 1 from by omega]; rfl
    have hin : ∀ x ∈ ((L8 s).drop j).take (stop - j), isHex x = true := by
      intro x hx
      refine hall x ?_
      have e : ((L8 s).drop j).take (stop - j) = (((L8 s).drop 2).take (stop - 2)).drop (j - 2) := by
        rw [List.drop_take, List.drop_drop]
        congr 1
        · omega
        · congr 1; omega
      rw [e] at hx
      exact List.mem_of_mem_drop hx
    have hxa : isHex a = true := hin a (by rw [ht]; simp)
    have hxc : isHex c = true := hin c (by rw [ht]; simp)
    have hv := hexVal_lt hxa
    have hv2 := hexVal_lt hxc
    unfold lex_coded.l0
    rw [if_pos (by omega), if_pos (by omega), hw, if_pos (by omega), if_pos (by omega), Int.toNat_natCast, Int.toNat_natCast,
      puint_pair s j (by omega) a c (by rw [hd]; rfl) hxa hxc, Option.bind_some, if_pos (by omega)]
    simp only []
    have hmod : (((16 * hexVal a + hexVal c : Nat) : Int)) % 256 = ((16 * hexVal a + hexVal c : Nat) : Int) := by omega
    rw [hmod, pairs_loop s hs stop hst hall c0 c1 c2 c3 c4 c5 c6 m k (j + 2) _ (by omega) (by omega) (by simp; omega) (by omega), ht]
    simp only [pairsS, List.append_assoc, List.singleton_append]

def none8 : Int × ByteArray × Int × Int × Int × ByteArray × Int × Int := (0, ⟨#[]⟩, 0, 0, 0, ⟨#[]⟩, 0, 0)
/-- The digits behind the quote. -/
def hexN (s : ByteArray) : Nat := (((L8 s).drop 2).takeWhile isHex).length
def digitsS (s : ByteArray) : List UInt8 := ((L8 s).drop 2).takeWhile isHex
def codedR (s : ByteArray) : Int × ByteArray × Int × Int × Int × ByteArray × Int × Int :=
  if s.size ≤ 2 + hexN s then none8
  else if bt s ((2 + hexN s : Nat) : Int) ≠ 39 then none8
  else if bt s 0 = 102 then
    (if hexN s = 16 then
      (match h16 18446744073709551615 0 (digitsS s) with
        | .ok v => (3, s.extract 0 (2 + hexN s + 1), 3, 0, canonI (v : Int), ⟨#[]⟩, 0, ((2 + hexN s + 1 : Nat) : Int))
        | _ => none8)
    else none8)
  else if hexN s % 2 = 1 ∨ 40 < hexN s / 2 then none8
  else (3, s.extract 0 (2 + hexN s + 1), 4, 0, 0, strOfNums (pairsS (digitsS s)), 0, ((2 + hexN s + 1 : Nat) : Int))

theorem take_takeWhile {α : Type} (p : α → Bool) : ∀ l : List α, l.take (l.takeWhile p).length = l.takeWhile p
  | [] => rfl
  | a :: l => by
    by_cases h : p a = true
    · simp [h, take_takeWhile p l]
    · simp [h]
theorem takeWhile_all {α : Type} (p : α → Bool) : ∀ l : List α, ∀ x ∈ l.takeWhile p, p x = true
  | [], x, h => by cases h
  | a :: l, x, h => by
    by_cases hp : p a = true
    · rw [List.takeWhile_cons, if_pos hp] at h
      rcases List.mem_cons.1 h with rfl | h
      · exact hp
      · exact takeWhile_all p l x h
    · rw [List.takeWhile_cons, if_neg hp] at h
      cases h
theorem digits_eq (s : ByteArray) : ((L8 s).drop 2).take (hexN s) = digitsS s := take_takeWhile _ _
theorem digits_all (s : ByteArray) : ∀ c ∈ digitsS s, isHex c = true := takeWhile_all _ _
theorem hexN_le (s : ByteArray) (h : 2 ≤ s.size) : 2 + hexN s ≤ s.size := by
  have h1 : hexN s ≤ ((L8 s).drop 2).length := (List.takeWhile_sublist _).length_le
  rw [List.length_drop, L8_len] at h1
  omega
theorem h16_bound (M : Nat) : ∀ (l : List UInt8) (acc v : Nat), acc ≤ M → h16 M acc l = .ok v → v ≤ M
  | [], acc, v, h, e => by
    unfold h16 at e
    cases e
    exact h
  | c :: l, acc, v, h, e => by
    unfold h16 at e
    split at e
    · cases e
    · split at e
      · cases e
      · exact h16_bound M l _ v (by omega) e
theorem h16_some (M : Nat) : ∀ (l : List UInt8) (acc : Nat), (∃ v, h16 M acc l = .ok v) ∨ h16 M acc l = .range
  | [], acc => .inl ⟨acc, by unfold h16; rfl⟩
  | c :: l, acc => by
    unfold h16
    split
    · exact .inr rfl
    · split
      · exact .inr rfl
      · exact h16_some M l _

set_option maxRecDepth 4000 in
theorem lex_coded_eq (s : ByteArray) (hs : s.size ≤ 1000) (h2 : 2 ≤ s.size) (k : Nat) (hk : 2000 < k) : lex_coded.f k s = some (codedR s) := by
  obtain ⟨k, rfl⟩ : ∃ k', k = k' + 1 + 1 := ⟨k - 2, by omega⟩
  have hle := hexN_le s h2
  have hrun : lex_run.f (s.extract 2 s.size) 43 = some (hexN s : Int) := by
    unfold lex_run.f
    rw [if_pos (by rw [size_ext s 2 s.size (Nat.le_refl _)]; omega)]
    have e : headLen isHex (s.extract 2 s.size) = hexN s := by
      unfold headLen hexN
      have := L8_ext s 2 s.size
      unfold L8 at this
      rw [this, List.take_of_length_le (by rw [List.length_drop, Array.length_toList]; exact Nat.le_refl _)]
    simp [kindOf, e]
  have hw : wrap64 (2 + (hexN s : Int)) = ((2 + hexN s : Nat) : Int) := by rw [wrap_small (by omega) (by omega)]; omega
  have hw1 : wrap64 (((2 + hexN s : Nat) : Int) + 1) = ((2 + hexN s + 1 : Nat) : Int) := by rw [wrap_small (by omega) (by omega)]; omega
  unfold lex_coded.f codedR
  rw [if_pos (by omega), hrun, Option.bind_some, hw]
  by_cases h3 : s.size ≤ 2 + hexN s
  · rw [if_pos (by omega), if_pos h3]
    rw [lex_coded.j0]
    rw [if_pos rfl]
    rfl
  · rw [if_neg (by omega), if_neg h3, if_pos (by omega), if_pos (by omega)]
    by_cases h4 : bt s ((2 + hexN s : Nat) : Int) = 39
    · rw [if_neg (fun h => h h4)]
      have hb : (bt s ((2 + hexN s : Nat) : Int) != 39) = false := bne_eq_false_iff_eq.2 h4
      rw [hb]
      rw [lex_coded.j0]
      rw [if_neg (by simp), hw1, if_pos (by omega), if_pos (by omega), if_pos (by omega)]
      by_cases h5 : bt s 0 = 102
      · rw [if_pos h5, if_pos h5, if_pos (by omega), if_pos (by omega), Int.toNat_natCast, Int.toNat_natCast]
        have hdl : (s.extract 2 (2 + hexN s)).data.toList = digitsS s := by
          have := L8_ext s 2 (2 + hexN s)
          rw [show 2 + hexN s - 2 = hexN s from by omega, digits_eq] at this
          exact this
        have hsz : (s.extract 2 (2 + hexN s)).size = hexN s := by rw [size_ext _ _ _ (by omega)]; omega
        have hp : strconv_ParseUint.f (s.extract 2 (2 + hexN s)) 16 64 = ((if hexN s = 0 then some (0, some 0) else match h16 18446744073709551615 0 (digitsS s) with
            | .ok n => some ((n : Int), none)
            | .range => some (((18446744073709551615 : Nat) : Int), some 0)
            | _ => none) : Option (Int × Option Int)) := by
          unfold strconv_ParseUint.f
          rw [if_pos ⟨rfl, .inl rfl, by omega, by rw [hdl]; exact List.all_eq_true.2 (digits_all s)⟩, hdl, hsz, pmax64]
          rcases h16_some 18446744073709551615 (digitsS s) 0 with ⟨v, hv⟩ | hv <;> rw [hv]
        rw [hp]
        by_cases h6 : hexN s = 16
        · rw [if_neg (by omega), if_pos h6]
          rcases h16_some 18446744073709551615 (digitsS s) 0 with ⟨v, hv⟩ | hv
          · have hv2 := h16_bound _ _ _ _ (by omega) hv
            rw [hv]
            simp only [Option.bind_some]
            rw [if_pos (by omega), if_pos (show (none : Option Int).isNone = true from rfl)]
            unfold flo_Canon.f
            rw [if_pos (by omega), if_pos (by omega)]
            rfl
          · rw [hv]
            simp only [Option.bind_some]
            rw [if_pos (by omega), if_neg (by simp)]
            rfl
        · rw [if_neg h6]
          by_cases h7 : hexN s = 0
          · rw [if_pos h7]
            simp only [Option.bind_some]
            rw [if_neg (by omega)]
            rfl
          · rw [if_neg h7]
            rcases h16_some 18446744073709551615 (digitsS s) 0 with ⟨v, hv⟩ | hv
            · rw [hv]
              simp only [Option.bind_some]
              rw [if_neg (by omega)]
              rfl
            · rw [hv]
              simp only [Option.bind_some]
              rw [if_neg (by omega)]
              rfl
      · rw [if_neg h5, if_neg h5]
        have hm : Int.tmod (hexN s : Int) 2 = ((hexN s % 2 : Nat) : Int) := by rw [Int.tmod_eq_emod_of_nonneg (by omega)]; omega
        have hq : wrap64 (Int.tdiv (hexN s : Int) 2) = ((hexN s / 2 : Nat) : Int) := by rw [Int.tdiv_eq_ediv_of_nonneg (by omega), wrap_small (by omega) (by omega)]; omega
        rw [hm, hq, Int.toNat_natCast]
        by_cases h6 : hexN s % 2 = 1
        · rw [if_pos (by omega), if_pos (.inl h6)]
          rw [lex_coded.j1]
          rw [if_pos rfl]
          rfl
        · rw [if_neg (by omega)]
          rw [lex_coded.j1]
          by_cases h7 : 40 < hexN s / 2
          · rw [if_pos (decide_eq_true (by omega)), if_pos (.inr h7)]
            rfl
          · rw [if_neg (by rw [decide_eq_true_eq]; omega), if_neg (by omega)]
            have := pairs_loop s hs (2 + hexN s) (by omega) (by rw [show 2 + hexN s - 2 = hexN s from by omega, digits_eq]; exact digits_all s) 3 (s.extract 0 (2 + hexN s + 1)) 0 0 0 ⟨#[]⟩ 0 (hexN s / 2) k 2 [] (by omega) (by omega) (by simp) (by omega)
            rw [show 2 + hexN s - 2 = hexN s from by omega, digits_eq, hw1, List.nil_append] at this
            exact this
    · rw [if_pos h4]
      have hb : (bt s ((2 + hexN s : Nat) : Int) != 39) = true := bne_iff_ne.2 h4
      rw [hb]
      rw [lex_coded.j0]
      rw [if_pos rfl]
      rfl
end Go.Proofs.YtjehfmimbbdnkaaDoor.LexPure
