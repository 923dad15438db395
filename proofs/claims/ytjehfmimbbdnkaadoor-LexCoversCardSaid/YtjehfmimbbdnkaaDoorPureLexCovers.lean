/- The law LexCovers, as plain Lean: the tokens tile the text. -/
import Derived.Test.YtjehfmimbbdnkaaDoorLx44
import Derived.Test.YtjehfmimbbdnkaaDoorPureSound
set_option linter.unusedVariables false
namespace Go.Proofs.YtjehfmimbbdnkaaDoor.LexPure
open Go.RowKit Go.Proofs.YtjehfmimbbdnkaaDoorW.PrintWords Go.Proofs.YtjehfmimbbdnkaaDoorW.PrintLast Go.Proofs.YtjehfmimbbdnkaaDoorW.PrintMore
open Go.Proofs.YtjehfmimbbdnkaaDoor.L Go.Proofs.YtjehfmimbbdnkaaDoor

/-- The tokens tile the text from e on. -/
def Tiles (s : ByteArray) : Nat → List S39 → Prop
  | e, [] => e ≤ s.size ∧ ∀ j, e ≤ j → j < s.size → blankAt s j = true
  | e, t :: l => ∃ p n : Nat, e ≤ p ∧ 0 < n ∧ p + n ≤ s.size ∧ (∀ j, e ≤ j → j < p → blankAt s j = true) ∧ t.f3 = (p : Int) ∧ t.f1 = s.extract p (p + n) ∧ 1 ≤ t.f0 ∧ Tiles s (p + n) l
theorem ext_ext (s : ByteArray) (p n : Nat) (h : p + n ≤ s.size) : (s.extract p s.size).extract 0 n = s.extract p (p + n) := by
  apply ByteArray.ext
  apply Array.toList_inj.1
  have h1 := L8_ext (s.extract p s.size) 0 n
  have h2 := L8_ext s p s.size
  have h3 := L8_ext s p (p + n)
  unfold L8 at h1 h2 h3
  rw [h1, h2, h3, List.drop_zero, List.take_take]
  congr 1
  omega
theorem tiles (s : ByteArray) (hs : s.size ≤ 1000) : ∀ (m i e : Nat) (l : List S39), i + m = s.size → e ≤ s.size → (∀ j, e ≤ j → j < i → blankAt s j = true) →
    lexT s m i (e : Int) = .ok l → Tiles s e l
  | 0, i, e, l, h, he, hb, hl => by
    cases (show Except.ok [] = Except.ok l from hl)
    exact ⟨he, fun j h1 h2 => hb j h1 (by omega)⟩
  | m + 1, i, e, l, h, he, hb, hl => by
    by_cases hc : (i : Int) < (e : Int) ∨ blankAt s i = true
    · rw [lexT_skip s m i e hc] at hl
      refine tiles s hs m (i + 1) e l (by omega) he (fun j h1 h2 => ?_) hl
      by_cases hj : j = i
      · subst hj
        rcases hc with hc | hc
        · omega
        · exact hc
      · exact hb j h1 (by omega)
    · rw [lexT_go s m i e hc] at hl
      have hei : e ≤ i := by have := fun x => hc (.inl x); omega
      have hz := size_ext s i s.size (Nat.le_refl _)
      rcases sound_one (s.extract i s.size) (by omega) with h0 | ⟨n, h0, h1, h2, h3, h4, _⟩
      · rw [if_pos (show (tokAt s i).2.2.2.2.2.2.2 = 0 from h0)] at hl
        cases hl
      · have h2' : (tokAt s i).2.2.2.2.2.2.2 = (n : Int) := h2
        rw [if_neg (by omega), h2', show wrap64 ((i : Int) + (n : Int)) = ((i + n : Nat) : Int) from by rw [wrap_small (by omega) (by omega)]; omega] at hl
        cases hr : lexT s m (i + 1) ((i + n : Nat) : Int) with
        | error x => rw [hr] at hl; cases hl
        | ok l' =>
          rw [hr] at hl
          cases hl
          exact ⟨i, n, hei, h0, by omega, hb, rfl, h3.trans (ext_ext s i n (by omega)), h4,
            tiles s hs m (i + 1) (i + n) l' (by omega) (by omega) (fun j h5 h6 => by omega) hr⟩

theorem lexT_err (s : ByteArray) : ∀ (m i : Nat) (nx : Int) (e : Nat), i + m ≤ s.size → lexT s m i nx = .error e → e ≤ s.size
  | 0, i, nx, e, _, h => by cases (show Except.ok [] = Except.error e from h)
  | m + 1, i, nx, e, hi, h => by
    by_cases hc : (i : Int) < nx ∨ blankAt s i = true
    · rw [lexT_skip _ _ _ _ hc] at h
      exact lexT_err s m (i + 1) nx e (by omega) h
    · rw [lexT_go _ _ _ _ hc] at h
      split at h
      · cases h; omega
      · split at h
        · cases h
        · rename_i e' he'
          have := lexT_err s m (i + 1) _ e' (by omega) he'
          cases h
          exact this
theorem awake_all (k : Nat) (hk : 4000 < k) : falseworklaw16_awake.f k = some true := by
  unfold falseworklaw16_awake.f
  rw [lex_lex_eq _ k hk, lex_lex_eq _ k hk]
  decide +kernel

theorem covers_l1 (s : ByteArray) (L : List S39) (idx p : Nat) (f0 : Int) (f1 : ByteArray) (g0 g1 g2 : Int) (g3 : ByteArray) (K : Nat) (hp : p ≤ s.size) (hs : s.size ≤ 1000)
    (H : ∀ k', K ≤ k' → falseworklaw16_LexCovers.l0 k' s L (wrap64 ((p : Int) + (f1.size : Int))) (wrap64 ((idx : Int) + 1)) = some true) :
    ∀ (m k j : Nat), j + m = p → (∀ i, j ≤ i → i < p → blankAt s i = true) → K + m < k →
    falseworklaw16_LexCovers.l1 k s L (idx : Int) (j : Int) f0 f1 g0 g1 g2 g3 (p : Int) = some true
  | _, 0, _, _, _, hk => by omega
  | 0, k + 1, j, h, hb, hk => by
    unfold falseworklaw16_LexCovers.l1
    rw [if_neg (by omega)]
    exact H k (by omega)
  | m + 1, k + 1, j, h, hb, hk => by
    have hw : wrap64 ((j : Int) + 1) = ((j + 1 : Nat) : Int) := by rw [wrap_small (by omega) (by omega)]; omega
    have ih := covers_l1 s L idx p f0 f1 g0 g1 g2 g3 K hp hs H m k (j + 1) (by omega) (fun i h1 h2 => hb i (by omega) h2) (by omega)
    have hj := hb j (Nat.le_refl _) (by omega)
    unfold blankAt at hj
    simp only [Bool.or_eq_true, beq_iff_eq] at hj
    unfold falseworklaw16_LexCovers.l1
    rw [if_pos (by omega), if_pos (by omega), if_pos (by omega), hw, ih]
    rcases hj with h1 | h1 | h1 <;> simp [h1]

/-- What the tokens' loop asks of each: told of one token. -/
theorem covers_tok (s : ByteArray) (hs : s.size ≤ 400) (L : List S39) (hL : L.length ≤ 1000) (idx e p n : Nat) (f0 g0 g1 g2 : Int) (g3 : ByteArray) (K : Nat) (hi : idx < L.length) (ht : rd_T39 L (idx : Int) = ⟨f0, s.extract p (p + n), ⟨g0, g1, g2, g3⟩, (p : Int)⟩)
    (hep : e ≤ p) (hpn : p + n ≤ s.size) (hbl : ∀ j, e ≤ j → j < p → blankAt s j = true)
    (h0 : (f0 == 0) = (((idx : Int)) == (wrap64 ((L.length : Int) - 1))))
    (H : ∀ k', K ≤ k' → falseworklaw16_LexCovers.l0 k' s L ((p + n : Nat) : Int) ((idx + 1 : Nat) : Int) = some true) (k : Nat) (hk : K + 1000 < k) :
    falseworklaw16_LexCovers.l0 k s L (e : Int) (idx : Int) = some true := by
  obtain ⟨k, rfl⟩ : ∃ k', k = k' + 1 + 1 := ⟨k - 2, by omega⟩
  have hsz : (s.extract p (p + n)).size = n := by rw [size_ext s p (p + n) hpn]; exact Nat.add_sub_cancel_left p n
  have hA : wrap64 ((p : Int) + (n : Int)) = ((p + n : Nat) : Int) ∧ wrap64 ((idx : Int) + 1) = ((idx + 1 : Nat) : Int) ∧ wrap64 ((s.size : Int) - (p : Int)) = ((s.size - p : Nat) : Int) ∧ (idx : Int) < (L.length : Int) ∧ (0 : Int) ≤ (idx : Int) ∧ ¬ ((p : Int) < (e : Int)) ∧ ¬ ((p : Int) > (s.size : Int)) ∧ ¬ ((n : Int) > ((s.size - p : Nat) : Int)) ∧ (0 : Int) ≤ (p : Int) ∧ (p : Int) ≤ ((p + n : Nat) : Int) ∧ ((p + n : Nat) : Int) ≤ (s.size : Int) := by
    clear ht H hbl h0 hsz
    generalize s.size = z at *
    generalize L.length = y at *
    refine ⟨?_, ?_, ?_, ?_, ?_, ?_, ?_, ?_, ?_, ?_, ?_⟩
    · rw [wrap_small (by omega) (by omega)]; omega
    · rw [wrap_small (by omega) (by omega)]; omega
    · rw [wrap_small (by omega) (by omega)]; omega
    all_goals omega
  obtain ⟨hw1, hw2, hw3, c1, c2, c3, c4, c5, c6, c7, c8⟩ := hA
  have hA2 : p ≤ s.size ∧ s.size ≤ 1000 ∧ e + (p - e) = p ∧ K + (p - e) < k := by
    clear ht H hbl h0 hsz hw1 hw2 hw3 c1 c2 c3 c4 c5 c6 c7 c8
    generalize s.size = z at *
    omega
  have hb := covers_l1 s L idx p f0 (s.extract p (p + n)) g0 g1 g2 g3 K hA2.1 hA2.2.1 (by rw [hsz, hw1, hw2]; exact H) (p - e) k e hA2.2.2.1 hbl hA2.2.2.2
  have hf : ((f0 == 0) != ((idx : Int) == wrap64 ((L.length : Int) - 1))) = false := by rw [h0]; simp
  clear H h0 hbl
  unfold falseworklaw16_LexCovers.l0
  rw [if_pos c1, if_pos c2, ht]
  show (if (p : Int) < (e : Int) then _ else _) = _
  rw [if_neg c3]
  show (if (p : Int) > (s.size : Int) then _ else _) = _
  rw [if_neg c4]
  show (if ((s.extract p (p + n)).size : Int) > (wrap64 ((s.size : Int) - (p : Int))) then _ else _) = _
  rw [hsz, hw3, if_neg c5]
  show (if 0 ≤ (p : Int) then (if (p : Int) ≤ (wrap64 ((p : Int) + (n : Int))) then (if (wrap64 ((p : Int) + (n : Int))) ≤ (s.size : Int) then (if (s.extract (p : Int).toNat (wrap64 ((p : Int) + (n : Int))).toNat).toList = (s.extract p (p + n)).toList then _ else _) else _) else _) else _) = _
  rw [hw1, if_pos c6, if_pos c7, if_pos c8, Int.toNat_natCast, Int.toNat_natCast, if_pos rfl]
  show falseworklaw16_LexCovers.j1 (k + 1) s L (e : Int) (idx : Int) ((f0 == 0) != ((idx : Int) == wrap64 ((L.length : Int) - 1))) f0 (s.extract p (p + n)) g0 g1 g2 g3 (p : Int) = _
  rw [hf, falseworklaw16_LexCovers.j1, if_neg (show ¬ (false = true) by simp)]
  exact hb

theorem tiles_len (s : ByteArray) : ∀ (l : List S39) (e : Nat), Tiles s e l → e + l.length ≤ s.size
  | [], e, h => by simpa using h.1
  | t :: l, e, ⟨p, n, h1, h2, h3, _, _, _, _, h8⟩ => by
    have := tiles_len s l (p + n) h8
    simp
    omega
theorem rd39 (l : List S39) (i : Nat) (h : i < l.length) : rd_T39 l (i : Int) = l[i] := by
  unfold rd_T39
  simp [List.getD, h]
theorem rd_mid (pre l : List S39) (t : S39) : rd_T39 (pre ++ t :: l) (pre.length : Int) = t := by
  rw [rd39 _ _ (by simp)]
  simp
theorem covers_loop (s : ByteArray) (hs : s.size ≤ 400) : ∀ (l pre : List S39) (e : Nat), pre.length + l.length ≤ 400 → Tiles s e l → ∃ K, ∀ k, K ≤ k → falseworklaw16_LexCovers.l0 k s (pre ++ (l ++ [endTok s])) (e : Int) (pre.length : Int) = some true
  | [], pre, e, hp, h => by
    have hl : (pre ++ ([] ++ [endTok s])).length = pre.length + 1 := by simp
    refine ⟨4100 + 1000 + 2, fun k hk => ?_⟩
    refine covers_tok s hs _ (by rw [hl]; simp at hp; omega) pre.length e s.size 0 0 0 0 0 ⟨#[]⟩ 4100 (by rw [hl]; omega) ?_ h.1 (Nat.le_refl _) (fun j h1 h2 => h.2 j h1 h2) ?_ ?_ k (by omega)
    · have := rd_mid pre [] (endTok s)
      refine this.trans ?_
      unfold endTok
      have hE : s.extract s.size (s.size + 0) = ⟨#[]⟩ := by
        apply ByteArray.ext
        apply Array.toList_inj.1
        have h3 := L8_ext s s.size (s.size + 0)
        unfold L8 at h3
        rw [h3]
        simp
      rw [hE]
    · rw [hl, wrap_small (by omega) (by omega)]
      show true = _
      symm
      rw [beq_iff_eq]
      omega
    · intro k' hk'
      obtain ⟨k', rfl⟩ : ∃ j, k' = j + 1 := ⟨k' - 1, by omega⟩
      unfold falseworklaw16_LexCovers.l0
      rw [hl, if_neg (by omega), if_pos (by omega), awake_all k' (by omega)]
      rfl
  | t :: l, pre, e, hp, h => by
    obtain ⟨p, n, h1, h2, h3, h4, h5, h6, h7, h8⟩ := h
    obtain ⟨K, hK⟩ := covers_loop s hs l (pre ++ [t]) (p + n) (by simp at hp ⊢; omega) h8
    have hl : ∀ t' : S39, (pre ++ t' :: (l ++ [endTok s])).length = pre.length + l.length + 2 := by intro t'; simp; omega
    refine ⟨K + 1000 + 2, fun k hk => ?_⟩
    obtain ⟨f0, f1, ⟨g0, g1, g2, g3⟩, f3⟩ := t
    simp only at h5 h6 h7
    subst h5 h6
    refine covers_tok s hs (pre ++ ⟨f0, s.extract p (p + n), ⟨g0, g1, g2, g3⟩, (p : Int)⟩ :: (l ++ [endTok s])) (by rw [hl]; simp at hp; omega) pre.length e p n f0 g0 g1 g2 g3 K (by rw [hl]; omega) (rd_mid pre _ _) h1 h3 h4 ?_ ?_ k (by omega)
    · rw [List.length_cons] at hp
      rw [hl, wrap_small (by omega) (by omega), beq_eq_false_iff_ne.2 (show f0 ≠ 0 by omega)]
      symm
      rw [beq_eq_false_iff_ne]
      omega
    · intro k' hk'
      have := hK k' hk'
      rw [List.append_assoc, List.length_append] at this
      exact this
theorem covers_ev (s : ByteArray) : ∃ K, ∀ k, K ≤ k → falseworklaw16_LexCovers.f k s = some true := by
  by_cases h : 400 < s.size
  · refine ⟨5000, fun k hk => ?_⟩
    unfold falseworklaw16_LexCovers.f
    rw [lex_lex_eq s k (by omega), if_pos h]
    simp only [falseworklaw16_num.f, Option.bind_some, awake_all k (by omega)]
    rw [if_neg (by decide), if_pos (by decide), if_pos (by decide), if_pos (by omega)]
  · cases hl : lexT s s.size 0 0 with
    | error e =>
      have he : e ≤ s.size := lexT_err s s.size 0 0 e (by omega) hl
      refine ⟨5000, fun k hk => ?_⟩
      unfold falseworklaw16_LexCovers.f
      rw [lex_lex_eq s k (by omega), if_neg h, hl]
      simp only [lexR, falseworklaw16_num.f, Option.bind_some, awake_all k (by omega)]
      rw [if_neg (by decide), if_pos (by decide), if_pos (by omega), if_pos (by omega)]
    | ok l =>
      have hT := tiles s (by omega) s.size 0 0 l (by omega) (by omega) (fun j h1 h2 => by omega) hl
      obtain ⟨K, hK⟩ := covers_loop s (by omega) l [] 0 (by have := tiles_len s l 0 hT; simp; omega) hT
      refine ⟨K + 5000, fun k hk => ?_⟩
      have hk2 : falseworklaw16_LexCovers.l0 k s (l ++ [endTok s]) 0 0 = some true := hK k (by omega)
      unfold falseworklaw16_LexCovers.f
      rw [lex_lex_eq s k (by omega), if_neg h, hl]
      simp only [lexR, falseworklaw16_num.f, Option.bind_some]
      rw [if_pos trivial, List.nil_append]
      exact hk2
theorem pure_true (s : ByteArray) : ∃ k, falseworklaw16_LexCovers.f k s = some true := by
  obtain ⟨K, hK⟩ := covers_ev s
  exact ⟨K, hK K (Nat.le_refl _)⟩
end Go.Proofs.YtjehfmimbbdnkaaDoor.LexPure
