/- The plain law of all of a text's tokens: what lex.Lex computes. -/
import Derived.Test.YtjehfmimbbdnkaaDoorLx18
import Derived.Test.YtjehfmimbbdnkaaDoorPureOne
namespace Go.Proofs.YtjehfmimbbdnkaaDoor.LexPure
open Go.RowKit Go.Proofs.YtjehfmimbbdnkaaDoorW.PrintWords Go.Proofs.YtjehfmimbbdnkaaDoorW.PrintLast Go.Proofs.YtjehfmimbbdnkaaDoorW.PrintMore
open Go.Proofs.YtjehfmimbbdnkaaDoor.L Go.Proofs.YtjehfmimbbdnkaaDoor

/-- Is there a blank? -/
def blankAt (s : ByteArray) (i : Nat) : Bool := bt s (i : Int) == 32 || (bt s (i : Int) == 9 || bt s (i : Int) == 10)
/-- The token at i. -/
def tokAt (s : ByteArray) (i : Nat) : Int × ByteArray × Int × Int × Int × ByteArray × Int × Int := oneR (s.extract i s.size)
def tokOf (r : Int × ByteArray × Int × Int × Int × ByteArray × Int × Int) (i : Nat) : S39 := ⟨r.1, r.2.1, ⟨r.2.2.1, r.2.2.2.1, r.2.2.2.2.1, r.2.2.2.2.2.1⟩, (i : Int)⟩
def endTok (s : ByteArray) : S39 := ⟨0, ⟨#[]⟩, ⟨0, 0, 0, ⟨#[]⟩⟩, (s.size : Int)⟩
/-- The tokens from i on (m bytes are left), none ahead of place nx; or the place of the fault. -/
def lexT (s : ByteArray) : Nat → Nat → Int → Except Nat (List S39)
  | 0, _, _ => .ok []
  | m + 1, i, nx =>
    if (i : Int) < nx ∨ blankAt s i = true then lexT s m (i + 1) nx
    else if (tokAt s i).2.2.2.2.2.2.2 = 0 then .error i
    else match lexT s m (i + 1) (wrap64 ((i : Int) + (tokAt s i).2.2.2.2.2.2.2)) with
      | .ok l => .ok (tokOf (tokAt s i) i :: l)
      | .error e => .error e
theorem lexT_skip (s : ByteArray) (m i : Nat) (nx : Int) (h : (i : Int) < nx ∨ blankAt s i = true) : lexT s (m + 1) i nx = lexT s m (i + 1) nx := by
  rw [lexT, if_pos h]
theorem lexT_go (s : ByteArray) (m i : Nat) (nx : Int) (h : ¬ ((i : Int) < nx ∨ blankAt s i = true)) : lexT s (m + 1) i nx =
    if (tokAt s i).2.2.2.2.2.2.2 = 0 then .error i
    else match lexT s m (i + 1) (wrap64 ((i : Int) + (tokAt s i).2.2.2.2.2.2.2)) with
      | .ok l => .ok (tokOf (tokAt s i) i :: l)
      | .error e => .error e := by
  rw [lexT, if_neg h]
def lexR (s : ByteArray) (acc : List S39) : Except Nat (List S39) → (List S39) × Int × Int
  | .ok l => (acc ++ l ++ [endTok s], 0, 0)
  | .error e => ([], (e : Int), 3)

theorem lex_loop (s : ByteArray) (hs : s.size ≤ 400) : ∀ (m k i : Nat) (acc : List S39) (nx : Int), i + m = s.size → acc.length ≤ i → 2 * m + 3000 < k →
    lex_Lex.l0 k s acc nx (s.size : Int) (i : Int) = some (lexR s acc (lexT s m i nx))
  | 0, k + 1, i, acc, nx, h, ha, hk => by
    unfold lex_Lex.l0
    rw [if_neg (by omega), if_pos (by omega)]
    simp only [lexT, lexR, List.append_nil]
    rfl
  | m + 1, 0, i, acc, nx, h, ha, hk => by omega
  | m + 1, 1, i, acc, nx, h, ha, hk => by omega
  | m + 1, k + 2, i, acc, nx, h, ha, hk => by
    have hw : wrap64 ((i : Int) + 1) = ((i + 1 : Nat) : Int) := by rw [wrap_small (by omega) (by omega)]; omega
    have skip : lex_Lex.j1 (k + 1) s acc nx (i : Int) (s.size : Int) (i : Int) true = some (lexR s acc (lexT s m (i + 1) nx)) := by
      unfold lex_Lex.j1
      rw [if_pos rfl, hw]
      exact lex_loop s hs m k (i + 1) acc nx (by omega) (by omega) (by omega)
    unfold lex_Lex.l0
    rw [if_pos (by omega)]
    by_cases h1 : (i : Int) < nx
    · rw [if_pos h1, skip]
      rw [lexT_skip s m i nx (.inl h1)]
    · rw [if_neg h1, if_pos (by omega), if_pos (by omega)]
      by_cases h2 : bt s (i : Int) = 32
      · rw [if_pos h2, skip]
        rw [lexT_skip s m i nx (.inr (by unfold blankAt; rw [h2]; rfl))]
      · rw [if_neg h2]
        by_cases h3 : bt s (i : Int) = 9
        · rw [if_pos h3, skip]
          rw [lexT_skip s m i nx (.inr (by unfold blankAt; rw [h3]; rfl))]
        · rw [if_neg h3]
          by_cases h4 : bt s (i : Int) = 10
          · rw [h4]
            refine Eq.trans skip ?_
            rw [lexT_skip s m i nx (.inr (by unfold blankAt; rw [h4]; rfl))]
          · rw [beq_eq_false_iff_ne.2 h4]
            have hb : ¬ ((i : Int) < nx ∨ blankAt s i = true) := by
              unfold blankAt
              rw [beq_eq_false_iff_ne.2 h2, beq_eq_false_iff_ne.2 h3, beq_eq_false_iff_ne.2 h4]
              simpa using h1
            rw [lexT_go s m i nx hb]
            have hz := size_ext s i s.size (Nat.le_refl _)
            unfold lex_Lex.j1
            rw [if_neg (by simp), if_pos (by omega), if_pos (by omega), Int.toNat_natCast, lex_one_eq (s.extract i s.size) (by omega) (by omega) k (by omega), Option.bind_some]
            show (if (tokAt s i).2.2.2.2.2.2.2 = 0 then _ else _) = _
            by_cases h5 : (tokAt s i).2.2.2.2.2.2.2 = 0
            · rw [if_pos h5, if_pos h5]
              rfl
            · rw [if_neg h5, if_neg h5, if_pos (by omega), hw]
              have ih := lex_loop s hs m k (i + 1) (acc ++ [tokOf (tokAt s i) i]) (wrap64 ((i : Int) + (tokAt s i).2.2.2.2.2.2.2)) (by omega) (by simp; omega) (by omega)
              refine Eq.trans ih ?_
              cases lexT s m (i + 1) (wrap64 ((i : Int) + (tokAt s i).2.2.2.2.2.2.2)) with
              | error e => rfl
              | ok l => simp [lexR]

/-- lex.Lex. -/
theorem lex_lex_eq (s : ByteArray) (k : Nat) (hk : 4000 < k) : lex_Lex.f k s = some (if 400 < s.size then ([], 0, 2) else lexR s [] (lexT s s.size 0 0)) := by
  unfold lex_Lex.f
  by_cases h : 400 < s.size
  · rw [if_pos (by omega), if_pos h]
  · rw [if_neg (by omega), if_neg h]
    exact lex_loop s (by omega) s.size k 0 [] 0 (by omega) (by simp) (by omega)
end Go.Proofs.YtjehfmimbbdnkaaDoor.LexPure
