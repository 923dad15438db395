/- Own texts of this session, packed by its program wip/pp/pack.py: lemmas and walks of functions. -/
import Derived.Lib.ParseIntBCases
import Derived.Test.YtjehfmimbbdnkaaDoorKForms2
import Derived.Test.YtjehfmimbbdnkaaDoorKForms7
namespace Go.Proofs.YtjehfmimbbdnkaaDoor.LexPure
open Go.RowKit Go.Proofs.YtjehfmimbbdnkaaDoorW.PrintWords Go.Proofs.YtjehfmimbbdnkaaDoorW.PrintLast Go.Proofs.YtjehfmimbbdnkaaDoorW.PrintMore
open Go.Proofs.YtjehfmimbbdnkaaDoor.L Go.Proofs.YtjehfmimbbdnkaaDoor
theorem index_any (l : List ByteArray) (s : ByteArray) (hl : l.length < 1000000) : ∀ (m k i : Nat), i + m = l.length → m < k →
    ∃ j, slices_Index_string_string.l0 k l s (l.length : Int) (i : Int) = some j ∧ decide (j ≥ 0) = (l.drop i).any (fun w => s.toList == w.toList)
  | 0, k + 1, i, h, _ => by
    obtain rfl : i = l.length := by omega
    refine ⟨-1, ?_, ?_⟩
    · simp [slices_Index_string_string.l0]
    · simp
  | m + 1, k + 1, i, h, hk => by
    obtain ⟨j, hj, ha⟩ := index_any l s hl m k (i + 1) (by omega) (by omega)
    have hi : i < l.length := by omega
    have hd : l.drop i = l[i] :: l.drop (i + 1) := List.drop_eq_getElem_cons hi
    have hr : rdOf ByteArray.empty l (i : Int) = l[i] := by simp [rdOf, List.getD, hi]
    unfold slices_Index_string_string.l0
    rw [if_pos (by omega), if_pos (by omega), if_pos (by omega), hr, hd]
    by_cases hs : s.toList = l[i].toList
    · rw [if_pos hs]
      exact ⟨_, rfl, by rw [List.any_cons, beq_iff_eq.mpr hs, Bool.true_or]; exact decide_eq_true (by omega)⟩
    · rw [if_neg hs, wrap_small (by omega) (by omega)]
      refine ⟨j, by simpa using hj, ?_⟩
      rw [ha, List.any_cons, beq_eq_false_iff_ne.mpr hs, Bool.false_or]
def isWord (s : ByteArray) : Bool := wordsL.any fun w => s.toList == w.toList
theorem lex_word (s : ByteArray) (k : Nat) (hk : 100 < k) : lex_Word.f k s = some (isWord s) := by
  have hl : wordsL.length = 32 := by decide +kernel
  obtain ⟨j, hj, ha⟩ := index_any wordsL s (by omega) wordsL.length k 0 (by omega) (by omega)
  have h1 : slices_Index_string_string.f k wordsL s = some j := by unfold slices_Index_string_string.f; simpa using hj
  unfold lex_Word.f lex_words.f slices_Contains_string_string.f
  simp only [Option.bind_some, h1, ha, List.drop_zero]
  rfl
def namN (s : ByteArray) : Nat := headLen isNam s
theorem headLen_le (p : UInt8 → Bool) (s : ByteArray) : headLen p s ≤ s.size := by
  have := (List.takeWhile_sublist (l := s.data.toList) p).length_le
  rw [Array.length_toList] at this
  exact this
def namedR (s : ByteArray) : Int × ByteArray × Int × Int × Int × ByteArray × Int × Int :=
  if 16 < namN s then (2, s.extract 0 (namN s), 0, 0, 0, ⟨#[]⟩, 0, 0)
  else if isWord (s.extract 0 (namN s)) = true then (1, s.extract 0 (namN s), 0, 0, 0, ⟨#[]⟩, 0, (namN s : Int))
  else (2, s.extract 0 (namN s), 0, 0, 0, ⟨#[]⟩, 0, (namN s : Int))
theorem lex_named_eq (s : ByteArray) (hs : s.size ≤ 1000) (k : Nat) (hk : 2000 < k) : lex_named.f k s = some (namedR s) := by
  have hle := headLen_le isNam s
  have hrun : lex_run.f s 46 = some (namN s : Int) := by
    unfold lex_run.f
    rw [if_pos (by omega)]
    rfl
  unfold namN at hrun
  unfold lex_named.f namedR namN
  rw [hrun, Option.bind_some, if_pos (by omega), if_pos (by omega), Int.toNat_natCast]
  by_cases h : 16 < headLen isNam s
  · rw [if_pos (by omega), if_pos h]
  · rw [if_neg (by omega), if_neg h, lex_word _ k (by omega), Option.bind_some]
    split <;> rfl
def signs : List UInt8 := [40, 41, 44, 59, 61, 60, 62, 43, 42]
def oneR (s : ByteArray) : Int × ByteArray × Int × Int × Int × ByteArray × Int × Int :=
  if (bt s 0 = 120 ∨ bt s 0 = 102) ∧ 1 < s.size ∧ bt s 1 = 39 then codedR s
  else if 97 ≤ bt s 0 ∧ bt s 0 ≤ 122 then namedR s
  else if (48 ≤ bt s 0 ∧ bt s 0 ≤ 57) ∨ bt s 0 = 45 then numR s
  else if bt s 0 = 39 then textR s [] 1 (textS ((L8 s).drop 1))
  else if signs.contains ((bt s 0).toNat.toUInt8) then (4, s.extract 0 1, 0, 0, 0, ⟨#[]⟩, 0, 1)
  else none8
theorem index_ge (c : UInt8) : ∀ l : List UInt8, -1 ≤ Lib.indexByte l c ∧ (0 ≤ Lib.indexByte l c ↔ l.contains c = true)
  | [] => by simp [Lib.indexByte]
  | b :: l => by
    obtain ⟨h1, h2⟩ := index_ge c l
    unfold Lib.indexByte
    by_cases h : b = c
    · subst h
      simp
    · rw [if_neg (by simpa using h)]
      have hc : (b :: l).contains c = l.contains c := by
        rw [List.contains_cons, show (c == b) = false from beq_eq_false_iff_ne.2 (fun e => h e.symm), Bool.false_or]
      rw [hc, ← h2]
      by_cases h3 : Lib.indexByte l c = -1
      · rw [if_pos (by simpa using h3)]
        omega
      · rw [if_neg (by simpa using h3)]
        omega
theorem one_j1 (s : ByteArray) (hs : s.size ≤ 1000) (h0 : 0 < s.size) (k : Nat) (hk : 2000 < k) (f : Bool) (hf : f = decide ((48 ≤ bt s 0 ∧ bt s 0 ≤ 57) ∨ bt s 0 = 45)) :
    lex_one.j1 (k + 1) s (bt s 0) f = some (if (48 ≤ bt s 0 ∧ bt s 0 ≤ 57) ∨ bt s 0 = 45 then numR s
      else if bt s 0 = 39 then textR s [] 1 (textS ((L8 s).drop 1))
      else if signs.contains ((bt s 0).toNat.toUInt8) then (4, s.extract 0 1, 0, 0, 0, ⟨#[]⟩, 0, 1)
      else none8) := by
  rw [lex_one.j1]
  by_cases h : (48 ≤ bt s 0 ∧ bt s 0 ≤ 57) ∨ bt s 0 = 45
  · rw [if_pos (by rw [hf]; exact decide_eq_true h), if_pos h]
    unfold lex_number.f
    rw [if_pos ⟨h0, hs⟩]
    generalize numR s = r
    rfl
  · rw [if_neg (by rw [hf, decide_eq_false h]; simp), if_neg h]
    by_cases h1 : bt s 0 = 39
    · rw [if_pos h1, if_pos h1, lex_text_eq s hs k hk]
      generalize textR s [] 1 (textS ((L8 s).drop 1)) = r
      rfl
    · rw [if_neg h1, if_neg h1]
      unfold strings_IndexByte.f
      rw [Option.bind_some, show (⟨#[40, 41, 44, 59, 61, 60, 62, 43, 42]⟩ : ByteArray).data.toList = signs from rfl]
      obtain ⟨_, h2⟩ := index_ge (bt s 0).toNat.toUInt8 signs
      by_cases h3 : signs.contains (bt s 0).toNat.toUInt8 = true
      · rw [if_pos h3, if_pos (show Lib.indexByte signs (bt s 0).toNat.toUInt8 ≥ 0 from h2.2 h3), if_pos (by omega), if_pos (by omega)]
      · rw [if_neg h3, if_neg (show ¬ Lib.indexByte signs (bt s 0).toNat.toUInt8 ≥ 0 from fun e => h3 (h2.1 e))]
        rfl
theorem one_j0 (s : ByteArray) (hs : s.size ≤ 1000) (h0 : 0 < s.size) (k : Nat) (hk : 2001 < k) (f : Bool) (hf : f = decide ((bt s 0 = 120 ∨ bt s 0 = 102) ∧ 1 < s.size ∧ bt s 1 = 39)) :
    lex_one.j0 (k + 1) s (bt s 0) f = some (oneR s) := by
  rw [lex_one.j0]
  unfold oneR
  by_cases h : (bt s 0 = 120 ∨ bt s 0 = 102) ∧ 1 < s.size ∧ bt s 1 = 39
  · rw [if_pos (by rw [hf]; exact decide_eq_true h), if_pos h, lex_coded_eq s hs (by omega) k (by omega)]
    generalize codedR s = r
    rfl
  · rw [if_neg (by rw [hf, decide_eq_false h]; simp), if_neg h]
    unfold lex_letter.f lex_digit.f
    by_cases h1 : 97 ≤ bt s 0 ∧ bt s 0 ≤ 122
    · rw [if_pos h1, if_pos (by omega), decide_eq_true h1.2, Option.bind_some, if_pos rfl, lex_named_eq s hs k (by omega)]
      generalize namedR s = r
      rfl
    · rw [if_neg h1]
      have e1 : (if bt s 0 ≥ 97 then some (decide (bt s 0 ≤ 122)) else some false) = some false := by
        split
        · rw [decide_eq_false (by omega)]
        · rfl
      rw [e1, Option.bind_some, if_neg (by simp)]
      obtain ⟨k, rfl⟩ : ∃ k', k = k' + 1 := ⟨k - 1, by omega⟩
      by_cases h2 : 48 ≤ bt s 0 ∧ bt s 0 ≤ 57
      · rw [if_pos (show bt s 0 ≥ 48 from h2.1), decide_eq_true h2.2, Option.bind_some, if_pos rfl]
        exact one_j1 s hs h0 k (by omega) true (by rw [decide_eq_true (.inl h2)])
      · have e2 : (if bt s 0 ≥ 48 then some (decide (bt s 0 ≤ 57)) else some false) = some false := by
          split
          · rw [decide_eq_false (by omega)]
          · rfl
        rw [e2, Option.bind_some, if_neg (by simp)]
        refine one_j1 s hs h0 k (by omega) _ ?_
        by_cases h3 : bt s 0 = 45
        · rw [decide_eq_true (.inr h3), h3]; rfl
        · rw [decide_eq_false (by omega), beq_eq_false_iff_ne.2 h3]
theorem lex_one_eq (s : ByteArray) (hs : s.size ≤ 1000) (h0 : 0 < s.size) (k : Nat) (hk : 2002 < k) : lex_one.f k s = some (oneR s) := by
  obtain ⟨k, rfl⟩ : ∃ k', k = k' + 1 := ⟨k - 1, by omega⟩
  have J := one_j0 s hs h0 k (by omega)
  unfold lex_one.f
  rw [if_pos (by omega)]
  by_cases h1 : bt s 0 = 120
  · rw [if_pos h1]
    by_cases h2 : 1 < s.size
    · rw [if_pos (by omega), if_pos (by omega)]
      refine J _ ?_
      by_cases h3 : bt s 1 = 39
      · rw [decide_eq_true ⟨.inl h1, h2, h3⟩, h3]; rfl
      · rw [decide_eq_false (fun e => h3 e.2.2), beq_eq_false_iff_ne.2 h3]
    · rw [if_neg (by omega)]
      exact J _ (by rw [decide_eq_false (fun e => h2 e.2.1)])
  · rw [if_neg h1]
    by_cases h1' : bt s 0 = 102
    · rw [if_pos h1']
      by_cases h2 : 1 < s.size
      · rw [if_pos (by omega), if_pos (by omega)]
        refine J _ ?_
        by_cases h3 : bt s 1 = 39
        · rw [decide_eq_true ⟨.inr h1', h2, h3⟩, h3]; rfl
        · rw [decide_eq_false (fun e => h3 e.2.2), beq_eq_false_iff_ne.2 h3]
      · rw [if_neg (by omega)]
        exact J _ (by rw [decide_eq_false (fun e => h2 e.2.1)])
    · rw [if_neg h1']
      exact J _ (by rw [decide_eq_false (fun e => e.1.elim h1 h1')])
end Go.Proofs.YtjehfmimbbdnkaaDoor.LexPure
namespace Go.Proofs.YtjehfmimbbdnkaaDoor.LexPure
open Go.RowKit Go.Proofs.YtjehfmimbbdnkaaDoorW.PrintWords Go.Proofs.YtjehfmimbbdnkaaDoorW.PrintLast Go.Proofs.YtjehfmimbbdnkaaDoorW.PrintMore
open Go.Proofs.YtjehfmimbbdnkaaDoor.L Go.Proofs.YtjehfmimbbdnkaaDoor
def blankAt (s : ByteArray) (i : Nat) : Bool := bt s (i : Int) == 32 || (bt s (i : Int) == 9 || bt s (i : Int) == 10)
def tokAt (s : ByteArray) (i : Nat) : Int × ByteArray × Int × Int × Int × ByteArray × Int × Int := oneR (s.extract i s.size)
def tokOf (r : Int × ByteArray × Int × Int × Int × ByteArray × Int × Int) (i : Nat) : S39 := ⟨r.1, r.2.1, ⟨r.2.2.1, r.2.2.2.1, r.2.2.2.2.1, r.2.2.2.2.2.1⟩, (i : Int)⟩
def endTok (s : ByteArray) : S39 := ⟨0, ⟨#[]⟩, ⟨0, 0, 0, ⟨#[]⟩⟩, (s.size : Int)⟩
def lexT (s : ByteArray) : Nat → Nat → Int → Except Nat (List S39)
  | 0, _, _ => .ok []
  | m + 1, i, nx =>
    if (i : Int) < nx ∨ blankAt s i = true then lexT s m (i + 1) nx
    else if (tokAt s i).2.2.2.2.2.2.2 = 0 then .error i
    else match lexT s m (i + 1) (wrap64 ((i : Int) + (tokAt s i).2.2.2.2.2.2.2)) with
      | .ok l => .ok (tokOf (tokAt s i) i :: l)
      | .error e => .error e
theorem lexT_skip (s : ByteArray) (m i : Nat) (nx : Int) (h : (i : Int) < nx ∨ blankAt s i = true) : lexT s (m + 1) i nx = lexT s m (i + 1) nx := by
  rw [lexT, if_pos h]
theorem lexT_go (s : ByteArray) (m i : Nat) (nx : Int) (h : ¬ ((i : Int) < nx ∨ blankAt s i = true)) : lexT s (m + 1) i nx =
    if (tokAt s i).2.2.2.2.2.2.2 = 0 then .error i
    else match lexT s m (i + 1) (wrap64 ((i : Int) + (tokAt s i).2.2.2.2.2.2.2)) with
      | .ok l => .ok (tokOf (tokAt s i) i :: l)
      | .error e => .error e := by
  rw [lexT, if_neg h]
def lexR (s : ByteArray) (acc : List S39) : Except Nat (List S39) → (List S39) × Int × Int
  | .ok l => (acc ++ l ++ [endTok s], 0, 0)
  | .error e => ([], (e : Int), 3)
theorem lex_loop (s : ByteArray) (hs : s.size ≤ 400) : ∀ (m k i : Nat) (acc : List S39) (nx : Int), i + m = s.size → acc.length ≤ i → 2 * m + 3000 < k →
    lex_Lex.l0 k s acc nx (s.size : Int) (i : Int) = some (lexR s acc (lexT s m i nx))
  | 0, k + 1, i, acc, nx, h, ha, hk => by
    unfold lex_Lex.l0
    rw [if_neg (by omega), if_pos (by omega)]
    simp only [lexT, lexR, List.append_nil]
    rfl
  | m + 1, 0, i, acc, nx, h, ha, hk => by omega
  | m + 1, 1, i, acc, nx, h, ha, hk => by omega
  | m + 1, k + 2, i, acc, nx, h, ha, hk => by
    have hw : wrap64 ((i : Int) + 1) = ((i + 1 : Nat) : Int) := by rw [wrap_small (by omega) (by omega)]; omega
    have skip : lex_Lex.j1 (k + 1) s acc nx (i : Int) (s.size : Int) (i : Int) true = some (lexR s acc (lexT s m (i + 1) nx)) := by
      unfold lex_Lex.j1
      rw [if_pos rfl, hw]
      exact lex_loop s hs m k (i + 1) acc nx (by omega) (by omega) (by omega)
    unfold lex_Lex.l0
    rw [if_pos (by omega)]
    by_cases h1 : (i : Int) < nx
    · rw [if_pos h1, skip]
      rw [lexT_skip s m i nx (.inl h1)]
    · rw [if_neg h1, if_pos (by omega), if_pos (by omega)]
      by_cases h2 : bt s (i : Int) = 32
      · rw [if_pos h2, skip]
        rw [lexT_skip s m i nx (.inr (by unfold blankAt; rw [h2]; rfl))]
      · rw [if_neg h2]
        by_cases h3 : bt s (i : Int) = 9
        · rw [if_pos h3, skip]
          rw [lexT_skip s m i nx (.inr (by unfold blankAt; rw [h3]; rfl))]
        · rw [if_neg h3]
          by_cases h4 : bt s (i : Int) = 10
          · rw [h4]
            refine Eq.trans skip ?_
            rw [lexT_skip s m i nx (.inr (by unfold blankAt; rw [h4]; rfl))]
          · rw [beq_eq_false_iff_ne.2 h4]
            have hb : ¬ ((i : Int) < nx ∨ blankAt s i = true) := by
              unfold blankAt
              rw [beq_eq_false_iff_ne.2 h2, beq_eq_false_iff_ne.2 h3, beq_eq_false_iff_ne.2 h4]
              simpa using h1
            rw [lexT_go s m i nx hb]
            have hz := size_ext s i s.size (Nat.le_refl _)
            unfold lex_Lex.j1
            rw [if_neg (by simp), if_pos (by omega), if_pos (by omega), Int.toNat_natCast, lex_one_eq (s.extract i s.size) (by omega) (by omega) k (by omega), Option.bind_some]
            show (if (tokAt s i).2.2.2.2.2.2.2 = 0 then _ else _) = _
            by_cases h5 : (tokAt s i).2.2.2.2.2.2.2 = 0
            · rw [if_pos h5, if_pos h5]
              rfl
            · rw [if_neg h5, if_neg h5, if_pos (by omega), hw]
              have ih := lex_loop s hs m k (i + 1) (acc ++ [tokOf (tokAt s i) i]) (wrap64 ((i : Int) + (tokAt s i).2.2.2.2.2.2.2)) (by omega) (by simp; omega) (by omega)
              refine Eq.trans ih ?_
              cases lexT s m (i + 1) (wrap64 ((i : Int) + (tokAt s i).2.2.2.2.2.2.2)) with
              | error e => rfl
              | ok l => simp [lexR]
theorem lex_lex_eq (s : ByteArray) (k : Nat) (hk : 4000 < k) : lex_Lex.f k s = some (if 400 < s.size then ([], 0, 2) else lexR s [] (lexT s s.size 0 0)) := by
  unfold lex_Lex.f
  by_cases h : 400 < s.size
  · rw [if_pos (by omega), if_pos h]
  · rw [if_neg (by omega), if_neg h]
    exact lex_loop s (by omega) s.size k 0 [] 0 (by omega) (by simp) (by omega)
end Go.Proofs.YtjehfmimbbdnkaaDoor.LexPure
namespace Go.Proofs.YtjehfmimbbdnkaaDoor.LexPure
open Go.RowKit Go.Proofs.YtjehfmimbbdnkaaDoorW.PrintWords Go.Proofs.YtjehfmimbbdnkaaDoorW.PrintLast Go.Proofs.YtjehfmimbbdnkaaDoorW.PrintMore
open Go.Proofs.YtjehfmimbbdnkaaDoor.L Go.Proofs.YtjehfmimbbdnkaaDoor
def Sound (u : ByteArray) (r : Int × ByteArray × Int × Int × Int × ByteArray × Int × Int) : Prop :=
  r.2.2.2.2.2.2.2 = 0 ∨ ∃ n : Nat, 0 < n ∧ n ≤ u.size ∧ r.2.2.2.2.2.2.2 = (n : Int) ∧ r.2.1 = u.extract 0 n ∧ 1 ≤ r.1 ∧ r.1 ≤ 4
theorem sound_none (u : ByteArray) : Sound u none8 := .inl rfl
theorem sound_mk (u : ByteArray) (n : Nat) (kd vk vn vf : Int) (vs : ByteArray) (a : Int) (hk : 1 ≤ kd ∧ kd ≤ 4) (h0 : 0 < n) (h1 : n ≤ u.size) : Sound u (kd, u.extract 0 n, vk, vn, vf, vs, a, (n : Int)) :=
  .inr ⟨n, h0, h1, rfl, rfl, hk⟩
theorem textS_le : ∀ (m : Nat) (l c : List UInt8) (n : Nat), l.length ≤ m → textS l = some (c, n) → 1 ≤ n ∧ n ≤ l.length
  | m, [], c, n, _, h => by simp [textS] at h
  | 0, _ :: _, c, n, hm, h => by simp at hm
  | m + 1, a :: r, c, n, hm, h => by
    have hm' : r.length ≤ m := by simpa using hm
    rw [textS.eq_def] at h
    simp only [] at h
    split at h
    · split at h
      · rename_i d r'
        split at h
        · rw [Option.map_eq_some_iff] at h
          obtain ⟨⟨c', n'⟩, h1, h2⟩ := h
          obtain ⟨h3, h4⟩ := textS_le m r' c' n' (by simp at hm'; omega) h1
          have : n' + 2 = n := congrArg Prod.snd h2
          simp; omega
        · have : 1 = n := congrArg Prod.snd (Option.some.inj h)
          simp; omega
      · have : 1 = n := congrArg Prod.snd (Option.some.inj h)
        simp; omega
    · split at h
      · cases h
      · rw [Option.map_eq_some_iff] at h
        obtain ⟨⟨c', n'⟩, h1, h2⟩ := h
        obtain ⟨h3, h4⟩ := textS_le m r c' n' hm' h1
        have : n' + 1 = n := congrArg Prod.snd h2
        simp; omega
theorem sound_text (u : ByteArray) (h0 : 0 < u.size) : Sound u (textR u [] 1 (textS ((L8 u).drop 1))) := by
  cases h : textS ((L8 u).drop 1) with
  | none => exact .inl rfl
  | some x =>
    obtain ⟨c, n⟩ := x
    have := textS_le _ _ c n (Nat.le_refl _) h
    rw [List.length_drop, L8_len] at this
    show Sound u (if 40 < ([] : List Int).length + c.length then none8 else (3, u.extract 0 (1 + n), 5, 0, 0, strOfNums ([] ++ c.map fun x => (x.toNat : Int)), 0, ((1 + n : Nat) : Int)))
    split
    · exact sound_none u
    · exact sound_mk u _ _ _ _ _ _ _ (by decide) (by omega) (by omega)
theorem sound_coded (u : ByteArray) : Sound u (codedR u) := by
  unfold codedR
  split
  · exact sound_none u
  · split
    · exact sound_none u
    · split
      · split
        · split
          · exact sound_mk u _ _ _ _ _ _ _ (by decide) (by omega) (by omega)
          · exact sound_none u
        · exact sound_none u
      · split
        · exact sound_none u
        · exact sound_mk u _ _ _ _ _ _ _ (by decide) (by omega) (by omega)
theorem sound_named (u : ByteArray) : Sound u (namedR u) := by
  have hle := headLen_le isNam u
  have h1 : namN u = headLen isNam u := rfl
  unfold namedR
  split
  · exact .inl rfl
  · by_cases h : namN u = 0
    · split
      · exact .inl (by show ((namN u : Nat) : Int) = 0; omega)
      · exact .inl (by show ((namN u : Nat) : Int) = 0; omega)
    · split
      · exact sound_mk u _ _ _ _ _ _ _ (by decide) (by omega) (by omega)
      · exact sound_mk u _ _ _ _ _ _ _ (by decide) (by omega) (by omega)
theorem sound_num (u : ByteArray) (h0 : 0 < u.size) : Sound u (numR u) := by
  have hle := numN_le u (by unfold numAt; split <;> omega)
  unfold numR
  split
  · split
    · exact sound_none u
    · by_cases h : numAt u + numN u = 0
      · exact .inl (by show ((numAt u + numN u : Nat) : Int) = 0; omega)
      · exact sound_mk u _ _ _ _ _ _ _ (by decide) (by omega) (by omega)
  · exact sound_none u
theorem sound_one (u : ByteArray) (h0 : 0 < u.size) : Sound u (oneR u) := by
  unfold oneR
  split
  · exact sound_coded u
  · split
    · exact sound_named u
    · split
      · exact sound_num u h0
      · split
        · exact sound_text u h0
        · split
          · exact sound_mk u 1 _ _ _ _ _ _ (by decide) (by omega) (by omega)
          · exact sound_none u
end Go.Proofs.YtjehfmimbbdnkaaDoor.LexPure
namespace Go.Proofs.YtjehfmimbbdnkaaDoor.L
open Go.RowKit Go.Proofs.YtjehfmimbbdnkaaDoorW.PrintWords Go.Proofs.YtjehfmimbbdnkaaDoorW.PrintLast Go.Proofs.YtjehfmimbbdnkaaDoorW.PrintMore
attribute [local go_sem] max2_int min2_int max_two min_two max_three min_three max_four min_four
set_option linter.unusedVariables false
set_option linter.unusedSimpArgs false
theorem eqA37 (d : Nat) (w : World) (x0 y0 : Int) (x1 y1 : Int) (x2 y2 : Int) (x3 y3 : ByteArray) :
  (Op.equalIn (d + 2) 37 (.agg #[.int .i64 x0, .int .i64 x1, .int .u64 x2, .string x3]) (.agg #[.int .i64 y0, .int .i64 y1, .int .u64 y2, .string y3])).run Tryd.prog w = .ok (x0 == y0 && (x1 == y1 && (x2 == y2 && (x3.toList == y3.toList)))) w := by
 refine eqA_of Tryd.underlying37 (by kernel_rfl) ?_
 refine eqf_cons (by rfl) (by go_simp; rfl) (by go_simp; rfl) (by go_simp) ?_
 refine eqf_cons (by rfl) (by go_simp; rfl) (by go_simp; rfl) (by go_simp) ?_
 refine eqf_cons (by rfl) (by go_simp; rfl) (by go_simp; rfl) (by go_simp) ?_
 exact eqf_last (by rfl) (by go_simp; rfl) (by go_simp; rfl) (by go_simp)
end Go.Proofs.YtjehfmimbbdnkaaDoor.L
namespace Go.Proofs.YtjehfmimbbdnkaaDoor.L
open Go.RowKit Go.Proofs.YtjehfmimbbdnkaaDoorW.PrintWords Go.Proofs.YtjehfmimbbdnkaaDoorW.PrintLast Go.Proofs.YtjehfmimbbdnkaaDoorW.PrintMore
attribute [local go_sem] max2_int min2_int max_two min_two max_three min_three max_four min_four
set_option linter.unusedVariables false
set_option linter.unusedSimpArgs false
def falseworklaw16_num.f (a0 : Int) : Option (Int) := some a0
set_option maxHeartbeats 8000000 in
set_option maxRecDepth 100000 in
theorem falseworklaw16_num.calls (a0 : Int) (r : Int) (w : World) (h : falseworklaw16_num.f a0 = some r) :
  Calls Tryd.prog 12 #[.int .i64 a0] w fun e w' => e = .returned (.int .i64 r) ∧ Drawn0 w w' := by
 have H : (some a0) = some r := h
 clear h
 obtain rfl := Option.some.inj H
 go_enter Tryd.func12, Tryd.ntmps12
 go_wp2
 go_ret
 exact ⟨by first | rfl | (simp; done) | (simp [*]; done), by repeat (first | exact Drawn0.refl _ | apply Drawn0.step)⟩
end Go.Proofs.YtjehfmimbbdnkaaDoor.L
namespace Go.Proofs.YtjehfmimbbdnkaaDoor.L
open Go.RowKit Go.Proofs.YtjehfmimbbdnkaaDoorW.PrintWords Go.Proofs.YtjehfmimbbdnkaaDoorW.PrintLast Go.Proofs.YtjehfmimbbdnkaaDoorW.PrintMore
attribute [local go_sem] max2_int min2_int max_two min_two max_three min_three max_four min_four
set_option linter.unusedVariables false
set_option linter.unusedSimpArgs false
attribute [local go_sem high] eqA37
def falseworklaw16_awake.f (k : Nat)  : Option (Bool) := (lex_Lex.f k (⟨#[97, 45, 53]⟩ : ByteArray)).bind fun bt268 => ((lex_Lex.f k (⟨#[65]⟩ : ByteArray)).bind fun bt273 => ((falseworklaw16_num.f bt268.2.2).bind fun t278 => (if t278 = 0 then (if (bt268.1.length : Int) = 3 then (if 1 < (bt268.1.length : Int) then (if (((rd_T39 bt268.1 1).f2.f0) == 2 && (((rd_T39 bt268.1 1).f2.f1) == (-5) && (((rd_T39 bt268.1 1).f2.f2) == 0 && ((((rd_T39 bt268.1 1).f2.f3).toList) == ([] : List UInt8))))) = true then ((falseworklaw16_num.f bt273.2.2).bind fun t280 => (if t280 = 3 then (some (bt273.2.1 == 0)) else (some false))) else (some false)) else (none)) else (some false)) else (some false))))
theorem falseworklaw16_awake.mono : ∀ k, LeO (falseworklaw16_awake.f k ) (falseworklaw16_awake.f (k + 1) ) := by
 intro  k
 unfold falseworklaw16_awake.f
 repeat' first
   | (with_reducible exact lex_Lex.mono _ _)
   | (with_reducible exact LeO.refl _)
   | (with_reducible exact LeO.none _)
   | (with_reducible refine LeO.ite ?_ ?_)
   | (with_reducible refine LeO.bind ?_ (fun _ => ?_))
   | exact lex_Lex.mono _ _
   | exact LeO.none _
   | refine LeO.ite ?_ ?_
   | refine LeO.bind ?_ (fun _ => ?_)
set_option maxHeartbeats 8000000 in
set_option maxRecDepth 100000 in
theorem falseworklaw16_awake.calls (k : Nat)  (r : Bool) (w : World) (h : falseworklaw16_awake.f k  = some r) (hG : GL w) :
  Calls Tryd.prog 13 #[] w fun e w' => e = .returned (.bool r) ∧ Below w.heap.size w w' := by
 have hu37 := Tryd.underlying37
 have HB := Aside0.mk (Below.refl w.heap.size w)
 have HG := Aside0.mk hG
 clear hG
 have H : ((lex_Lex.f k (⟨#[97, 45, 53]⟩ : ByteArray)).bind fun bt268 => ((lex_Lex.f k (⟨#[65]⟩ : ByteArray)).bind fun bt273 => ((falseworklaw16_num.f bt268.2.2).bind fun t278 => (if t278 = 0 then (if (bt268.1.length : Int) = 3 then (if 1 < (bt268.1.length : Int) then (if (((rd_T39 bt268.1 1).f2.f0) == 2 && (((rd_T39 bt268.1 1).f2.f1) == (-5) && (((rd_T39 bt268.1 1).f2.f2) == 0 && ((((rd_T39 bt268.1 1).f2.f3).toList) == ([] : List UInt8))))) = true then ((falseworklaw16_num.f bt273.2.2).bind fun t280 => (if t280 = 3 then (some (bt273.2.1 == 0)) else (some false))) else (some false)) else (none)) else (some false)) else (some false))))) = some r := h
 clear h
 replace H := Option.bind_eq_some_iff.mp H
 obtain ⟨⟨t268, t269, t270⟩, A10, H⟩ := H
 replace H : ((lex_Lex.f k (⟨#[65]⟩ : ByteArray)).bind fun bt273 => ((falseworklaw16_num.f t270).bind fun t278 => (if t278 = 0 then (if (t268.length : Int) = 3 then (if 1 < (t268.length : Int) then (if (((rd_T39 t268 1).f2.f0) == 2 && (((rd_T39 t268 1).f2.f1) == (-5) && (((rd_T39 t268 1).f2.f2) == 0 && ((((rd_T39 t268 1).f2.f3).toList) == ([] : List UInt8))))) = true then ((falseworklaw16_num.f bt273.2.2).bind fun t280 => (if t280 = 3 then (some (bt273.2.1 == 0)) else (some false))) else (some false)) else (none)) else (some false)) else (some false)))) = some r := H
 have A1 := Aside0.mk A10
 clear A10
 replace H := Option.bind_eq_some_iff.mp H
 obtain ⟨⟨t273, t274, t275⟩, A20, H⟩ := H
 replace H : ((falseworklaw16_num.f t270).bind fun t278 => (if t278 = 0 then (if (t268.length : Int) = 3 then (if 1 < (t268.length : Int) then (if (((rd_T39 t268 1).f2.f0) == 2 && (((rd_T39 t268 1).f2.f1) == (-5) && (((rd_T39 t268 1).f2.f2) == 0 && ((((rd_T39 t268 1).f2.f3).toList) == ([] : List UInt8))))) = true then ((falseworklaw16_num.f t275).bind fun t280 => (if t280 = 3 then (some (t274 == 0)) else (some false))) else (some false)) else (none)) else (some false)) else (some false))) = some r := H
 have A2 := Aside0.mk A20
 clear A20
 replace H := Option.bind_eq_some_iff.mp H
 obtain ⟨t278, A30, H⟩ := H
 replace H : (if t278 = 0 then (if (t268.length : Int) = 3 then (if 1 < (t268.length : Int) then (if (((rd_T39 t268 1).f2.f0) == 2 && (((rd_T39 t268 1).f2.f1) == (-5) && (((rd_T39 t268 1).f2.f2) == 0 && ((((rd_T39 t268 1).f2.f3).toList) == ([] : List UInt8))))) = true then ((falseworklaw16_num.f t275).bind fun t280 => (if t280 = 3 then (some (t274 == 0)) else (some false))) else (some false)) else (none)) else (some false)) else (some false)) = some r := H
 have A3 := Aside0.mk A30
 clear A30
 by_cases c4 : t278 = 0
 ·rw [if_pos c4] at H
  have c4b0 : (t278 == 0) = true := beq_iff_eq.mpr c4
  have c4b1 : (t278 != 0) = false := bne_eq_false_iff_eq.mpr c4
  clear c4
  by_cases c5 : (t268.length : Int) = 3
  ·rw [if_pos c5] at H
   have c5b0 : ((t268.length : Int) == 3) = true := beq_iff_eq.mpr c5
   have c5b1 : ((t268.length : Int) != 3) = false := bne_eq_false_iff_eq.mpr c5
   clear c5
   by_cases c6 : 1 < (t268.length : Int)
   ·rw [if_pos c6] at H
    have c6b0 : decide (1 < (t268.length : Int)) = true := decide_eq_true c6
    have c6b1 : decide (1 < t268.length) = true := decide_eq_true (by omega)
    clear c6
    by_cases c7 : (((rd_T39 t268 1).f2.f0) == 2 && (((rd_T39 t268 1).f2.f1) == (-5) && (((rd_T39 t268 1).f2.f2) == 0 && ((((rd_T39 t268 1).f2.f3).toList) == ([] : List UInt8))))) = true
    ·rw [if_pos c7] at H
     have c7b0 : (((rd_T39 t268 1).f2.f0) == 2 && (((rd_T39 t268 1).f2.f1) == (-5) && (((rd_T39 t268 1).f2.f2) == 0 && ((((rd_T39 t268 1).f2.f3).toList) == ([] : List UInt8))))) = true := c7
     (try (have c7e0 := c7b0; simp only [show ∀ l_ : List UInt8, (l_ == ([] : List UInt8)) = l_.isEmpty from fun l_ => by cases l_ <;> rfl] at c7e0))
     (try (have c7b1 : decide (((rd_T39 t268 1).f2.f0) = 2 && (((rd_T39 t268 1).f2.f1) == (-5) && (((rd_T39 t268 1).f2.f2) == 0 && ((((rd_T39 t268 1).f2.f3).toList) == ([] : List UInt8))))) = true := by simpa using c7))
     (try (have c7b2 : (((rd_T39 t268 1).f2.f0) == 2 && (((rd_T39 t268 1).f2.f1) == (-5) && (((rd_T39 t268 1).f2.f2) == 0 && ((((rd_T39 t268 1).f2.f3).toList) == ([] : List UInt8))))) = true := by simpa using c7))
     clear c7
     replace H := Option.bind_eq_some_iff.mp H
     obtain ⟨t280, A80, H⟩ := H
     replace H : (if t280 = 3 then (some (t274 == 0)) else (some false)) = some r := H
     have A8 := Aside0.mk A80
     clear A80
     by_cases c9 : t280 = 3
     ·rw [if_pos c9] at H
      have c9b0 : (t280 == 3) = true := beq_iff_eq.mpr c9
      have c9b1 : (t280 != 3) = false := bne_eq_false_iff_eq.mpr c9
      clear c9
      obtain rfl := Option.some.inj H
      go_enter Tryd.func13, Tryd.ntmps13
      go_wp2_with (first | ((with_reducible refine gate_callee (f := 9) rfl ?_); refine goesL_ (some 8) rfl rfl Tryd.func9 (by kernel_rfl) rfl #[.string (⟨#[97, 45, 53]⟩ : ByteArray)] rfl (by (try simp only [List.map_toArray, List.map_cons, List.map_nil]); first | done | rfl | (simp only [List.length_drop, List.length_take]; rfl)) ?_; (with_reducible refine (lex_Lex.calls k (⟨#[97, 45, 53]⟩ : ByteArray) t268 t269 t270 _ A1.out ?side1).mono ?_); (case side1 => exact GL.of_below HG.out (by repeat (first | (with_reducible first | exact HB.out | apply below_alloc | apply pw_below_drewN | apply below_drew1) | exact HB.out))); rintro e w10 ⟨v271, rfl, ho0, hb⟩; refine ⟨_, rfl, ?_⟩; have n0_ := Aside0.mk (Kd.R_lower ho0 (below_size (by repeat (first | (with_reducible first | exact HB.out | apply below_alloc | apply pw_below_drewN | apply below_drew1) | exact HB.out)))); have n1_ := Aside0.mk (below_step (by repeat (first | (with_reducible first | exact HB.out | apply below_alloc | apply pw_below_drewN | apply below_drew1) | exact HB.out)) hb); clear HB; have HO272 := n0_; have HB := n1_; clear n0_ n1_; (try clear hb); (try clear hb2); (try clear hk); (try clear hi); (try clear ho0)) | ((with_reducible refine gate_callee (f := 9) rfl ?_); refine goesL_ (some 13) rfl rfl Tryd.func9 (by kernel_rfl) rfl #[.string (⟨#[65]⟩ : ByteArray)] rfl (by (try simp only [List.map_toArray, List.map_cons, List.map_nil]); first | done | rfl | (simp only [List.length_drop, List.length_take]; rfl)) ?_; (with_reducible refine (lex_Lex.calls k (⟨#[65]⟩ : ByteArray) t273 t274 t275 _ A2.out ?side1).mono ?_); (case side1 => exact GL.of_below HG.out (by repeat (first | (with_reducible first | exact HB.out | apply below_alloc | apply pw_below_drewN | apply below_drew1) | exact HB.out))); rintro e w11 ⟨v276, rfl, ho0, hb⟩; refine ⟨_, rfl, ?_⟩; have n0_ := Aside0.mk (Kd.R_elder' (by (with_reducible repeat (first | apply Kd.R_alloc | apply Kd.R_drewN | apply Kd.R_drew)); exact HO272.out) (Kd.R_base ho0) hb); have n1_ := Aside0.mk (Kd.R_lower (Kd.R_new' ho0 (Kd.R_lt (by (with_reducible repeat (first | apply Kd.R_alloc | apply Kd.R_drewN | apply Kd.R_drew)); exact HO272.out))) (below_size (by repeat (first | (with_reducible first | exact HB.out | apply below_alloc | apply pw_below_drewN | apply below_drew1) | exact HB.out)))); have n2_ := Aside0.mk (below_step (by repeat (first | (with_reducible first | exact HB.out | apply below_alloc | apply pw_below_drewN | apply below_drew1) | exact HB.out)) hb); clear HO272; clear HB; have HO272 := n0_; have HO277 := n1_; have HB := n2_; clear n0_ n1_ n2_; (try clear hb); (try clear hb2); (try clear hk); (try clear hi); (try clear ho0)) | ((with_reducible refine gate_callee (f := 12) rfl ?_); refine goesL_ (some 18) rfl rfl Tryd.func12 (by kernel_rfl) rfl #[.int .i64 t270] rfl (by (try simp only [List.map_toArray, List.map_cons, List.map_nil]); first | done | rfl | (simp only [List.length_drop, List.length_take]; rfl)) ?_; (with_reducible refine (falseworklaw16_num.calls t270 t278 _ A3.out).mono ?_); rintro e w' ⟨rfl, ⟨nd, rfl⟩⟩; refine ⟨_, rfl, ?_⟩; obtain ⟨Ao12, co12, eo12⟩ := Kd.R_slice HO272.out; subst eo12; have p279 : 0 ≤ (1 : Int) := (by omega); have q279 : 1 < (t268.length : Int) := of_decide_eq_true (by first | (with_reducible assumption) | assumption); obtain ⟨ad279, e279, hx279_0, hx279_1, hx279_2, hx279_3, hx279_4, hx279_5, hx279_6⟩ := at_T39 (Kd.R_reads' HO272.out).2.2 1 p279 q279; cases e279; (try simp only [show (1 : Int).toNat = 1 from rfl, Nat.reduceMul, Nat.reduceEqDiff, Go.Addr.add, ↓reduceIte] at hx279_0); (try simp only [show (1 : Int).toNat = 1 from rfl, Nat.reduceMul, Nat.reduceEqDiff, Go.Addr.add, ↓reduceIte] at hx279_1); (try simp only [show (1 : Int).toNat = 1 from rfl, Nat.reduceMul, Nat.reduceEqDiff, Go.Addr.add, ↓reduceIte] at hx279_2); (try simp only [show (1 : Int).toNat = 1 from rfl, Nat.reduceMul, Nat.reduceEqDiff, Go.Addr.add, ↓reduceIte] at hx279_3); (try simp only [show (1 : Int).toNat = 1 from rfl, Nat.reduceMul, Nat.reduceEqDiff, Go.Addr.add, ↓reduceIte] at hx279_4); (try simp only [show (1 : Int).toNat = 1 from rfl, Nat.reduceMul, Nat.reduceEqDiff, Go.Addr.add, ↓reduceIte] at hx279_5); (try simp only [show (1 : Int).toNat = 1 from rfl, Nat.reduceMul, Nat.reduceEqDiff, Go.Addr.add, ↓reduceIte] at hx279_6); have qi279 : (1 < t268.length) = True := eq_true (by omega); (try rw [show ((1 : Int)).toNat = 1 from rfl] at hx279_0); (try rw [show 1 * 7 = 7 from rfl] at hx279_0); (try rw [show ((1 : Int)).toNat = 1 from rfl] at hx279_1); (try rw [show 1 * 7 = 7 from rfl] at hx279_1); (try rw [show ((1 : Int)).toNat = 1 from rfl] at hx279_2); (try rw [show 1 * 7 = 7 from rfl] at hx279_2); (try rw [show ((1 : Int)).toNat = 1 from rfl] at hx279_3); (try rw [show 1 * 7 = 7 from rfl] at hx279_3); (try rw [show ((1 : Int)).toNat = 1 from rfl] at hx279_4); (try rw [show 1 * 7 = 7 from rfl] at hx279_4); (try rw [show ((1 : Int)).toNat = 1 from rfl] at hx279_5); (try rw [show 1 * 7 = 7 from rfl] at hx279_5); (try rw [show ((1 : Int)).toNat = 1 from rfl] at hx279_6); (try rw [show 1 * 7 = 7 from rfl] at hx279_6); replace p279 := eq_true p279; replace q279 := eq_true q279) | (go_at_call 12; (with_reducible refine (falseworklaw16_num.calls t275 t280 _ A8.out).mono ?_); rintro e w' ⟨rfl, ⟨nd, rfl⟩⟩))
      go_ret
      exact ⟨by first | rfl | (simp [errW_none, errW_some] <;> rfl) | (simp [*, errW_none, errW_some] <;> rfl), by repeat (first | (with_reducible first | exact HB.out | apply below_alloc | apply pw_below_drewN | apply below_drew1) | exact HB.out)⟩
     ·rw [if_neg c9] at H
      have c9b0 : (t280 == 3) = false := beq_eq_false_iff_ne.mpr c9
      have c9b1 : (t280 != 3) = true := bne_iff_ne.mpr c9
      obtain rfl := Option.some.inj H
      go_enter Tryd.func13, Tryd.ntmps13
      go_wp2_with (first | ((with_reducible refine gate_callee (f := 9) rfl ?_); refine goesL_ (some 8) rfl rfl Tryd.func9 (by kernel_rfl) rfl #[.string (⟨#[97, 45, 53]⟩ : ByteArray)] rfl (by (try simp only [List.map_toArray, List.map_cons, List.map_nil]); first | done | rfl | (simp only [List.length_drop, List.length_take]; rfl)) ?_; (with_reducible refine (lex_Lex.calls k (⟨#[97, 45, 53]⟩ : ByteArray) t268 t269 t270 _ A1.out ?side1).mono ?_); (case side1 => exact GL.of_below HG.out (by repeat (first | (with_reducible first | exact HB.out | apply below_alloc | apply pw_below_drewN | apply below_drew1) | exact HB.out))); rintro e w13 ⟨v271, rfl, ho0, hb⟩; refine ⟨_, rfl, ?_⟩; have n0_ := Aside0.mk (Kd.R_lower ho0 (below_size (by repeat (first | (with_reducible first | exact HB.out | apply below_alloc | apply pw_below_drewN | apply below_drew1) | exact HB.out)))); have n1_ := Aside0.mk (below_step (by repeat (first | (with_reducible first | exact HB.out | apply below_alloc | apply pw_below_drewN | apply below_drew1) | exact HB.out)) hb); clear HB; have HO272 := n0_; have HB := n1_; clear n0_ n1_; (try clear hb); (try clear hb2); (try clear hk); (try clear hi); (try clear ho0)) | ((with_reducible refine gate_callee (f := 9) rfl ?_); refine goesL_ (some 13) rfl rfl Tryd.func9 (by kernel_rfl) rfl #[.string (⟨#[65]⟩ : ByteArray)] rfl (by (try simp only [List.map_toArray, List.map_cons, List.map_nil]); first | done | rfl | (simp only [List.length_drop, List.length_take]; rfl)) ?_; (with_reducible refine (lex_Lex.calls k (⟨#[65]⟩ : ByteArray) t273 t274 t275 _ A2.out ?side1).mono ?_); (case side1 => exact GL.of_below HG.out (by repeat (first | (with_reducible first | exact HB.out | apply below_alloc | apply pw_below_drewN | apply below_drew1) | exact HB.out))); rintro e w14 ⟨v276, rfl, ho0, hb⟩; refine ⟨_, rfl, ?_⟩; have n0_ := Aside0.mk (Kd.R_elder' (by (with_reducible repeat (first | apply Kd.R_alloc | apply Kd.R_drewN | apply Kd.R_drew)); exact HO272.out) (Kd.R_base ho0) hb); have n1_ := Aside0.mk (Kd.R_lower (Kd.R_new' ho0 (Kd.R_lt (by (with_reducible repeat (first | apply Kd.R_alloc | apply Kd.R_drewN | apply Kd.R_drew)); exact HO272.out))) (below_size (by repeat (first | (with_reducible first | exact HB.out | apply below_alloc | apply pw_below_drewN | apply below_drew1) | exact HB.out)))); have n2_ := Aside0.mk (below_step (by repeat (first | (with_reducible first | exact HB.out | apply below_alloc | apply pw_below_drewN | apply below_drew1) | exact HB.out)) hb); clear HO272; clear HB; have HO272 := n0_; have HO277 := n1_; have HB := n2_; clear n0_ n1_ n2_; (try clear hb); (try clear hb2); (try clear hk); (try clear hi); (try clear ho0)) | ((with_reducible refine gate_callee (f := 12) rfl ?_); refine goesL_ (some 18) rfl rfl Tryd.func12 (by kernel_rfl) rfl #[.int .i64 t270] rfl (by (try simp only [List.map_toArray, List.map_cons, List.map_nil]); first | done | rfl | (simp only [List.length_drop, List.length_take]; rfl)) ?_; (with_reducible refine (falseworklaw16_num.calls t270 t278 _ A3.out).mono ?_); rintro e w' ⟨rfl, ⟨nd, rfl⟩⟩; refine ⟨_, rfl, ?_⟩; obtain ⟨Ao15, co15, eo15⟩ := Kd.R_slice HO272.out; subst eo15; have p279 : 0 ≤ (1 : Int) := (by omega); have q279 : 1 < (t268.length : Int) := of_decide_eq_true (by first | (with_reducible assumption) | assumption); obtain ⟨ad279, e279, hx279_0, hx279_1, hx279_2, hx279_3, hx279_4, hx279_5, hx279_6⟩ := at_T39 (Kd.R_reads' HO272.out).2.2 1 p279 q279; cases e279; (try simp only [show (1 : Int).toNat = 1 from rfl, Nat.reduceMul, Nat.reduceEqDiff, Go.Addr.add, ↓reduceIte] at hx279_0); (try simp only [show (1 : Int).toNat = 1 from rfl, Nat.reduceMul, Nat.reduceEqDiff, Go.Addr.add, ↓reduceIte] at hx279_1); (try simp only [show (1 : Int).toNat = 1 from rfl, Nat.reduceMul, Nat.reduceEqDiff, Go.Addr.add, ↓reduceIte] at hx279_2); (try simp only [show (1 : Int).toNat = 1 from rfl, Nat.reduceMul, Nat.reduceEqDiff, Go.Addr.add, ↓reduceIte] at hx279_3); (try simp only [show (1 : Int).toNat = 1 from rfl, Nat.reduceMul, Nat.reduceEqDiff, Go.Addr.add, ↓reduceIte] at hx279_4); (try simp only [show (1 : Int).toNat = 1 from rfl, Nat.reduceMul, Nat.reduceEqDiff, Go.Addr.add, ↓reduceIte] at hx279_5); (try simp only [show (1 : Int).toNat = 1 from rfl, Nat.reduceMul, Nat.reduceEqDiff, Go.Addr.add, ↓reduceIte] at hx279_6); have qi279 : (1 < t268.length) = True := eq_true (by omega); (try rw [show ((1 : Int)).toNat = 1 from rfl] at hx279_0); (try rw [show 1 * 7 = 7 from rfl] at hx279_0); (try rw [show ((1 : Int)).toNat = 1 from rfl] at hx279_1); (try rw [show 1 * 7 = 7 from rfl] at hx279_1); (try rw [show ((1 : Int)).toNat = 1 from rfl] at hx279_2); (try rw [show 1 * 7 = 7 from rfl] at hx279_2); (try rw [show ((1 : Int)).toNat = 1 from rfl] at hx279_3); (try rw [show 1 * 7 = 7 from rfl] at hx279_3); (try rw [show ((1 : Int)).toNat = 1 from rfl] at hx279_4); (try rw [show 1 * 7 = 7 from rfl] at hx279_4); (try rw [show ((1 : Int)).toNat = 1 from rfl] at hx279_5); (try rw [show 1 * 7 = 7 from rfl] at hx279_5); (try rw [show ((1 : Int)).toNat = 1 from rfl] at hx279_6); (try rw [show 1 * 7 = 7 from rfl] at hx279_6); replace p279 := eq_true p279; replace q279 := eq_true q279) | (go_at_call 12; (with_reducible refine (falseworklaw16_num.calls t275 t280 _ A8.out).mono ?_); rintro e w' ⟨rfl, ⟨nd, rfl⟩⟩))
      go_ret
      exact ⟨by first | rfl | (simp [errW_none, errW_some] <;> rfl) | (simp [*, errW_none, errW_some] <;> rfl), by repeat (first | (with_reducible first | exact HB.out | apply below_alloc | apply pw_below_drewN | apply below_drew1) | exact HB.out)⟩
    ·rw [if_neg c7] at H
     have c7b0 : (((rd_T39 t268 1).f2.f0) == 2 && (((rd_T39 t268 1).f2.f1) == (-5) && (((rd_T39 t268 1).f2.f2) == 0 && ((((rd_T39 t268 1).f2.f3).toList) == ([] : List UInt8))))) = false := by simpa using c7
     (try (have c7e0 := c7b0; simp only [show ∀ l_ : List UInt8, (l_ == ([] : List UInt8)) = l_.isEmpty from fun l_ => by cases l_ <;> rfl] at c7e0))
     (try (have c7b1 : decide (((rd_T39 t268 1).f2.f0) = 2 && (((rd_T39 t268 1).f2.f1) == (-5) && (((rd_T39 t268 1).f2.f2) == 0 && ((((rd_T39 t268 1).f2.f3).toList) == ([] : List UInt8))))) = false := by simpa using c7))
     (try (have c7b2 : (((rd_T39 t268 1).f2.f0) == 2 && (((rd_T39 t268 1).f2.f1) == (-5) && (((rd_T39 t268 1).f2.f2) == 0 && ((((rd_T39 t268 1).f2.f3).toList) == ([] : List UInt8))))) = false := by simpa using c7))
     (try (have c7b3 : ¬ (((rd_T39 t268 1).f2.f0) = 2 && (((rd_T39 t268 1).f2.f1) == (-5) && (((rd_T39 t268 1).f2.f2) == 0 && ((((rd_T39 t268 1).f2.f3).toList) == ([] : List UInt8))))) := by simpa using c7))
     clear c7
     obtain rfl := Option.some.inj H
     go_enter Tryd.func13, Tryd.ntmps13
     go_wp2_with (first | ((with_reducible refine gate_callee (f := 9) rfl ?_); refine goesL_ (some 8) rfl rfl Tryd.func9 (by kernel_rfl) rfl #[.string (⟨#[97, 45, 53]⟩ : ByteArray)] rfl (by (try simp only [List.map_toArray, List.map_cons, List.map_nil]); first | done | rfl | (simp only [List.length_drop, List.length_take]; rfl)) ?_; (with_reducible refine (lex_Lex.calls k (⟨#[97, 45, 53]⟩ : ByteArray) t268 t269 t270 _ A1.out ?side1).mono ?_); (case side1 => exact GL.of_below HG.out (by repeat (first | (with_reducible first | exact HB.out | apply below_alloc | apply pw_below_drewN | apply below_drew1) | exact HB.out))); rintro e w16 ⟨v271, rfl, ho0, hb⟩; refine ⟨_, rfl, ?_⟩; have n0_ := Aside0.mk (Kd.R_lower ho0 (below_size (by repeat (first | (with_reducible first | exact HB.out | apply below_alloc | apply pw_below_drewN | apply below_drew1) | exact HB.out)))); have n1_ := Aside0.mk (below_step (by repeat (first | (with_reducible first | exact HB.out | apply below_alloc | apply pw_below_drewN | apply below_drew1) | exact HB.out)) hb); clear HB; have HO272 := n0_; have HB := n1_; clear n0_ n1_; (try clear hb); (try clear hb2); (try clear hk); (try clear hi); (try clear ho0)) | ((with_reducible refine gate_callee (f := 9) rfl ?_); refine goesL_ (some 13) rfl rfl Tryd.func9 (by kernel_rfl) rfl #[.string (⟨#[65]⟩ : ByteArray)] rfl (by (try simp only [List.map_toArray, List.map_cons, List.map_nil]); first | done | rfl | (simp only [List.length_drop, List.length_take]; rfl)) ?_; (with_reducible refine (lex_Lex.calls k (⟨#[65]⟩ : ByteArray) t273 t274 t275 _ A2.out ?side1).mono ?_); (case side1 => exact GL.of_below HG.out (by repeat (first | (with_reducible first | exact HB.out | apply below_alloc | apply pw_below_drewN | apply below_drew1) | exact HB.out))); rintro e w17 ⟨v276, rfl, ho0, hb⟩; refine ⟨_, rfl, ?_⟩; have n0_ := Aside0.mk (Kd.R_elder' (by (with_reducible repeat (first | apply Kd.R_alloc | apply Kd.R_drewN | apply Kd.R_drew)); exact HO272.out) (Kd.R_base ho0) hb); have n1_ := Aside0.mk (Kd.R_lower (Kd.R_new' ho0 (Kd.R_lt (by (with_reducible repeat (first | apply Kd.R_alloc | apply Kd.R_drewN | apply Kd.R_drew)); exact HO272.out))) (below_size (by repeat (first | (with_reducible first | exact HB.out | apply below_alloc | apply pw_below_drewN | apply below_drew1) | exact HB.out)))); have n2_ := Aside0.mk (below_step (by repeat (first | (with_reducible first | exact HB.out | apply below_alloc | apply pw_below_drewN | apply below_drew1) | exact HB.out)) hb); clear HO272; clear HB; have HO272 := n0_; have HO277 := n1_; have HB := n2_; clear n0_ n1_ n2_; (try clear hb); (try clear hb2); (try clear hk); (try clear hi); (try clear ho0)) | ((with_reducible refine gate_callee (f := 12) rfl ?_); refine goesL_ (some 18) rfl rfl Tryd.func12 (by kernel_rfl) rfl #[.int .i64 t270] rfl (by (try simp only [List.map_toArray, List.map_cons, List.map_nil]); first | done | rfl | (simp only [List.length_drop, List.length_take]; rfl)) ?_; (with_reducible refine (falseworklaw16_num.calls t270 t278 _ A3.out).mono ?_); rintro e w' ⟨rfl, ⟨nd, rfl⟩⟩; refine ⟨_, rfl, ?_⟩; obtain ⟨Ao18, co18, eo18⟩ := Kd.R_slice HO272.out; subst eo18; have p279 : 0 ≤ (1 : Int) := (by omega); have q279 : 1 < (t268.length : Int) := of_decide_eq_true (by first | (with_reducible assumption) | assumption); obtain ⟨ad279, e279, hx279_0, hx279_1, hx279_2, hx279_3, hx279_4, hx279_5, hx279_6⟩ := at_T39 (Kd.R_reads' HO272.out).2.2 1 p279 q279; cases e279; (try simp only [show (1 : Int).toNat = 1 from rfl, Nat.reduceMul, Nat.reduceEqDiff, Go.Addr.add, ↓reduceIte] at hx279_0); (try simp only [show (1 : Int).toNat = 1 from rfl, Nat.reduceMul, Nat.reduceEqDiff, Go.Addr.add, ↓reduceIte] at hx279_1); (try simp only [show (1 : Int).toNat = 1 from rfl, Nat.reduceMul, Nat.reduceEqDiff, Go.Addr.add, ↓reduceIte] at hx279_2); (try simp only [show (1 : Int).toNat = 1 from rfl, Nat.reduceMul, Nat.reduceEqDiff, Go.Addr.add, ↓reduceIte] at hx279_3); (try simp only [show (1 : Int).toNat = 1 from rfl, Nat.reduceMul, Nat.reduceEqDiff, Go.Addr.add, ↓reduceIte] at hx279_4); (try simp only [show (1 : Int).toNat = 1 from rfl, Nat.reduceMul, Nat.reduceEqDiff, Go.Addr.add, ↓reduceIte] at hx279_5); (try simp only [show (1 : Int).toNat = 1 from rfl, Nat.reduceMul, Nat.reduceEqDiff, Go.Addr.add, ↓reduceIte] at hx279_6); have qi279 : (1 < t268.length) = True := eq_true (by omega); (try rw [show ((1 : Int)).toNat = 1 from rfl] at hx279_0); (try rw [show 1 * 7 = 7 from rfl] at hx279_0); (try rw [show ((1 : Int)).toNat = 1 from rfl] at hx279_1); (try rw [show 1 * 7 = 7 from rfl] at hx279_1); (try rw [show ((1 : Int)).toNat = 1 from rfl] at hx279_2); (try rw [show 1 * 7 = 7 from rfl] at hx279_2); (try rw [show ((1 : Int)).toNat = 1 from rfl] at hx279_3); (try rw [show 1 * 7 = 7 from rfl] at hx279_3); (try rw [show ((1 : Int)).toNat = 1 from rfl] at hx279_4); (try rw [show 1 * 7 = 7 from rfl] at hx279_4); (try rw [show ((1 : Int)).toNat = 1 from rfl] at hx279_5); (try rw [show 1 * 7 = 7 from rfl] at hx279_5); (try rw [show ((1 : Int)).toNat = 1 from rfl] at hx279_6); (try rw [show 1 * 7 = 7 from rfl] at hx279_6); replace p279 := eq_true p279; replace q279 := eq_true q279))
     go_ret
     exact ⟨by first | rfl | (simp [errW_none, errW_some] <;> rfl) | (simp [*, errW_none, errW_some] <;> rfl), by repeat (first | (with_reducible first | exact HB.out | apply below_alloc | apply pw_below_drewN | apply below_drew1) | exact HB.out)⟩
   ·rw [if_neg c6] at H
    exact absurd H (by simp)
  ·rw [if_neg c5] at H
   have c5b0 : ((t268.length : Int) == 3) = false := beq_eq_false_iff_ne.mpr c5
   have c5b1 : ((t268.length : Int) != 3) = true := bne_iff_ne.mpr c5
   obtain rfl := Option.some.inj H
   go_enter Tryd.func13, Tryd.ntmps13
   go_wp2_with (first | ((with_reducible refine gate_callee (f := 9) rfl ?_); refine goesL_ (some 8) rfl rfl Tryd.func9 (by kernel_rfl) rfl #[.string (⟨#[97, 45, 53]⟩ : ByteArray)] rfl (by (try simp only [List.map_toArray, List.map_cons, List.map_nil]); first | done | rfl | (simp only [List.length_drop, List.length_take]; rfl)) ?_; (with_reducible refine (lex_Lex.calls k (⟨#[97, 45, 53]⟩ : ByteArray) t268 t269 t270 _ A1.out ?side1).mono ?_); (case side1 => exact GL.of_below HG.out (by repeat (first | (with_reducible first | exact HB.out | apply below_alloc | apply pw_below_drewN | apply below_drew1) | exact HB.out))); rintro e w19 ⟨v271, rfl, ho0, hb⟩; refine ⟨_, rfl, ?_⟩; have n0_ := Aside0.mk (Kd.R_lower ho0 (below_size (by repeat (first | (with_reducible first | exact HB.out | apply below_alloc | apply pw_below_drewN | apply below_drew1) | exact HB.out)))); have n1_ := Aside0.mk (below_step (by repeat (first | (with_reducible first | exact HB.out | apply below_alloc | apply pw_below_drewN | apply below_drew1) | exact HB.out)) hb); clear HB; have HO272 := n0_; have HB := n1_; clear n0_ n1_; (try clear hb); (try clear hb2); (try clear hk); (try clear hi); (try clear ho0)) | ((with_reducible refine gate_callee (f := 9) rfl ?_); refine goesL_ (some 13) rfl rfl Tryd.func9 (by kernel_rfl) rfl #[.string (⟨#[65]⟩ : ByteArray)] rfl (by (try simp only [List.map_toArray, List.map_cons, List.map_nil]); first | done | rfl | (simp only [List.length_drop, List.length_take]; rfl)) ?_; (with_reducible refine (lex_Lex.calls k (⟨#[65]⟩ : ByteArray) t273 t274 t275 _ A2.out ?side1).mono ?_); (case side1 => exact GL.of_below HG.out (by repeat (first | (with_reducible first | exact HB.out | apply below_alloc | apply pw_below_drewN | apply below_drew1) | exact HB.out))); rintro e w20 ⟨v276, rfl, ho0, hb⟩; refine ⟨_, rfl, ?_⟩; have n0_ := Aside0.mk (Kd.R_elder' (by (with_reducible repeat (first | apply Kd.R_alloc | apply Kd.R_drewN | apply Kd.R_drew)); exact HO272.out) (Kd.R_base ho0) hb); have n1_ := Aside0.mk (Kd.R_lower (Kd.R_new' ho0 (Kd.R_lt (by (with_reducible repeat (first | apply Kd.R_alloc | apply Kd.R_drewN | apply Kd.R_drew)); exact HO272.out))) (below_size (by repeat (first | (with_reducible first | exact HB.out | apply below_alloc | apply pw_below_drewN | apply below_drew1) | exact HB.out)))); have n2_ := Aside0.mk (below_step (by repeat (first | (with_reducible first | exact HB.out | apply below_alloc | apply pw_below_drewN | apply below_drew1) | exact HB.out)) hb); clear HO272; clear HB; have HO272 := n0_; have HO277 := n1_; have HB := n2_; clear n0_ n1_ n2_; (try clear hb); (try clear hb2); (try clear hk); (try clear hi); (try clear ho0)) | ((with_reducible refine gate_callee (f := 12) rfl ?_); refine goesL_ (some 18) rfl rfl Tryd.func12 (by kernel_rfl) rfl #[.int .i64 t270] rfl (by (try simp only [List.map_toArray, List.map_cons, List.map_nil]); first | done | rfl | (simp only [List.length_drop, List.length_take]; rfl)) ?_; (with_reducible refine (falseworklaw16_num.calls t270 t278 _ A3.out).mono ?_); rintro e w' ⟨rfl, ⟨nd, rfl⟩⟩; refine ⟨_, rfl, ?_⟩; obtain ⟨Ao21, co21, eo21⟩ := Kd.R_slice HO272.out; subst eo21))
   go_ret
   exact ⟨by first | rfl | (simp [errW_none, errW_some] <;> rfl) | (simp [*, errW_none, errW_some] <;> rfl), by repeat (first | (with_reducible first | exact HB.out | apply below_alloc | apply pw_below_drewN | apply below_drew1) | exact HB.out)⟩
 ·rw [if_neg c4] at H
  have c4b0 : (t278 == 0) = false := beq_eq_false_iff_ne.mpr c4
  have c4b1 : (t278 != 0) = true := bne_iff_ne.mpr c4
  obtain rfl := Option.some.inj H
  go_enter Tryd.func13, Tryd.ntmps13
  go_wp2_with (first | ((with_reducible refine gate_callee (f := 9) rfl ?_); refine goesL_ (some 8) rfl rfl Tryd.func9 (by kernel_rfl) rfl #[.string (⟨#[97, 45, 53]⟩ : ByteArray)] rfl (by (try simp only [List.map_toArray, List.map_cons, List.map_nil]); first | done | rfl | (simp only [List.length_drop, List.length_take]; rfl)) ?_; (with_reducible refine (lex_Lex.calls k (⟨#[97, 45, 53]⟩ : ByteArray) t268 t269 t270 _ A1.out ?side1).mono ?_); (case side1 => exact GL.of_below HG.out (by repeat (first | (with_reducible first | exact HB.out | apply below_alloc | apply pw_below_drewN | apply below_drew1) | exact HB.out))); rintro e w22 ⟨v271, rfl, ho0, hb⟩; refine ⟨_, rfl, ?_⟩; have n0_ := Aside0.mk (Kd.R_lower ho0 (below_size (by repeat (first | (with_reducible first | exact HB.out | apply below_alloc | apply pw_below_drewN | apply below_drew1) | exact HB.out)))); have n1_ := Aside0.mk (below_step (by repeat (first | (with_reducible first | exact HB.out | apply below_alloc | apply pw_below_drewN | apply below_drew1) | exact HB.out)) hb); clear HB; have HO272 := n0_; have HB := n1_; clear n0_ n1_; (try clear hb); (try clear hb2); (try clear hk); (try clear hi); (try clear ho0)) | ((with_reducible refine gate_callee (f := 9) rfl ?_); refine goesL_ (some 13) rfl rfl Tryd.func9 (by kernel_rfl) rfl #[.string (⟨#[65]⟩ : ByteArray)] rfl (by (try simp only [List.map_toArray, List.map_cons, List.map_nil]); first | done | rfl | (simp only [List.length_drop, List.length_take]; rfl)) ?_; (with_reducible refine (lex_Lex.calls k (⟨#[65]⟩ : ByteArray) t273 t274 t275 _ A2.out ?side1).mono ?_); (case side1 => exact GL.of_below HG.out (by repeat (first | (with_reducible first | exact HB.out | apply below_alloc | apply pw_below_drewN | apply below_drew1) | exact HB.out))); rintro e w23 ⟨v276, rfl, ho0, hb⟩; refine ⟨_, rfl, ?_⟩; have n0_ := Aside0.mk (Kd.R_elder' (by (with_reducible repeat (first | apply Kd.R_alloc | apply Kd.R_drewN | apply Kd.R_drew)); exact HO272.out) (Kd.R_base ho0) hb); have n1_ := Aside0.mk (Kd.R_lower (Kd.R_new' ho0 (Kd.R_lt (by (with_reducible repeat (first | apply Kd.R_alloc | apply Kd.R_drewN | apply Kd.R_drew)); exact HO272.out))) (below_size (by repeat (first | (with_reducible first | exact HB.out | apply below_alloc | apply pw_below_drewN | apply below_drew1) | exact HB.out)))); have n2_ := Aside0.mk (below_step (by repeat (first | (with_reducible first | exact HB.out | apply below_alloc | apply pw_below_drewN | apply below_drew1) | exact HB.out)) hb); clear HO272; clear HB; have HO272 := n0_; have HO277 := n1_; have HB := n2_; clear n0_ n1_ n2_; (try clear hb); (try clear hb2); (try clear hk); (try clear hi); (try clear ho0)) | ((with_reducible refine gate_callee (f := 12) rfl ?_); refine goesL_ (some 18) rfl rfl Tryd.func12 (by kernel_rfl) rfl #[.int .i64 t270] rfl (by (try simp only [List.map_toArray, List.map_cons, List.map_nil]); first | done | rfl | (simp only [List.length_drop, List.length_take]; rfl)) ?_; (with_reducible refine (falseworklaw16_num.calls t270 t278 _ A3.out).mono ?_); rintro e w' ⟨rfl, ⟨nd, rfl⟩⟩; refine ⟨_, rfl, ?_⟩))
  go_ret
  exact ⟨by first | rfl | (simp [errW_none, errW_some] <;> rfl) | (simp [*, errW_none, errW_some] <;> rfl), by repeat (first | (with_reducible first | exact HB.out | apply below_alloc | apply pw_below_drewN | apply below_drew1) | exact HB.out)⟩
end Go.Proofs.YtjehfmimbbdnkaaDoor.L
set_option linter.unusedVariables false
namespace Go.Proofs.YtjehfmimbbdnkaaDoor.LexPure
open Go.RowKit Go.Proofs.YtjehfmimbbdnkaaDoorW.PrintWords Go.Proofs.YtjehfmimbbdnkaaDoorW.PrintLast Go.Proofs.YtjehfmimbbdnkaaDoorW.PrintMore
open Go.Proofs.YtjehfmimbbdnkaaDoor.L Go.Proofs.YtjehfmimbbdnkaaDoor
theorem ext_all (u : ByteArray) : u.extract 0 u.size = u := by
  apply ByteArray.ext
  apply Array.toList_inj.1
  have := L8_ext u 0 u.size
  unfold L8 at this
  rw [this, List.drop_zero, List.take_of_length_le (by rw [Array.length_toList]; exact Nat.le_refl _)]
theorem lexT_after (u : ByteArray) : ∀ (m i : Nat) (nx : Int), i + m ≤ u.size → nx = (u.size : Int) → lexT u m i nx = .ok []
  | 0, _, _, _, _ => rfl
  | m + 1, i, nx, h, e => by
    rw [lexT_skip u m i nx (.inl (by omega))]
    exact lexT_after u m (i + 1) nx (by omega) e
theorem lex_single (u : ByteArray) (h0 : 0 < u.size) (h1 : u.size ≤ 400) (hb : blankAt u 0 = false) (hn : (oneR u).2.2.2.2.2.2.2 = (u.size : Int)) : lexT u u.size 0 0 = .ok [tokOf (oneR u) 0] := by
  obtain ⟨m, hm⟩ : ∃ m, u.size = m + 1 := ⟨u.size - 1, by omega⟩
  have ht : tokAt u 0 = oneR u := by unfold tokAt; rw [ext_all]
  have hg := lexT_go u m 0 0 (by rintro (h | h); · omega
                                 · rw [hb] at h; cases h)
  rw [ht, hn] at hg
  rw [hm, hg, if_neg (by omega), wrap_small (by omega) (by omega), lexT_after u m 1 _ (by omega) (by omega)]
theorem lex_bad0 (u : ByteArray) (h0 : 0 < u.size) (hb : blankAt u 0 = false) (hn : (oneR u).2.2.2.2.2.2.2 = 0) : lexT u u.size 0 0 = .error 0 := by
  obtain ⟨m, hm⟩ : ∃ m, u.size = m + 1 := ⟨u.size - 1, by omega⟩
  have ht : tokAt u 0 = oneR u := by unfold tokAt; rw [ext_all]
  have hg := lexT_go u m 0 0 (by rintro (h | h); · omega
                                 · rw [hb] at h; cases h)
  rw [ht, hn, if_pos rfl] at hg
  rw [hm, hg]
theorem lex_f_single (u : ByteArray) (k : Nat) (hk : 4000 < k) (h0 : 0 < u.size) (h1 : u.size ≤ 400) (hb : blankAt u 0 = false) (hn : (oneR u).2.2.2.2.2.2.2 = (u.size : Int)) :
    lex_Lex.f k u = some ([tokOf (oneR u) 0, endTok u], 0, 0) := by
  rw [lex_lex_eq u k hk, if_neg (by omega), lex_single u h0 h1 hb hn]
  rfl
theorem lex_f_bad (u : ByteArray) (k : Nat) (hk : 4000 < k) (h0 : 0 < u.size) (h1 : u.size ≤ 400) (hb : blankAt u 0 = false) (hn : (oneR u).2.2.2.2.2.2.2 = 0) :
    lex_Lex.f k u = some ([], 0, 3) := by
  rw [lex_lex_eq u k hk, if_neg (by omega), lex_bad0 u h0 hb hn]
  rfl
theorem awake_any (k : Nat) (hk : 4000 < k) : falseworklaw16_awake.f k = some true := by
  unfold falseworklaw16_awake.f
  rw [lex_lex_eq _ k hk, lex_lex_eq _ k hk]
  decide +kernel
theorem bt0 (u : ByteArray) (c : UInt8) (l : List UInt8) (h : L8 u = c :: l) : bt u 0 = (c.toNat : Int) := by
  have hz : 0 < u.size := by rw [← L8_len, h]; simp
  have := bt_L8 u 0 hz
  simp only [h] at this
  exact this
theorem bt1 (u : ByteArray) (c d : UInt8) (l : List UInt8) (h : L8 u = c :: d :: l) : bt u 1 = (d.toNat : Int) := by
  have hz : 1 < u.size := by rw [← L8_len, h]; simp
  have := bt_L8 u 1 hz
  simp only [h] at this
  exact this
theorem blank0 (u : ByteArray) (c : UInt8) (l : List UInt8) (h : L8 u = c :: l) (hc : c ≠ 32 ∧ c ≠ 9 ∧ c ≠ 10) : blankAt u 0 = false := by
  have hb := bt0 u c l h
  unfold blankAt
  rw [show ((0 : Nat) : Int) = 0 from rfl, hb]
  have h1 : ((c.toNat : Int) == 32) = (c == 32) := b_eq (x := c) (k := 32) (by decide)
  have h2 : ((c.toNat : Int) == 9) = (c == 9) := b_eq (x := c) (k := 9) (by decide)
  have h3 : ((c.toNat : Int) == 10) = (c == 10) := b_eq (x := c) (k := 10) (by decide)
  rw [h1, h2, h3, beq_eq_false_iff_ne.2 hc.1, beq_eq_false_iff_ne.2 hc.2.1, beq_eq_false_iff_ne.2 hc.2.2]
  rfl
theorem byteAt_L8 (u : ByteArray) (i : Nat) : byteAt u i = (L8 u).getD i 0 := rfl
def decN (l : List UInt8) (acc : Nat) : Nat := l.foldl (fun a c => a * 10 + (c.toNat - 48)) acc
theorem isDig_iff (c : UInt8) : isDig c = true ↔ 48 ≤ c.toNat ∧ c.toNat ≤ 57 := by
  unfold isDig
  rw [Bool.and_eq_true, decide_eq_true_eq, decide_eq_true_eq, UInt8.le_iff_toNat_le, UInt8.le_iff_toNat_le]
  rfl
theorem decN_ge : ∀ (l : List UInt8) (acc : Nat), acc ≤ decN l acc
  | [], acc => Nat.le_refl _
  | c :: l, acc => by
    have := decN_ge l (acc * 10 + (c.toNat - 48))
    show acc ≤ decN l (acc * 10 + (c.toNat - 48))
    omega
theorem parseM_dig : ∀ (l : List UInt8) (acc : Nat), decN l acc ≤ 18446744073709551615 → (∀ c ∈ l, isDig c = true) → Lib.parseUintM 18446744073709551615 acc l = .ok (decN l acc)
  | [], acc, h, _ => by
    unfold Lib.parseUintM
    rfl
  | c :: l, acc, h, hh => by
    have hc := (isDig_iff c).1 (hh c (by simp))
    have hg := decN_ge l (acc * 10 + (c.toNat - 48))
    have he : decN (c :: l) acc = decN l (acc * 10 + (c.toNat - 48)) := rfl
    rw [he] at h ⊢
    unfold Lib.parseUintM
    rw [if_pos hc, if_neg (by omega), if_neg (by omega), parseM_dig l _ h (fun d hd => hh d (by simp [hd]))]
def tailBad : List UInt8 → Bool
  | [] => false
  | c :: _ => isLow c || c == 95
structure Num (u : ByteArray) (a : Nat) (d : UInt8) (D R : List UInt8) : Prop where
  le : a ≤ 1
  is : L8 u = (if a = 1 then [45] else []) ++ (d :: D) ++ R
  dig : ∀ c ∈ d :: D, isDig c = true
  stop : R.takeWhile isDig = []
namespace Num
variable {u : ByteArray} {a : Nat} {d : UInt8} {D R : List UInt8}
theorem size (h : Num u a d D R) : u.size = a + (D.length + 1) + R.length := by
  rw [← L8_len, h.is]
  have := h.le
  rcases (by omega : a = 0 ∨ a = 1) with rfl | rfl <;> simp <;> omega
theorem dne (h : Num u a d D R) : d ≠ 45 := by
  have := (isDig_iff d).1 (h.dig d (by simp))
  rintro rfl
  exact absurd this (by decide)
theorem first (h : Num u a d D R) : ∃ c l, L8 u = c :: l ∧ (c = 45 ∨ isDig c = true) ∧ (c = 45 ↔ a = 1) := by
  have := h.le
  rcases (by omega : a = 0 ∨ a = 1) with rfl | rfl
  · exact ⟨d, D ++ R, h.is, .inr (h.dig d (by simp)), by simp [h.dne]⟩
  · exact ⟨45, d :: D ++ R, h.is, .inl rfl, by simp⟩
theorem atN (h : Num u a d D R) : numAt u = a := by
  obtain ⟨c, l, h1, _, h3⟩ := h.first
  unfold numAt
  rw [byteAt_L8, h1]
  show (if c = 45 then 1 else 0) = a
  have := h.le
  by_cases e : c = 45
  · rw [if_pos e, h3.1 e]
  · rw [if_neg e]
    have : a ≠ 1 := fun x => e (h3.2 x)
    omega
theorem drop (h : Num u a d D R) : (L8 u).drop a = d :: D ++ R := by
  have := h.le
  rw [h.is]
  rcases (by omega : a = 0 ∨ a = 1) with rfl | rfl <;> rfl
theorem run (h : Num u a d D R) : numN u = D.length + 1 := by
  unfold numN headLen
  rw [h.atN]
  have h1 := L8_ext u a u.size
  unfold L8 at h1
  rw [h1]
  have h2 := h.drop
  unfold L8 at h2
  rw [h2, List.take_of_length_le (by have := h.size; simp; omega), List.takeWhile_append_of_pos h.dig, h.stop, List.append_nil]
  rfl
theorem list (h : Num u a d D R) : (u.extract 0 (numAt u + numN u)).data.toList = if a = 1 then 45 :: d :: D else d :: D := by
  have h1 := L8_ext u 0 (numAt u + numN u)
  unfold L8 at h1
  rw [h1, h.atN, h.run, List.drop_zero, Nat.sub_zero]
  have h2 := h.is
  unfold L8 at h2
  rw [h2]
  have := h.le
  rcases (by omega : a = 0 ∨ a = 1) with rfl | rfl
  · simp
  · simp [Nat.add_comm 1]
theorem bad (h : Num u a d D R) : numBad u (numAt u) (numN u) = ((d == 48 && (decide (0 < D.length) || a == 1)) || tailBad R) := by
  rw [h.atN, h.run]
  unfold numBad
  have e1 : byteAt u a = d := by
    rw [byteAt_L8]
    have := h.drop
    rw [List.getD_eq_getElem?_getD, ← Nat.add_zero a, ← List.getElem?_drop, this]
    rfl
  have e2 : byteAt u (a + (D.length + 1)) = R.getD 0 0 := by
    rw [byteAt_L8]
    have := h.drop
    rw [List.getD_eq_getElem?_getD, ← List.getElem?_drop, this, List.getD_eq_getElem?_getD, List.cons_append, List.getElem?_cons_succ, List.getElem?_append_right (Nat.le_refl _), Nat.sub_self]
  have hz := h.size
  rw [e1, e2, beq_eq_false_iff_ne.2 (show D.length + 1 ≠ 0 by omega), Bool.false_or]
  have e3 : decide (1 < D.length + 1) = decide (0 < D.length) := by rw [decide_eq_decide]; omega
  rw [e3]
  cases R with
  | nil =>
    rw [show decide (a + (D.length + 1) < u.size) = false from decide_eq_false (by simp at hz; omega)]
    simp [tailBad]
  | cons c r =>
    rw [show decide (a + (D.length + 1) < u.size) = true from decide_eq_true (by simp at hz; omega), Bool.true_and]
    rfl
theorem one (h : Num u a d D R) : oneR u = numR u := by
  obtain ⟨c, l, h1, h2, _⟩ := h.first
  have hb := bt0 u c l h1
  have hc : c.toNat = 45 ∨ (48 ≤ c.toNat ∧ c.toNat ≤ 57) := by
    rcases h2 with rfl | h2
    · exact .inl rfl
    · exact .inr ((isDig_iff c).1 h2)
  unfold oneR
  rw [hb, if_neg (by omega), if_neg (by omega), if_pos (by omega)]
theorem blank (h : Num u a d D R) : blankAt u 0 = false := by
  obtain ⟨c, l, h1, h2, _⟩ := h.first
  refine blank0 u c l h1 ?_
  rcases h2 with rfl | h2
  · decide
  · have := (isDig_iff c).1 h2
    refine ⟨?_, ?_, ?_⟩ <;> rintro rfl <;> exact absurd this (by decide)
theorem none (h : Num u a d D R) (hb : numBad u (numAt u) (numN u) = true) : (oneR u).2.2.2.2.2.2.2 = 0 := by
  rw [h.one]
  unfold numR
  split
  · rw [if_pos hb]
    rfl
  · rfl
theorem some (h : Num u a d D []) (hb : numBad u (numAt u) (numN u) = false) (v : Int) (hv : v = if a = 1 then -(decN (d :: D) 0 : Int) else (decN (d :: D) 0 : Int)) (hle : decN (d :: D) 0 ≤ 9223372036854775808) (hle2 : a = 0 → decN (d :: D) 0 < 9223372036854775808) :
    oneR u = (3, u, 2, v, 0, ⟨#[]⟩, 0, (u.size : Int)) := by
  have hp := parseM_dig (d :: D) 0 (by omega) h.dig
  have hd := (isDig_iff d).1 (h.dig d (by simp))
  have hsz := h.size
  have hp2 : Lib.parseIntB 64 (u.extract 0 (numAt u + numN u)).data.toList = .ok v := by
    rw [h.list, hv]
    have := h.le
    rcases (by omega : a = 0 ∨ a = 1) with rfl | rfl
    · rw [if_neg (by decide), if_neg (by decide), Lib.parseIntB_plain 64 d D (by omega) (by omega)]
      unfold Lib.parseUintB
      rw [show (2 : Nat) ^ 64 - 1 = 18446744073709551615 from rfl, show (2 : Nat) ^ (64 - 1) = 9223372036854775808 from rfl, if_neg (by simp), hp]
      simp only [Lib.signlessC]
      rw [if_neg (by have := hle2 rfl; omega)]
    · rw [if_pos rfl, if_pos rfl, Lib.parseIntB_minus]
      unfold Lib.parseUintB
      rw [show (2 : Nat) ^ 64 - 1 = 18446744073709551615 from rfl, show (2 : Nat) ^ (64 - 1) = 9223372036854775808 from rfl, if_neg (by simp), hp]
      simp only [Lib.signedC]
      rw [if_neg (by omega)]
  rw [h.one]
  unfold numR
  rw [hp2]
  simp only []
  rw [hb, if_neg (by simp), h.atN, h.run, show a + (D.length + 1) = u.size from by rw [hsz]; simp, ext_all]
end Num
end Go.Proofs.YtjehfmimbbdnkaaDoor.LexPure
namespace Go.Proofs.YtjehfmimbbdnkaaDoor.L
open Go.RowKit Go.Proofs.YtjehfmimbbdnkaaDoorW.PrintWords Go.Proofs.YtjehfmimbbdnkaaDoorW.PrintLast Go.Proofs.YtjehfmimbbdnkaaDoorW.PrintMore
attribute [local go_sem] max2_int min2_int max_two min_two max_three min_three max_four min_four
set_option linter.unusedVariables false
set_option linter.unusedSimpArgs false
def falseworkref16_digits.l0 : Nat → Int → ByteArray → Int → Option (ByteArray)
 | 0, _, _, _ => none
 | k + 1, x0, x3, x4 => if x4 = 0 then (if x0 < 0 then (if 1 + x3.size ≤ 9223372036854775807 then (some ((⟨#[45]⟩ : ByteArray) ++ x3)) else (none)) else (some x3)) else (if (Int.tmod x4 10) < 0 then ((some (([(wrap64 (48 + (wrap64 (-(Int.tmod x4 10))))) % 256] : List Int) : List Int)).bind fun y294 => (if (strOfNums y294).size + x3.size ≤ 9223372036854775807 then (falseworkref16_digits.l0 k x0 ((strOfNums y294) ++ x3) (wrap64 (Int.tdiv x4 10))) else (none))) else ((some (([(wrap64 (48 + (Int.tmod x4 10))) % 256] : List Int) : List Int)).bind fun y297 => (if (strOfNums y297).size + x3.size ≤ 9223372036854775807 then (falseworkref16_digits.l0 k x0 ((strOfNums y297) ++ x3) (wrap64 (Int.tdiv x4 10))) else (none))))
def falseworkref16_digits.f (k : Nat) (a0 : Int) : Option (ByteArray) := if a0 = 0 then (some (⟨#[48]⟩ : ByteArray)) else (falseworkref16_digits.l0 k a0 (⟨#[]⟩ : ByteArray) a0)
theorem falseworkref16_digits.mono_l : ∀ k, (∀ y0 y1 y2, LeO (falseworkref16_digits.l0 k y0 y1 y2) (falseworkref16_digits.l0 (k + 1) y0 y1 y2))
 | 0 => fun _ _ _ r h => by simp [falseworkref16_digits.l0] at h
 | k + 1 => by
  have ih0 := falseworkref16_digits.mono_l k
  ·intro y0 y1 y2
   unfold falseworkref16_digits.l0
   repeat' first
   | (with_reducible exact ih0 _ _ _)
   | (with_reducible exact LeO.refl _)
   | (with_reducible exact LeO.none _)
   | (with_reducible refine LeO.ite ?_ ?_)
   | (with_reducible refine LeO.bind ?_ (fun _ => ?_))
   | exact ih0 _ _ _
   | exact LeO.none _
   | refine LeO.ite ?_ ?_
   | refine LeO.bind ?_ (fun _ => ?_)
theorem falseworkref16_digits.mono : ∀ a0 k, LeO (falseworkref16_digits.f k a0) (falseworkref16_digits.f (k + 1) a0) := by
 intro a0 k
 have ih0 := falseworkref16_digits.mono_l k
 unfold falseworkref16_digits.f
 repeat' first
   | (with_reducible exact ih0 _ _ _)
   | (with_reducible exact LeO.refl _)
   | (with_reducible exact LeO.none _)
   | (with_reducible refine LeO.ite ?_ ?_)
   | (with_reducible refine LeO.bind ?_ (fun _ => ?_))
   | exact ih0 _ _ _
   | exact LeO.none _
   | refine LeO.ite ?_ ?_
   | refine LeO.bind ?_ (fun _ => ?_)
set_option maxHeartbeats 8000000 in
set_option maxRecDepth 100000 in
theorem falseworkref16_digits.calls (k : Nat) (a0 : Int) (r : ByteArray) (w : World) (h : falseworkref16_digits.f k a0 = some r) :
  Calls Tryd.prog 23 #[.int .i64 a0] w fun e w' => e = .returned (.string r) ∧ Below w.heap.size w w' := by
 have HB := Aside0.mk (Below.refl w.heap.size w)
 have H : (if a0 = 0 then (some (⟨#[48]⟩ : ByteArray)) else (falseworkref16_digits.l0 k a0 (⟨#[]⟩ : ByteArray) a0)) = some r := h
 clear h
 by_cases c2 : a0 = 0
 ·rw [if_pos c2] at H
  have c2b0 : (a0 == 0) = true := beq_iff_eq.mpr c2
  have c2b1 : (a0 != 0) = false := bne_eq_false_iff_eq.mpr c2
  clear c2
  obtain rfl := Option.some.inj H
  go_enter Tryd.func23, Tryd.ntmps23
  go_wp2
  go_ret
  exact ⟨by first | rfl | (simp [errW_none, errW_some] <;> rfl) | (simp [*, errW_none, errW_some] <;> rfl), by repeat (first | (with_reducible first | exact HB.out | apply below_alloc | apply pw_below_drewN | apply below_drew1) | exact HB.out)⟩
 ·rw [if_neg c2] at H
  have c2b0 : (a0 == 0) = false := beq_eq_false_iff_ne.mpr c2
  have c2b1 : (a0 != 0) = true := bne_iff_ne.mpr c2
  have H' := Aside0.mk H
  clear H
  go_enter Tryd.func23, Tryd.ntmps23
  go_wp2
  go_loopg [3, 4] k (fun kq v3 v4 w' => ∃ (x3_1 : ByteArray) (x4_1 : Int), v3 = .string x3_1 ∧ v4 = .int .i64 x4_1 ∧ Aside0 (falseworkref16_digits.l0 kq a0 x3_1 x4_1 = some r) ∧ Aside0 (kq ≤ k) ∧ Aside0 (Below w.heap.size w w'))
  case atStart => exact ⟨((⟨#[]⟩ : ByteArray)), (a0), (by first | rfl | (simp; done) | (simp [*]; done)), (by first | rfl | (simp; done) | (simp [*]; done)), H', ⟨Nat.le_refl _⟩, ⟨by repeat (first | (with_reducible first | exact HB.out | apply below_alloc | apply pw_below_drewN | apply below_drew1) | exact HB.out)⟩⟩
  case round =>
   clear H'
   try clear c2
   try clear c2b0
   try clear c2b1
   try clear p2
   obtain ⟨x3_1, x4_1, rfl, rfl, HA, HK1, HB⟩ := hrel
   cases gk with
   | zero => exact absurd HA.out (by simp [falseworkref16_digits.l0])
   | succ k1 =>
    have H := HA.out
    clear HA
    simp only [falseworkref16_digits.l0] at H
    by_cases c3 : x4_1 = 0
    ·rw [if_pos c3] at H
     have c3b0 : (x4_1 == 0) = true := beq_iff_eq.mpr c3
     have c3b1 : (x4_1 != 0) = false := bne_eq_false_iff_eq.mpr c3
     clear c3
     by_cases c4 : a0 < 0
     ·rw [if_pos c4] at H
      have c4b0 : decide (a0 < 0) = true := decide_eq_true c4
      clear c4
      by_cases c5 : 1 + x3_1.size ≤ 9223372036854775807
      ·rw [if_pos c5] at H
       have c5b0 := eq_true c5
       have c5b1 : decide (1 + x3_1.size ≤ 9223372036854775807) = true := decide_eq_true c5
       try have c5b2 : (9223372036854775807 < 1 + x3_1.size) = False := eq_false (Nat.not_lt.2 c5)
       obtain rfl := Option.some.inj H
       go_wp2
       go_ret
       exact ⟨by first | rfl | (simp [errW_none, errW_some] <;> rfl) | (simp [*, errW_none, errW_some] <;> rfl), by repeat (first | (with_reducible first | exact HB.out | apply below_alloc | apply pw_below_drewN | apply below_drew1) | exact HB.out)⟩
      ·rw [if_neg c5] at H
       exact absurd H (by simp)
     ·rw [if_neg c4] at H
      have c4b0 : decide (a0 < 0) = false := decide_eq_false c4
      clear c4
      obtain rfl := Option.some.inj H
      go_wp2
      go_ret
      exact ⟨by first | rfl | (simp [errW_none, errW_some] <;> rfl) | (simp [*, errW_none, errW_some] <;> rfl), by repeat (first | (with_reducible first | exact HB.out | apply below_alloc | apply pw_below_drewN | apply below_drew1) | exact HB.out)⟩
    ·rw [if_neg c3] at H
     have c3b0 : (x4_1 == 0) = false := beq_eq_false_iff_ne.mpr c3
     have c3b1 : (x4_1 != 0) = true := bne_iff_ne.mpr c3
     by_cases c6 : (Int.tmod x4_1 10) < 0
     ·rw [if_pos c6] at H
      have c6b0 : decide ((Int.tmod x4_1 10) < 0) = true := decide_eq_true c6
      clear c6
      obtain ⟨y294, hy294⟩ : ∃ y_ : List Int, y_ = (([(wrap64 (48 + (wrap64 (-(Int.tmod x4_1 10))))) % 256] : List Int)) := ⟨_, rfl⟩
      replace H : (if (strOfNums y294).size + x3_1.size ≤ 9223372036854775807 then (falseworkref16_digits.l0 k1 a0 ((strOfNums y294) ++ x3_1) (wrap64 (Int.tdiv x4_1 10))) else (none)) = some r := by first | (rw [hy294]; with_reducible exact H) | (have H2_ := (Option.bind_some _ _).symm.trans H; rw [hy294]; with_reducible exact H2_) | (have H2_ := (Option.bind_some _ _).symm.trans H; with_reducible exact H2_) | with_reducible exact H | (rw [hy294]; exact H) | exact H
      have Ny294 := Aside0.mk hy294
      clear hy294
      by_cases c7 : (strOfNums y294).size + x3_1.size ≤ 9223372036854775807
      ·rw [if_pos c7] at H
       have c7b0 := eq_true c7
       have c7b1 : decide ((strOfNums y294).size + x3_1.size ≤ 9223372036854775807) = true := decide_eq_true c7
       try have c7b2 : (9223372036854775807 < (strOfNums y294).size + x3_1.size) = False := eq_false (Nat.not_lt.2 c7)
       have H' := Aside0.mk H
       clear H
       go_wp2_with (first | ((with_reducible refine gate_dst (N := 22) rfl ?_); refine Kd.R_lit (Kd.int .u8) _ 5 ?hg (N := 22) ?hd (xs := ([(wrap64 (48 + (wrap64 (-(Int.tmod x4_1 10))))) % 256] : List Int)) (inner := [.int .u8 ((wrap64 (48 + (wrap64 (-(Int.tmod x4_1 10))))) % 256)]) (ok := fun _ => True) (okp := fun _ => True) ?hr ?hp (fun _ hk => hk) trivial (Below.refl _ _) (Nat.le_refl _) (by simp) ?_; (case hd => rfl); (case hg => rfl); (case hr => first | (go_simp; done) | (go_simp; rfl)); (case hp => exact (Reps.one (show Kd.M (Kd.int .u8) _ _ _ ((wrap64 (48 + (wrap64 (-(Int.tmod x4_1 10))))) % 256) [.int .u8 ((wrap64 (48 + (wrap64 (-(Int.tmod x4_1 10))))) % 256)] from rfl) (Reps.none _ _))); intro v295 w8 ho9 hb hg_ hnew_; clear hg_ hnew_; (first | rw [← Ny294.out] at ho9 | (simp only [Int.reduceToNat] at ho9; rw [← Ny294.out] at ho9)); have n0_ := Aside0.mk (Kd.R_lower ho9 (below_size (by repeat (first | (with_reducible first | exact HB.out | apply below_alloc | apply pw_below_drewN | apply below_drew1) | exact HB.out)))); have n1_ := Aside0.mk (below_step (by repeat (first | (with_reducible first | exact HB.out | apply below_alloc | apply pw_below_drewN | apply below_drew1) | exact HB.out)) hb); clear HB; have HO296 := n0_; have HB := n1_; clear n0_ n1_; clear hb ho9; have hcv10 := own_string (P := Tryd.prog) Tryd.underlying34 Tryd.underlying5 Tryd.underlying9 (Kd.own_of_R HO296.out)))
       go_roundg k1
       case measure => have := HK1.out; omega
       case rel => exact ⟨((strOfNums y294) ++ x3_1), (wrap64 (Int.tdiv x4_1 10)), (by first | rfl | (simp; done) | (simp [*]; done)), (by first | rfl | (simp; done) | (simp [*]; done)), H', ⟨by have := HK1.out; omega⟩, ⟨by repeat (first | (with_reducible first | exact HB.out | apply below_alloc | apply pw_below_drewN | apply below_drew1) | exact HB.out)⟩⟩
      ·rw [if_neg c7] at H
       exact absurd H (by simp)
     ·rw [if_neg c6] at H
      have c6b0 : decide ((Int.tmod x4_1 10) < 0) = false := decide_eq_false c6
      clear c6
      obtain ⟨y297, hy297⟩ : ∃ y_ : List Int, y_ = (([(wrap64 (48 + (Int.tmod x4_1 10))) % 256] : List Int)) := ⟨_, rfl⟩
      replace H : (if (strOfNums y297).size + x3_1.size ≤ 9223372036854775807 then (falseworkref16_digits.l0 k1 a0 ((strOfNums y297) ++ x3_1) (wrap64 (Int.tdiv x4_1 10))) else (none)) = some r := by first | (rw [hy297]; with_reducible exact H) | (have H2_ := (Option.bind_some _ _).symm.trans H; rw [hy297]; with_reducible exact H2_) | (have H2_ := (Option.bind_some _ _).symm.trans H; with_reducible exact H2_) | with_reducible exact H | (rw [hy297]; exact H) | exact H
      have Ny297 := Aside0.mk hy297
      clear hy297
      by_cases c11 : (strOfNums y297).size + x3_1.size ≤ 9223372036854775807
      ·rw [if_pos c11] at H
       have c11b0 := eq_true c11
       have c11b1 : decide ((strOfNums y297).size + x3_1.size ≤ 9223372036854775807) = true := decide_eq_true c11
       try have c11b2 : (9223372036854775807 < (strOfNums y297).size + x3_1.size) = False := eq_false (Nat.not_lt.2 c11)
       have H' := Aside0.mk H
       clear H
       go_wp2_with (first | ((with_reducible refine gate_dst (N := 22) rfl ?_); refine Kd.R_lit (Kd.int .u8) _ 5 ?hg (N := 22) ?hd (xs := ([(wrap64 (48 + (Int.tmod x4_1 10))) % 256] : List Int)) (inner := [.int .u8 ((wrap64 (48 + (Int.tmod x4_1 10))) % 256)]) (ok := fun _ => True) (okp := fun _ => True) ?hr ?hp (fun _ hk => hk) trivial (Below.refl _ _) (Nat.le_refl _) (by simp) ?_; (case hd => rfl); (case hg => rfl); (case hr => first | (go_simp; done) | (go_simp; rfl)); (case hp => exact (Reps.one (show Kd.M (Kd.int .u8) _ _ _ ((wrap64 (48 + (Int.tmod x4_1 10))) % 256) [.int .u8 ((wrap64 (48 + (Int.tmod x4_1 10))) % 256)] from rfl) (Reps.none _ _))); intro v298 w12 ho13 hb hg_ hnew_; clear hg_ hnew_; (first | rw [← Ny297.out] at ho13 | (simp only [Int.reduceToNat] at ho13; rw [← Ny297.out] at ho13)); have n0_ := Aside0.mk (Kd.R_lower ho13 (below_size (by repeat (first | (with_reducible first | exact HB.out | apply below_alloc | apply pw_below_drewN | apply below_drew1) | exact HB.out)))); have n1_ := Aside0.mk (below_step (by repeat (first | (with_reducible first | exact HB.out | apply below_alloc | apply pw_below_drewN | apply below_drew1) | exact HB.out)) hb); clear HB; have HO299 := n0_; have HB := n1_; clear n0_ n1_; clear hb ho13; have hcv14 := own_string (P := Tryd.prog) Tryd.underlying34 Tryd.underlying5 Tryd.underlying9 (Kd.own_of_R HO299.out)))
       go_roundg k1
       case measure => have := HK1.out; omega
       case rel => exact ⟨((strOfNums y297) ++ x3_1), (wrap64 (Int.tdiv x4_1 10)), (by first | rfl | (simp; done) | (simp [*]; done)), (by first | rfl | (simp; done) | (simp [*]; done)), H', ⟨by have := HK1.out; omega⟩, ⟨by repeat (first | (with_reducible first | exact HB.out | apply below_alloc | apply pw_below_drewN | apply below_drew1) | exact HB.out)⟩⟩
      ·rw [if_neg c11] at H
       exact absurd H (by simp)
end Go.Proofs.YtjehfmimbbdnkaaDoor.L
namespace Go.Proofs.YtjehfmimbbdnkaaDoor.L
open Go.RowKit Go.Proofs.YtjehfmimbbdnkaaDoorW.PrintWords Go.Proofs.YtjehfmimbbdnkaaDoorW.PrintLast Go.Proofs.YtjehfmimbbdnkaaDoorW.PrintMore
attribute [local go_sem] max2_int min2_int max_two min_two max_three min_three max_four min_four
set_option linter.unusedVariables false
set_option linter.unusedSimpArgs false
def falseworkref16_Hex.l0 : Nat → ByteArray → List Int → Int → Option (ByteArray)
 | 0, _, _, _ => none
 | k + 1, x0, x3, x4 => if x4 < (x0.size : Int) then (if 0 ≤ x4 then (if 0 ≤ ((Int.tdiv (bt x0 x4) 16) % 256) then (if ((Int.tdiv (bt x0 x4) 16) % 256) < 16 then (if 0 ≤ (Int.tmod (bt x0 x4) 16) then (if (Int.tmod (bt x0 x4) 16) < 16 then ((some (([bt (⟨#[48, 49, 50, 51, 52, 53, 54, 55, 56, 57, 97, 98, 99, 100, 101, 102]⟩ : ByteArray) ((Int.tdiv (bt x0 x4) 16) % 256), bt (⟨#[48, 49, 50, 51, 52, 53, 54, 55, 56, 57, 97, 98, 99, 100, 101, 102]⟩ : ByteArray) (Int.tmod (bt x0 x4) 16)] : List Int) : List Int)).bind fun y300 => (if x3.length + y300.length < 140737488355328 then (falseworkref16_Hex.l0 k x0 (x3 ++ y300) (wrap64 (x4 + 1))) else (none))) else (none)) else (none)) else (none)) else (none)) else (none)) else (some (strOfNums x3))
def falseworkref16_Hex.f (k : Nat) (a0 : ByteArray) : Option (ByteArray) := falseworkref16_Hex.l0 k a0 ([] : List Int) 0
theorem falseworkref16_Hex.mono_l : ∀ k, (∀ y0 y1 y2, LeO (falseworkref16_Hex.l0 k y0 y1 y2) (falseworkref16_Hex.l0 (k + 1) y0 y1 y2))
 | 0 => fun _ _ _ r h => by simp [falseworkref16_Hex.l0] at h
 | k + 1 => by
  have ih0 := falseworkref16_Hex.mono_l k
  ·intro y0 y1 y2
   unfold falseworkref16_Hex.l0
   repeat' first
   | (with_reducible exact ih0 _ _ _)
   | (with_reducible exact LeO.refl _)
   | (with_reducible exact LeO.none _)
   | (with_reducible refine LeO.ite ?_ ?_)
   | (with_reducible refine LeO.bind ?_ (fun _ => ?_))
   | exact ih0 _ _ _
   | exact LeO.none _
   | refine LeO.ite ?_ ?_
   | refine LeO.bind ?_ (fun _ => ?_)
theorem falseworkref16_Hex.mono : ∀ a0 k, LeO (falseworkref16_Hex.f k a0) (falseworkref16_Hex.f (k + 1) a0) := by
 intro a0 k
 have ih0 := falseworkref16_Hex.mono_l k
 unfold falseworkref16_Hex.f
 repeat' first
   | (with_reducible exact ih0 _ _ _)
   | (with_reducible exact LeO.refl _)
   | (with_reducible exact LeO.none _)
   | (with_reducible refine LeO.ite ?_ ?_)
   | (with_reducible refine LeO.bind ?_ (fun _ => ?_))
   | exact ih0 _ _ _
   | exact LeO.none _
   | refine LeO.ite ?_ ?_
   | refine LeO.bind ?_ (fun _ => ?_)
def falseworkref16_Hex.T5 : Bool × List (List Nat × List Nat) := (true, [([], []), ([], []), ([], []), ([1, 2], [1, 2]), ([3], [3]), ([4], [4]), ([], []), ([], []), ([6, 7], [6, 7]), ([8], [8]), ([9], [9]), ([5, 10], [5, 10]), ([0, 11], [0, 11]), ([12, 12, 0, 1, 2, 3, 4, 5, 6, 7, 8, 9, 10, 11, 12], [0, 12])])
def falseworkref16_Hex.B5 : List Nat := [0, 0, 0, 6, 14, 30, 0, 0, 192, 448, 960, 2046, 4095, 8191]
theorem falseworkref16_Hex.tab5 : rtab .any (opsOf Tryd.f24 5) = falseworkref16_Hex.T5 := by kernel_rfl
theorem falseworkref16_Hex.bits5 : waitsOk falseworkref16_Hex.T5.2 falseworkref16_Hex.B5 = true := by kernel_rfl
set_option maxHeartbeats 8000000 in
set_option maxRecDepth 100000 in
theorem falseworkref16_Hex.calls (k : Nat) (a0 : ByteArray) (r : ByteArray) (w : World) (h : falseworkref16_Hex.f k a0 = some r) :
  Calls Tryd.prog 24 #[.string a0] w fun e w' => e = .returned (.string r) ∧ Below w.heap.size w w' := by
 have HB := Aside0.mk (Below.refl w.heap.size w)
 have H : (falseworkref16_Hex.l0 k a0 ([] : List Int) 0) = some r := h
 clear h
 have H' := Aside0.mk H
 clear H
 go_enter Tryd.func24, Tryd.ntmps24
 go_wp2
 go_loopg [3, 4] k (fun kq v3 v4 w' => ∃ (x3_1 : List Int) (x4_1 : Int), v4 = .int .i64 x4_1 ∧ Aside0 (falseworkref16_Hex.l0 kq a0 x3_1 x4_1 = some r) ∧ Aside0 (kq ≤ k) ∧ Aside0 (Kd.R (Kd.int .u8) 5 w' w.heap.size (fun _ => True) v3 x3_1) ∧ Aside0 (Below w.heap.size w w'))
 case atStart => exact ⟨(([] : List Int)), (0), (by first | rfl | (simp; done) | (simp [*]; done)), H', ⟨Nat.le_refl _⟩, ⟨by first | exact Kd.R_nil _ _ _ _ _ | exact Kd.N_nil _ _ _ _ _ | exact Kd.V_nil _ _ _ _ _ | exact Kd.Q_nil _ _ _ _ _ | exact Kd.S_nil _ _ _ _ _⟩, ⟨by repeat (first | (with_reducible first | exact HB.out | apply below_alloc | apply pw_below_drewN | apply below_drew1) | exact HB.out)⟩⟩
 case round =>
  clear H'
  obtain ⟨x3_1, x4_1, rfl, HA, HK1, HO_3, HB⟩ := hrel
  cases gk with
  | zero => exact absurd HA.out (by simp [falseworkref16_Hex.l0])
  | succ k1 =>
   have H := HA.out
   clear HA
   simp only [falseworkref16_Hex.l0] at H
   by_cases c2 : x4_1 < (a0.size : Int)
   ·rw [if_pos c2] at H
    have c2b0 : decide (x4_1 < (a0.size : Int)) = true := decide_eq_true c2
    clear c2
    by_cases c3 : 0 ≤ x4_1
    ·rw [if_pos c3] at H
     have c3b0 : decide (0 ≤ x4_1) = true := decide_eq_true c3
     clear c3
     obtain ⟨ji5, hji5⟩ : ∃ j_ : Int, ((Int.tdiv (bt a0 x4_1) 16) % 256) = j_ := ⟨_, rfl⟩
     replace H : (if 0 ≤ (ji5) then (if (ji5) < 16 then (if 0 ≤ (Int.tmod (bt a0 x4_1) 16) then (if (Int.tmod (bt a0 x4_1) 16) < 16 then ((some (([bt (⟨#[48, 49, 50, 51, 52, 53, 54, 55, 56, 57, 97, 98, 99, 100, 101, 102]⟩ : ByteArray) (ji5), bt (⟨#[48, 49, 50, 51, 52, 53, 54, 55, 56, 57, 97, 98, 99, 100, 101, 102]⟩ : ByteArray) (Int.tmod (bt a0 x4_1) 16)] : List Int) : List Int)).bind fun y300 => (if x3_1.length + y300.length < 140737488355328 then (falseworkref16_Hex.l0 k1 a0 (x3_1 ++ y300) (wrap64 (x4_1 + 1))) else (none))) else (none)) else (none)) else (none)) else (none)) = some r := by first | (rw [hji5] at H; exact H) | (simp only [hji5] at H ⊢; exact H)
     by_cases c6 : 0 ≤ (ji5)
     ·rw [if_pos c6] at H
      have c6b0 : decide (0 ≤ (ji5)) = true := decide_eq_true c6
      clear c6
      by_cases c7 : (ji5) < 16
      ·rw [if_pos c7] at H
       have c7b0 : decide ((ji5) < 16) = true := decide_eq_true c7
       clear c7
       obtain ⟨ji10, hji10⟩ : ∃ j_ : Int, (Int.tmod (bt a0 x4_1) 16) = j_ := ⟨_, rfl⟩
       replace H : (if 0 ≤ (ji10) then (if (ji10) < 16 then ((some (([bt (⟨#[48, 49, 50, 51, 52, 53, 54, 55, 56, 57, 97, 98, 99, 100, 101, 102]⟩ : ByteArray) (ji5), bt (⟨#[48, 49, 50, 51, 52, 53, 54, 55, 56, 57, 97, 98, 99, 100, 101, 102]⟩ : ByteArray) (ji10)] : List Int) : List Int)).bind fun y300 => (if x3_1.length + y300.length < 140737488355328 then (falseworkref16_Hex.l0 k1 a0 (x3_1 ++ y300) (wrap64 (x4_1 + 1))) else (none))) else (none)) else (none)) = some r := by first | (rw [hji10] at H; exact H) | (simp only [hji10] at H ⊢; exact H)
       by_cases c11 : 0 ≤ (ji10)
       ·rw [if_pos c11] at H
        have c11b0 : decide (0 ≤ (ji10)) = true := decide_eq_true c11
        clear c11
        by_cases c12 : (ji10) < 16
        ·rw [if_pos c12] at H
         have c12b0 : decide ((ji10) < 16) = true := decide_eq_true c12
         clear c12
         obtain ⟨y300, hy300⟩ : ∃ y_ : List Int, y_ = (([bt (⟨#[48, 49, 50, 51, 52, 53, 54, 55, 56, 57, 97, 98, 99, 100, 101, 102]⟩ : ByteArray) (ji5), bt (⟨#[48, 49, 50, 51, 52, 53, 54, 55, 56, 57, 97, 98, 99, 100, 101, 102]⟩ : ByteArray) (ji10)] : List Int)) := ⟨_, rfl⟩
         replace H : (if x3_1.length + y300.length < 140737488355328 then (falseworkref16_Hex.l0 k1 a0 (x3_1 ++ y300) (wrap64 (x4_1 + 1))) else (none)) = some r := by first | (rw [hy300]; with_reducible exact H) | (have H2_ := (Option.bind_some _ _).symm.trans H; rw [hy300]; with_reducible exact H2_) | (have H2_ := (Option.bind_some _ _).symm.trans H; with_reducible exact H2_) | with_reducible exact H | (rw [hy300]; exact H) | exact H
         have Ny300 := Aside0.mk hy300
         clear hy300
         by_cases c14 : x3_1.length + y300.length < 140737488355328
         ·rw [if_pos c14] at H
          have LMc14 := Aside0.mk c14
          clear c14
          obtain ⟨y303, hy303⟩ : ∃ y_ : List Int, y_ = (x3_1 ++ y300) := ⟨_, rfl⟩
          replace H : (falseworkref16_Hex.l0 k1 a0 y303 (wrap64 (x4_1 + 1))) = some r := by first | (rw [hy303]; with_reducible exact H) | (have H2_ := (Option.bind_some _ _).symm.trans H; rw [hy303]; with_reducible exact H2_) | (have H2_ := (Option.bind_some _ _).symm.trans H; with_reducible exact H2_) | with_reducible exact H | (rw [hy303]; exact H) | exact H
          have Ny303 := Aside0.mk hy303
          clear hy303
          have H' := Aside0.mk H
          clear H
          try go_wp2
          have n0_ := Aside0.mk (Kd.R_drew HO_3.out)
          have n1_ := Aside0.mk (below_drew1 HB.out)
          clear HO_3
          clear HB
          have HO_3 := n0_
          have HB := n1_
          clear n0_ n1_
          have p4 : 0 ≤ (x4_1 : Int) := of_decide_eq_true (by first | (with_reducible assumption) | assumption)
          have q4 : x4_1 < (a0.size : Int) := of_decide_eq_true (by first | (with_reducible assumption) | assumption)
          have hx4 := bt_at a0 x4_1
          replace p4 := eq_true p4
          replace q4 := eq_true q4
          have p8 : 0 ≤ ((ji5) : Int) := of_decide_eq_true (by first | (with_reducible assumption) | assumption)
          have q8 : (ji5) < (16 : Int) := of_decide_eq_true (by first | (with_reducible assumption) | assumption)
          have hx8 := bt_at (⟨#[48, 49, 50, 51, 52, 53, 54, 55, 56, 57, 97, 98, 99, 100, 101, 102]⟩ : ByteArray) (ji5)
          replace p8 := eq_true p8
          replace q8 := eq_true q8
          have p9 : 0 ≤ (x4_1 : Int) := of_decide_eq_true (by first | (with_reducible assumption) | assumption)
          have q9 : x4_1 < (a0.size : Int) := of_decide_eq_true (by first | (with_reducible assumption) | assumption)
          have hx9 := bt_at a0 x4_1
          replace p9 := eq_true p9
          replace q9 := eq_true q9
          have p13 : 0 ≤ ((ji10) : Int) := of_decide_eq_true (by first | (with_reducible assumption) | assumption)
          have q13 : (ji10) < (16 : Int) := of_decide_eq_true (by first | (with_reducible assumption) | assumption)
          have hx13 := bt_at (⟨#[48, 49, 50, 51, 52, 53, 54, 55, 56, 57, 97, 98, 99, 100, 101, 102]⟩ : ByteArray) (ji10)
          replace p13 := eq_true p13
          replace q13 := eq_true q13
          have fw5 : IntKind.u8.wrap ((bt a0 x4_1).tdiv 16) = ji5 := hji5
          refine start_ (n := 14) (S := fun w' => True) (ds := []) #[false, false, false, false, false, false, false, false, false, false, false, false, false, false] (by kernel_rfl) rfl rfl trivial (fun hHeld => ?_); refine with_tabW falseworkref16_Hex.tab5 falseworkref16_Hex.bits5 (fun HT_ HW_ => ?_)
          generalize wr.drew = w15 at HO_3 HB hHeld ⊢
          refine pure_ (i := 0) (N := some 11) (v := ?_) (a' := ?_) #[true, false, false, false, false, false, false, false, false, false, false, false, false, false] rfl rfl (any_of HT_.out (by kernel_rfl)) (fun _ _ _ h => h) (Or.inl ⟨by rfl, ?_⟩) ?_ ?_
          rotate_left
          ·intro w'
           go_simp
           with_reducible rfl
          rotate_left
          ·simp only [Act.put, List.setIfInBounds_toArray, List.set_cons_zero, List.set_cons_succ, i64_w, i32_w]
           rfl
          refine pure_ (i := 1) (N := some 12) (v := ?_) (a' := ?_) #[true, true, false, false, false, false, false, false, false, false, false, false, false, false] rfl rfl (any_of HT_.out (by kernel_rfl)) (fun _ _ _ h => h) (Or.inl ⟨by rfl, ?_⟩) ?_ ?_
          rotate_left
          ·intro w'
           go_simp
           with_reducible rfl
          rotate_left
          ·simp only [Act.put, List.setIfInBounds_toArray, List.set_cons_zero, List.set_cons_succ, i64_w, i32_w]
           rfl
          refine pure_ (i := 2) (N := some 13) (v := ?_) (a' := ?_) #[true, true, true, false, false, false, false, false, false, false, false, false, false, false] rfl rfl (any_of HT_.out (by kernel_rfl)) (fun _ _ _ h => h) (Or.inl ⟨by rfl, ?_⟩) ?_ ?_
          rotate_left
          ·intro w'
           go_simp
           with_reducible rfl
          rotate_left
          ·simp only [Act.put, List.setIfInBounds_toArray, List.set_cons_zero, List.set_cons_succ, i64_w, i32_w]
           rfl
          refine pure_ (i := 6) (N := some 17) (v := ?_) (a' := ?_) #[true, true, true, false, false, false, true, false, false, false, false, false, false, false] rfl rfl (any_of HT_.out (by kernel_rfl)) (fun _ _ _ h => h) (Or.inl ⟨by rfl, ?_⟩) ?_ ?_
          rotate_left
          ·intro w'
           go_simp
           with_reducible rfl
          rotate_left
          ·simp only [Act.put, List.setIfInBounds_toArray, List.set_cons_zero, List.set_cons_succ, i64_w, i32_w]
           rfl
          refine pure_ (i := 7) (N := some 18) (v := ?_) (a' := ?_) #[true, true, true, false, false, false, true, true, false, false, false, false, false, false] rfl rfl (any_of HT_.out (by kernel_rfl)) (fun _ _ _ h => h) (Or.inl ⟨by rfl, ?_⟩) ?_ ?_
          rotate_left
          ·intro w'
           go_simp
           with_reducible rfl
          rotate_left
          ·simp only [Act.put, List.setIfInBounds_toArray, List.set_cons_zero, List.set_cons_succ, i64_w, i32_w]
           rfl
          refine take_ (i := 3) (N := some 14) (v := ?_) (a' := ?_) #[true, true, true, true, false, false, true, true, false, false, false, false, false, false] rfl rfl (take_ofW HT_.out HW_.out (by kernel_rfl)) (fun _ _ _ h => h) (Or.inl ⟨by rfl, ?_⟩) hHeld ?_ ?_
          rotate_left
          ·intro w' _
           go_simp
           with_reducible rfl
          rotate_left
          ·simp only [Act.put, List.setIfInBounds_toArray, List.set_cons_zero, List.set_cons_succ, i64_w, i32_w]
           rfl
          refine pure_ (i := 4) (N := some 15) (v := ?_) (a' := ?_) #[true, true, true, true, true, false, true, true, false, false, false, false, false, false] rfl rfl (any_of HT_.out (by kernel_rfl)) (fun _ _ _ h => h) (Or.inl ⟨by rfl, ?_⟩) ?_ ?_
          rotate_left
          ·intro w'
           go_simp
           with_reducible rfl
          rotate_left
          ·simp only [Act.put, List.setIfInBounds_toArray, List.set_cons_zero, List.set_cons_succ, i64_w, i32_w]
           rfl
          refine take_ (i := 5) (N := some 16) (v := ?_) (a' := ?_) #[true, true, true, true, true, true, true, true, false, false, false, false, false, false] rfl rfl (take_ofW HT_.out HW_.out (by kernel_rfl)) (fun _ _ _ h => h) (Or.inl ⟨by rfl, ?_⟩) hHeld ?_ ?_
          rotate_left
          ·intro w' _
           go_simp
           with_reducible rfl
          rotate_left
          ·simp only [Act.put, List.setIfInBounds_toArray, List.set_cons_zero, List.set_cons_succ, i64_w, i32_w]
           rfl
          refine take_ (i := 8) (N := some 19) (v := ?_) (a' := ?_) #[true, true, true, true, true, true, true, true, true, false, false, false, false, false] rfl rfl (take_ofW HT_.out HW_.out (by kernel_rfl)) (fun _ _ _ h => h) (Or.inl ⟨by rfl, ?_⟩) hHeld ?_ ?_
          rotate_left
          ·intro w' _
           go_simp
           with_reducible rfl
          rotate_left
          ·simp only [Act.put, List.setIfInBounds_toArray, List.set_cons_zero, List.set_cons_succ, i64_w, i32_w]
           rfl
          refine pure_ (i := 9) (N := some 20) (v := ?_) (a' := ?_) #[true, true, true, true, true, true, true, true, true, true, false, false, false, false] rfl rfl (any_of HT_.out (by kernel_rfl)) (fun _ _ _ h => h) (Or.inl ⟨by rfl, ?_⟩) ?_ ?_
          rotate_left
          ·intro w'
           go_simp
           with_reducible rfl
          rotate_left
          ·simp only [Act.put, List.setIfInBounds_toArray, List.set_cons_zero, List.set_cons_succ, i64_w, i32_w]
           rfl
          refine take_ (i := 10) (N := some 21) (v := ?_) (a' := ?_) #[true, true, true, true, true, true, true, true, true, true, true, false, false, false] rfl rfl (take_ofW HT_.out HW_.out (by kernel_rfl)) (fun _ _ _ h => h) (Or.inl ⟨by rfl, ?_⟩) hHeld ?_ ?_
          rotate_left
          ·intro w' _
           go_simp
           with_reducible rfl
          rotate_left
          ·simp only [Act.put, List.setIfInBounds_toArray, List.set_cons_zero, List.set_cons_succ, i64_w, i32_w]
           rfl
          refine one_ (i := 11) (N := some 22) #[true, true, true, true, true, true, true, true, true, true, true, true, false, false] rfl rfl (one_of HT_.out (by kernel_rfl)) (by decide) (fun K hK => ?_)
          refine Kd.R_lit_step (Kd.int .u8) _ 5 ?hg (N := 22) ?hd (xs := ([bt (⟨#[48, 49, 50, 51, 52, 53, 54, 55, 56, 57, 97, 98, 99, 100, 101, 102]⟩ : ByteArray) (ji5), bt (⟨#[48, 49, 50, 51, 52, 53, 54, 55, 56, 57, 97, 98, 99, 100, 101, 102]⟩ : ByteArray) (ji10)] : List Int)) (inner := [.int .u8 (bt (⟨#[48, 49, 50, 51, 52, 53, 54, 55, 56, 57, 97, 98, 99, 100, 101, 102]⟩ : ByteArray) (ji5)), .int .u8 (bt (⟨#[48, 49, 50, 51, 52, 53, 54, 55, 56, 57, 97, 98, 99, 100, 101, 102]⟩ : ByteArray) (ji10))]) (ok := fun _ => True) (okp := fun _ => True) ?hr ?hp (fun _ hk => hk) trivial (Below.refl _ _) (Nat.le_refl _) (by simp) ?_; (case hd => rfl); (case hg => rfl); (case hr => first | (go_simp; done) | (go_simp; rfl)); (case hp => exact (Reps.one (show Kd.M (Kd.int .u8) _ _ _ (bt (⟨#[48, 49, 50, 51, 52, 53, 54, 55, 56, 57, 97, 98, 99, 100, 101, 102]⟩ : ByteArray) (ji5)) [.int .u8 (bt (⟨#[48, 49, 50, 51, 52, 53, 54, 55, 56, 57, 97, 98, 99, 100, 101, 102]⟩ : ByteArray) (ji5))] from rfl) (Reps.one (show Kd.M (Kd.int .u8) _ _ _ (bt (⟨#[48, 49, 50, 51, 52, 53, 54, 55, 56, 57, 97, 98, 99, 100, 101, 102]⟩ : ByteArray) (ji10)) [.int .u8 (bt (⟨#[48, 49, 50, 51, 52, 53, 54, 55, 56, 57, 97, 98, 99, 100, 101, 102]⟩ : ByteArray) (ji10))] from rfl) (Reps.none _ _))))
          intro v301 w16 ho17 hb hg_ hnew_
          clear hg_ hnew_
          (first | rw [← Ny300.out] at ho17 | (simp only [Int.reduceToNat] at ho17; rw [← Ny300.out] at ho17))
          have n0_ := Aside0.mk (Kd.R_elder' (by (with_reducible repeat (first | apply Kd.R_alloc | apply Kd.R_drewN | apply Kd.R_drew)); exact HO_3.out) (Kd.R_base ho17) hb)
          have n1_ := Aside0.mk (Kd.R_lower (Kd.R_new' ho17 (Kd.R_lt (by (with_reducible repeat (first | apply Kd.R_alloc | apply Kd.R_drewN | apply Kd.R_drew)); exact HO_3.out))) (below_size (by repeat (first | (with_reducible first | exact HB.out | apply below_alloc | apply pw_below_drewN | apply below_drew1) | exact HB.out))))
          have n2_ := Aside0.mk (below_step (by repeat (first | (with_reducible first | exact HB.out | apply below_alloc | apply pw_below_drewN | apply below_drew1) | exact HB.out)) hb)
          clear HO_3
          clear HB
          have HO_3 := n0_
          have HO302 := n1_
          have HB := n2_
          clear n0_ n1_ n2_
          clear hb ho17
          obtain ⟨Ao19, co19, eo19⟩ := Kd.R_slice HO302.out
          (first | subst eo19 | (injection eo19 with f1_ f2_ f3_; have f4_ := f1_.symm; have f5_ := f3_.symm; clear f1_ f2_ f3_; subst f4_; subst f5_))
          refine hK.out _ _ trivial (fun hHeld => ?_)
          clear hK K
          refine norm_ (a' := ?_) ?_ ?_
          rotate_left
          ·show Act.put _ (some 22) _ = _
           simp only [Act.put, List.setIfInBounds_toArray, List.set_cons_zero, List.set_cons_succ, i64_w, i32_w]
           rfl
          refine one_ (i := 12) (N := some 23) #[true, true, true, true, true, true, true, true, true, true, true, true, true, false] rfl rfl (one_of HT_.out (by kernel_rfl)) (by decide) (fun K hK => ?_)
          refine Kd.R_append_rows_step (Kd.int .u8) (w0 := w) w.heap.size (by rfl) (.tmp 11) (.tmp 22) 34 5 (.int .u8 0) 1 rfl Tryd.underlying34 info5 rfl (by decide) (by omega) u3 x3_1 y300 _ _ _ (fun k_ => some k_ ≠ (.slice Ao19 y300.length co19 : Value).ownBlock) (fun _ => False) rfl rfl ?aO ?aR (fun _ _ h => h) (fun _ h => h.elim) ?aF ?aB ?aS ?aL ?_
          (case aR => repeat (first | exact (Kd.R_reads' HO302.out).2.2 | (with_reducible refine Kd.C_alloc ?_ _) | (with_reducible refine Kd.C_drewN ?_ _) | (with_reducible refine Kd.C_drew ?_)))
          (case aB => exact (by repeat (first | (with_reducible first | exact HB.out | apply below_alloc | apply pw_below_drewN | apply below_drew1) | exact HB.out)))
          (case aF => exact (fun k_ hk => Kd.fresh' (Kd.R_lt (by (with_reducible repeat (first | apply Kd.R_alloc | apply Kd.R_drewN | apply Kd.R_drew)); exact HO302.out)) k_ hk))
          (case aO => exact (by (with_reducible repeat (first | apply Kd.R_alloc | apply Kd.R_drewN | apply Kd.R_drew)); exact Kd.R_mono HO_3.out (fun _ hk => hk.2)))
          (case aS => exact (below_size (by repeat (first | (with_reducible first | exact HB.out | apply below_alloc | apply pw_below_drewN | apply below_drew1) | exact HB.out))))
          (case aL => have := LMc14.out; omega)
          intro v304 w18 ho hb hg hat
          rw [← Ny303.out] at ho
          have n0_ := Aside0.mk (Kd.R_after (ok := (fun _ => True)) (by (with_reducible repeat (first | apply Kd.R_alloc | apply Kd.R_drewN | apply Kd.R_drew)); exact HO302.out) hg hat)
          have n1_ := Aside0.mk (hb)
          have n2_ := Aside0.mk (ho)
          clear HO302
          clear HB
          clear HO_3
          have HO302 := n0_
          have HB := n1_
          have HO305 := n2_
          clear n0_ n1_ n2_
          clear ho hb hg hat
          refine hK.out _ _ trivial (fun hHeld => ?_)
          clear hK K
          refine norm_ (a' := ?_) ?_ ?_
          rotate_left
          ·show Act.put _ (some 23) _ = _
           simp only [Act.put, List.setIfInBounds_toArray, List.set_cons_zero, List.set_cons_succ, i64_w, i32_w]
           rfl
          refine pure_ (i := 13) (N := some 3) (v := ?_) (a' := ?_) #[true, true, true, true, true, true, true, true, true, true, true, true, true, true] rfl rfl (any_of HT_.out (by kernel_rfl)) (fun _ _ _ h => h) (Or.inl ⟨by rfl, ?_⟩) ?_ ?_
          rotate_left
          ·intro w'
           go_simp
           with_reducible rfl
          rotate_left
          ·simp only [Act.put, List.setIfInBounds_toArray, List.set_cons_zero, List.set_cons_succ, i64_w, i32_w]
           rfl
          refine done_ (done_of HT_.out (by kernel_rfl)) ?_
          try go_wp2
          go_roundg k1
          case measure => have := HK1.out; omega
          case rel => exact ⟨(y303), (wrap64 (x4_1 + 1)), (by first | rfl | (simp; done) | (simp [*]; done)), H', ⟨by have := HK1.out; omega⟩, ⟨by (with_reducible repeat (first | apply Kd.R_alloc | apply Kd.R_drewN | apply Kd.R_drew)); exact Kd.R_mono HO305.out (fun _ hk => trivial)⟩, ⟨by repeat (first | (with_reducible first | exact HB.out | apply below_alloc | apply pw_below_drewN | apply below_drew1) | exact HB.out)⟩⟩
         ·rw [if_neg c14] at H
          exact absurd H (by simp)
        ·rw [if_neg c12] at H
         exact absurd H (by simp)
       ·rw [if_neg c11] at H
        exact absurd H (by simp)
      ·rw [if_neg c7] at H
       exact absurd H (by simp)
     ·rw [if_neg c6] at H
      exact absurd H (by simp)
    ·rw [if_neg c3] at H
     exact absurd H (by simp)
   ·rw [if_neg c2] at H
    have c2b0 : decide (x4_1 < (a0.size : Int)) = false := decide_eq_false c2
    clear c2
    obtain rfl := Option.some.inj H
    have hcv20 := own_string (P := Tryd.prog) Tryd.underlying34 Tryd.underlying5 Tryd.underlying9 (Kd.own_of_R HO_3.out)
    go_wp2
    go_ret
    exact ⟨by first | rfl | (simp [errW_none, errW_some] <;> rfl) | (simp [*, errW_none, errW_some] <;> rfl), by repeat (first | (with_reducible first | exact HB.out | apply below_alloc | apply pw_below_drewN | apply below_drew1) | exact HB.out)⟩
end Go.Proofs.YtjehfmimbbdnkaaDoor.L
namespace Go.Proofs.YtjehfmimbbdnkaaDoor.L
open Go.RowKit Go.Proofs.YtjehfmimbbdnkaaDoorW.PrintWords Go.Proofs.YtjehfmimbbdnkaaDoorW.PrintLast Go.Proofs.YtjehfmimbbdnkaaDoorW.PrintMore
attribute [local go_sem] max2_int min2_int max_two min_two max_three min_three max_four min_four
set_option linter.unusedVariables false
set_option linter.unusedSimpArgs false
def falseworkref2_eight.l0 : Nat → Int → List Int → Int → Option (ByteArray)
 | 0, _, _, _ => none
 | k + 1, x0, x3, x4 => if x4 ≥ 0 then (if 0 ≤ x4 then (if x4 < (x3.length : Int) then (falseworkref2_eight.l0 k (x0 / 256) (x3.set (x4 : Int).toNat ((x0) % 256)) (wrap64 (x4 - 1))) else (none)) else (none)) else (some (strOfNums x3))
def falseworkref2_eight.f (k : Nat) (a0 : Int) : Option (ByteArray) := if 8 ≤ 281474976710656 then (falseworkref2_eight.l0 k a0 (List.replicate 8 0) 7) else (none)
theorem falseworkref2_eight.mono_l : ∀ k, (∀ y0 y1 y2, LeO (falseworkref2_eight.l0 k y0 y1 y2) (falseworkref2_eight.l0 (k + 1) y0 y1 y2))
 | 0 => fun _ _ _ r h => by simp [falseworkref2_eight.l0] at h
 | k + 1 => by
  have ih0 := falseworkref2_eight.mono_l k
  ·intro y0 y1 y2
   unfold falseworkref2_eight.l0
   repeat' first
   | (with_reducible exact ih0 _ _ _)
   | (with_reducible exact LeO.refl _)
   | (with_reducible exact LeO.none _)
   | (with_reducible refine LeO.ite ?_ ?_)
   | (with_reducible refine LeO.bind ?_ (fun _ => ?_))
   | exact ih0 _ _ _
   | exact LeO.none _
   | refine LeO.ite ?_ ?_
   | refine LeO.bind ?_ (fun _ => ?_)
theorem falseworkref2_eight.mono : ∀ a0 k, LeO (falseworkref2_eight.f k a0) (falseworkref2_eight.f (k + 1) a0) := by
 intro a0 k
 have ih0 := falseworkref2_eight.mono_l k
 unfold falseworkref2_eight.f
 repeat' first
   | (with_reducible exact ih0 _ _ _)
   | (with_reducible exact LeO.refl _)
   | (with_reducible exact LeO.none _)
   | (with_reducible refine LeO.ite ?_ ?_)
   | (with_reducible refine LeO.bind ?_ (fun _ => ?_))
   | exact ih0 _ _ _
   | exact LeO.none _
   | refine LeO.ite ?_ ?_
   | refine LeO.bind ?_ (fun _ => ?_)
set_option maxHeartbeats 8000000 in
set_option maxRecDepth 100000 in
theorem falseworkref2_eight.calls (k : Nat) (a0 : Int) (r : ByteArray) (w : World) (h : falseworkref2_eight.f k a0 = some r) :
  Calls Tryd.prog 41 #[.int .u64 a0] w fun e w' => e = .returned (.string r) ∧ Below w.heap.size w w' := by
 have HB := Aside0.mk (Below.refl w.heap.size w)
 have H : (if 8 ≤ 281474976710656 then (falseworkref2_eight.l0 k a0 (List.replicate 8 0) 7) else (none)) = some r := h
 clear h
 by_cases c2 : 8 ≤ 281474976710656
 ·rw [if_pos c2] at H
  have c2b0 := eq_true c2
  have c2b1 : decide (8 ≤ 281474976710656) = true := decide_eq_true c2
  clear c2
  obtain ⟨y306, hy306⟩ : ∃ y_ : List Int, y_ = (List.replicate 8 0) := ⟨_, rfl⟩
  replace H : (falseworkref2_eight.l0 k a0 y306 7) = some r := by first | (rw [hy306]; with_reducible exact H) | (have H2_ := (Option.bind_some _ _).symm.trans H; rw [hy306]; with_reducible exact H2_) | (have H2_ := (Option.bind_some _ _).symm.trans H; with_reducible exact H2_) | with_reducible exact H | (rw [hy306]; exact H) | exact H
  have Ny306 := Aside0.mk hy306
  clear hy306
  have H' := Aside0.mk H
  clear H
  go_enter Tryd.func41, Tryd.ntmps41
  go_wp2_with (first | ((with_reducible refine gate_dst (N := 5) rfl ?_); refine Kd.R_make (Kd.int .u8) _ 5 rfl (N := 5) rfl 34 _ _ rfl 8 rfl rfl Tryd.underlying34 (.int .u8 0) 1 info5 rfl (by decide) (by omega) 0 (ok := fun _ => True) (okp := fun _ => True) rfl (fun _ hk => hk) trivial (by omega) (by omega) (Below.refl _ _) (Nat.le_refl _) ?_; intro v307 w3 ho4 hb hg_ hnew_; clear hg_ hnew_; (first | rw [← Ny306.out] at ho4 | (simp only [Int.reduceToNat] at ho4; rw [← Ny306.out] at ho4)); have n0_ := Aside0.mk (Kd.R_lower ho4 (below_size (by repeat (first | (with_reducible first | exact HB.out | apply below_alloc | apply pw_below_drewN | apply below_drew1) | exact HB.out)))); have n1_ := Aside0.mk (below_step (by repeat (first | (with_reducible first | exact HB.out | apply below_alloc | apply pw_below_drewN | apply below_drew1) | exact HB.out)) hb); clear HB; have HO308 := n0_; have HB := n1_; clear n0_ n1_; clear hb ho4))
  go_loopg [0, 4] k (fun kq v0 v4 w' => ∃ (x0_1 : Int) (x3_1 : List Int) (x4_1 : Int), v0 = .int .u64 x0_1 ∧ v4 = .int .i64 x4_1 ∧ Aside0 (falseworkref2_eight.l0 kq x0_1 x3_1 x4_1 = some r) ∧ Aside0 (kq ≤ k) ∧ Aside0 (Kd.R (Kd.int .u8) 5 w' w.heap.size (fun _ => True) v307 x3_1) ∧ Aside0 (Below w.heap.size w w'))
  case atStart => exact ⟨(a0), (y306), (7), (by first | rfl | (simp; done) | (simp [*]; done)), (by first | rfl | (simp; done) | (simp [*]; done)), H', ⟨Nat.le_refl _⟩, ⟨by (with_reducible repeat (first | apply Kd.R_alloc | apply Kd.R_drewN | apply Kd.R_drew)); exact HO308.out⟩, ⟨by repeat (first | (with_reducible first | exact HB.out | apply below_alloc | apply pw_below_drewN | apply below_drew1) | exact HB.out)⟩⟩
  case round =>
   clear H'
   try clear c2
   try clear c2b0
   try clear c2b1
   try clear p2
   try clear c4
   obtain ⟨x0_1, x3_1, x4_1, rfl, rfl, HA, HK1, HO_3, HB⟩ := hrel
   cases gk with
   | zero => exact absurd HA.out (by simp [falseworkref2_eight.l0])
   | succ k1 =>
    have H := HA.out
    clear HA
    simp only [falseworkref2_eight.l0] at H
    by_cases c5 : x4_1 ≥ 0
    ·rw [if_pos c5] at H
     have c5b0 : decide (0 ≤ x4_1) = true := decide_eq_true c5
     clear c5
     by_cases c6 : 0 ≤ x4_1
     ·rw [if_pos c6] at H
      have c6b0 : decide (0 ≤ x4_1) = true := decide_eq_true c6
      clear c6
      by_cases c7 : x4_1 < (x3_1.length : Int)
      ·rw [if_pos c7] at H
       have c7b0 : decide (x4_1 < (x3_1.length : Int)) = true := decide_eq_true c7
       clear c7
       obtain ⟨y309, hy309⟩ : ∃ y_ : List Int, y_ = (x3_1.set (x4_1 : Int).toNat ((x0_1) % 256)) := ⟨_, rfl⟩
       replace H : (falseworkref2_eight.l0 k1 (x0_1 / 256) y309 (wrap64 (x4_1 - 1))) = some r := by first | (rw [hy309]; with_reducible exact H) | (have H2_ := (Option.bind_some _ _).symm.trans H; rw [hy309]; with_reducible exact H2_) | (have H2_ := (Option.bind_some _ _).symm.trans H; with_reducible exact H2_) | with_reducible exact H | (rw [hy309]; exact H) | exact H
       have Ny309 := Aside0.mk hy309
       clear hy309
       have H' := Aside0.mk H
       clear H
       have p8 : 0 ≤ (x4_1 : Int) := of_decide_eq_true (by first | (with_reducible assumption) | assumption)
       have q8 : (x4_1 : Int) < ((x3_1.length : Int) : Int) := of_decide_eq_true (by first | (with_reducible assumption) | assumption)
       obtain ⟨go8, co8, eo8, gb8, gl8, cl8, HG8⟩ := Kd.R_form HO_3.out (by omega)
       (first | cases eo8 | (injection eo8 with ea_ en_ ec_; (first | subst ea_ | (injection ea_ with ea_; subst ea_)); subst ec_; clear en_))
       have GB8 := Aside0.mk gb8
       have GG8 := Aside0.mk HG8
       clear gb8 gl8 HG8
       obtain ⟨hx8_0, hf8_0⟩ := Kd.R_celln 0 HO_3.out (x4_1 : Int) p8 q8
       replace p8 := eq_true p8
       replace q8 := eq_true q8
       have HP9 := Kd.R_putg HO_3.out (x4_1 : Int) ((x0_1) % 256)
       go_wp2_with (first | ((with_reducible refine gate_store (t := 5) (p := 14) rfl ?_); refine store_event (t := 5) (p := 14) (v := ?vo_w10) (w1 := (wr.setCell ⟨go8, (x4_1 : Int).toNat, none⟩ (.int .u8 ((x0_1) % 256)))) ?hg ?ho ?hn ?hr ?_; (case ho => rfl); (case hg => rfl); (case hn => rfl); (case hr => first | (go_simp; done) | (go_simp; rfl)); intro w10 hw; have hg : wr.grownBy w10 (some go8) := (by rw [hw]; exact HP9.2); have hp_ : Kd.R (Kd.int .u8) 5 w10 w.heap.size (fun _ => True) (.slice (some ⟨go8, 0, none⟩) x3_1.length co8) y309 := (by rw [hw, Ny309.out]; exact HP9.1); clear HP9; have n0_ := Aside0.mk (hp_); have n1_ := Aside0.mk ((by rw [hw]; exact below_set (HB.out) GB8.out : Below w.heap.size w w10)); clear HO_3; clear HB; have HO_3 := n0_; have HB := n1_; clear n0_ n1_; clear hg hw hp_))
       go_roundg k1
       case measure => have := HK1.out; omega
       case rel => exact ⟨(x0_1 / 256), (y309), (wrap64 (x4_1 - 1)), (by first | rfl | (simp; done) | (simp [*]; done)), (by first | rfl | (simp; done) | (simp [*]; done)), H', ⟨by have := HK1.out; omega⟩, ⟨by (with_reducible repeat (first | apply Kd.R_alloc | apply Kd.R_drewN | apply Kd.R_drew)); exact HO_3.out⟩, ⟨by repeat (first | (with_reducible first | exact HB.out | apply below_alloc | apply pw_below_drewN | apply below_drew1) | exact HB.out)⟩⟩
      ·rw [if_neg c7] at H
       exact absurd H (by simp)
     ·rw [if_neg c6] at H
      exact absurd H (by simp)
    ·rw [if_neg c5] at H
     have c5b0 : decide (0 ≤ x4_1) = false := decide_eq_false c5
     clear c5
     obtain rfl := Option.some.inj H
     have hcv11 := own_string (P := Tryd.prog) Tryd.underlying34 Tryd.underlying5 Tryd.underlying9 (Kd.own_of_R HO_3.out)
     go_wp2
     go_ret
     exact ⟨by first | rfl | (simp [errW_none, errW_some] <;> rfl) | (simp [*, errW_none, errW_some] <;> rfl), by repeat (first | (with_reducible first | exact HB.out | apply below_alloc | apply pw_below_drewN | apply below_drew1) | exact HB.out)⟩
 ·rw [if_neg c2] at H
  exact absurd H (by simp)
end Go.Proofs.YtjehfmimbbdnkaaDoor.L
namespace Go.Proofs.YtjehfmimbbdnkaaDoor.L
open Go.RowKit Go.Proofs.YtjehfmimbbdnkaaDoorW.PrintWords Go.Proofs.YtjehfmimbbdnkaaDoorW.PrintLast Go.Proofs.YtjehfmimbbdnkaaDoorW.PrintMore
attribute [local go_sem] max2_int min2_int max_two min_two max_three min_three max_four min_four
set_option linter.unusedVariables false
set_option linter.unusedSimpArgs false
def falseworkref2_Eight.f (k : Nat) (a0 : Int) : Option (ByteArray) := (falseworkref2_eight.f k (IntKind.u64.wrap (a0))).bind fun t310 => (some t310)
theorem falseworkref2_Eight.mono : ∀ a0 k, LeO (falseworkref2_Eight.f k a0) (falseworkref2_Eight.f (k + 1) a0) := by
 intro a0 k
 unfold falseworkref2_Eight.f
 repeat' first
   | (with_reducible exact falseworkref2_eight.mono _ _)
   | (with_reducible exact LeO.refl _)
   | (with_reducible exact LeO.none _)
   | (with_reducible refine LeO.ite ?_ ?_)
   | (with_reducible refine LeO.bind ?_ (fun _ => ?_))
   | exact falseworkref2_eight.mono _ _
   | exact LeO.none _
   | refine LeO.ite ?_ ?_
   | refine LeO.bind ?_ (fun _ => ?_)
set_option maxHeartbeats 8000000 in
set_option maxRecDepth 100000 in
theorem falseworkref2_Eight.calls (k : Nat) (a0 : Int) (r : ByteArray) (w : World) (h : falseworkref2_Eight.f k a0 = some r) :
  Calls Tryd.prog 25 #[.int .i64 a0] w fun e w' => e = .returned (.string r) ∧ Below w.heap.size w w' := by
 have HB := Aside0.mk (Below.refl w.heap.size w)
 have H : ((falseworkref2_eight.f k (IntKind.u64.wrap (a0))).bind fun t310 => (some t310)) = some r := h
 clear h
 replace H := Option.bind_eq_some_iff.mp H
 obtain ⟨t310, A20, H⟩ := H
 replace H : (some t310) = some r := H
 have A2 := Aside0.mk A20
 clear A20
 obtain rfl := Option.some.inj H
 go_enter Tryd.func25, Tryd.ntmps25
 go_wp2_with (first | ((with_reducible refine gate_callee (f := 41) rfl ?_); refine goesL_ (some 5) rfl rfl Tryd.func41 (by kernel_rfl) rfl #[.int .u64 (IntKind.u64.wrap (a0))] rfl (by (try simp only [List.map_toArray, List.map_cons, List.map_nil]); first | done | rfl | (simp only [List.length_drop, List.length_take]; rfl)) ?_; (with_reducible refine (falseworkref2_eight.calls k (IntKind.u64.wrap (a0)) t310 _ A2.out).mono ?_); rintro e w3 ⟨rfl, hb⟩; refine ⟨_, rfl, ?_⟩; have n0_ := Aside0.mk (below_step (by repeat (first | (with_reducible first | exact HB.out | apply below_alloc | apply pw_below_drewN | apply below_drew1) | exact HB.out)) hb); clear HB; have HB := n0_; clear n0_; (try clear hb); (try clear hb2); (try clear hk); (try clear hi)))
 go_ret
 exact ⟨by first | rfl | (simp [errW_none, errW_some] <;> rfl) | (simp [*, errW_none, errW_some] <;> rfl), by repeat (first | (with_reducible first | exact HB.out | apply below_alloc | apply pw_below_drewN | apply below_drew1) | exact HB.out)⟩
end Go.Proofs.YtjehfmimbbdnkaaDoor.L
