/- What a token is, whatever the text: its bytes are the text's, and its kind is none that ends. -/
import Derived.Test.YtjehfmimbbdnkaaDoorPureLex
namespace Go.Proofs.YtjehfmimbbdnkaaDoor.LexPure
open Go.RowKit Go.Proofs.YtjehfmimbbdnkaaDoorW.PrintWords Go.Proofs.YtjehfmimbbdnkaaDoorW.PrintLast Go.Proofs.YtjehfmimbbdnkaaDoorW.PrintMore
open Go.Proofs.YtjehfmimbbdnkaaDoor.L Go.Proofs.YtjehfmimbbdnkaaDoor

def Sound (u : ByteArray) (r : Int × ByteArray × Int × Int × Int × ByteArray × Int × Int) : Prop :=
  r.2.2.2.2.2.2.2 = 0 ∨ ∃ n : Nat, 0 < n ∧ n ≤ u.size ∧ r.2.2.2.2.2.2.2 = (n : Int) ∧ r.2.1 = u.extract 0 n ∧ 1 ≤ r.1 ∧ r.1 ≤ 4
theorem sound_none (u : ByteArray) : Sound u none8 := .inl rfl
theorem sound_mk (u : ByteArray) (n : Nat) (kd vk vn vf : Int) (vs : ByteArray) (a : Int) (hk : 1 ≤ kd ∧ kd ≤ 4) (h0 : 0 < n) (h1 : n ≤ u.size) : Sound u (kd, u.extract 0 n, vk, vn, vf, vs, a, (n : Int)) :=
  .inr ⟨n, h0, h1, rfl, rfl, hk⟩
theorem textS_le : ∀ (m : Nat) (l c : List UInt8) (n : Nat), l.length ≤ m → textS l = some (c, n) → 1 ≤ n ∧ n ≤ l.length
  | m, [], c, n, _, h => by simp [textS] at h
  | 0, _ :: _, c, n, hm, h => by simp at hm
  | m + 1, a :: r, c, n, hm, h => by
    have hm' : r.length ≤ m := by simpa using hm
    rw [textS.eq_def] at h
    simp only [] at h
    split at h
    · split at h
      · rename_i d r'
        split at h
        · rw [Option.map_eq_some_iff] at h
          obtain ⟨⟨c', n'⟩, h1, h2⟩ := h
          obtain ⟨h3, h4⟩ := textS_le m r' c' n' (by simp at hm'; omega) h1
          have : n' + 2 = n := congrArg Prod.snd h2
          simp; omega
        · have : 1 = n := congrArg Prod.snd (Option.some.inj h)
          simp; omega
      · have : 1 = n := congrArg Prod.snd (Option.some.inj h)
        simp; omega
    · split at h
      · cases h
      · rw [Option.map_eq_some_iff] at h
        obtain ⟨⟨c', n'⟩, h1, h2⟩ := h
        obtain ⟨h3, h4⟩ := textS_le m r c' n' hm' h1
        have : n' + 1 = n := congrArg Prod.snd h2
        simp; omega
theorem sound_text (u : ByteArray) (h0 : 0 < u.size) : Sound u (textR u [] 1 (textS ((L8 u).drop 1))) := by
  cases h : textS ((L8 u).drop 1) with
  | none => exact .inl rfl
  | some x =>
    obtain ⟨c, n⟩ := x
    have := textS_le _ _ c n (Nat.le_refl _) h
    rw [List.length_drop, L8_len] at this
    show Sound u (if 40 < ([] : List Int).length + c.length then none8 else (3, u.extract 0 (1 + n), 5, 0, 0, strOfNums ([] ++ c.map fun x => (x.toNat : Int)), 0, ((1 + n : Nat) : Int)))
    split
    · exact sound_none u
    · exact sound_mk u _ _ _ _ _ _ _ (by decide) (by omega) (by omega)
theorem sound_coded (u : ByteArray) : Sound u (codedR u) := by
  unfold codedR
  split
  · exact sound_none u
  · split
    · exact sound_none u
    · split
      · split
        · split
          · exact sound_mk u _ _ _ _ _ _ _ (by decide) (by omega) (by omega)
          · exact sound_none u
        · exact sound_none u
      · split
        · exact sound_none u
        · exact sound_mk u _ _ _ _ _ _ _ (by decide) (by omega) (by omega)
theorem sound_named (u : ByteArray) : Sound u (namedR u) := by
  have hle := headLen_le isNam u
  have h1 : namN u = headLen isNam u := rfl
  unfold namedR
  split
  · exact .inl rfl
  · by_cases h : namN u = 0
    · split
      · exact .inl (by show ((namN u : Nat) : Int) = 0; omega)
      · exact .inl (by show ((namN u : Nat) : Int) = 0; omega)
    · split
      · exact sound_mk u _ _ _ _ _ _ _ (by decide) (by omega) (by omega)
      · exact sound_mk u _ _ _ _ _ _ _ (by decide) (by omega) (by omega)
theorem sound_num (u : ByteArray) (h0 : 0 < u.size) : Sound u (numR u) := by
  have hle := numN_le u (by unfold numAt; split <;> omega)
  unfold numR
  split
  · split
    · exact sound_none u
    · by_cases h : numAt u + numN u = 0
      · exact .inl (by show ((numAt u + numN u : Nat) : Int) = 0; omega)
      · exact sound_mk u _ _ _ _ _ _ _ (by decide) (by omega) (by omega)
  · exact sound_none u
theorem sound_one (u : ByteArray) (h0 : 0 < u.size) : Sound u (oneR u) := by
  unfold oneR
  split
  · exact sound_coded u
  · split
    · exact sound_named u
    · split
      · exact sound_num u h0
      · split
        · exact sound_text u h0
        · split
          · exact sound_mk u 1 _ _ _ _ _ _ (by decide) (by omega) (by omega)
          · exact sound_none u
end Go.Proofs.YtjehfmimbbdnkaaDoor.LexPure
