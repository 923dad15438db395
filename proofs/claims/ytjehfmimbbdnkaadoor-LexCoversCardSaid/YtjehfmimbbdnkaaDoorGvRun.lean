/- How many bytes at a text's beginning are of a kind (lex.run), for the three kinds that the code hands in: digits, hexadecimal digits, what stands in a name. Condition: the text is no longer than a text can be. -/
import Derived.Test.YtjehfmimbbdnkaaDoorProg
import Derived.Test.YtjehfmimbbdnkaaDoorWWords
import Derived.Test.YtjehfmimbbdnkaaDoorWLast
import Derived.WalkKit
import Derived.WalkLawsBesides
import Derived.OwnWalk
import Derived.Lib.Hide
import Derived.Deep.QuietTactic
import Derived.BigQuiet
import Derived.Deep.LoopGhost
namespace Go.Proofs.YtjehfmimbbdnkaaDoor
open Go.RowKit Go.Proofs.YtjehfmimbbdnkaaDoorW.PrintWords Go.Proofs.YtjehfmimbbdnkaaDoorW.PrintLast

def isLow (c : UInt8) : Bool := 97 ≤ c && c ≤ 122
def isDig (c : UInt8) : Bool := 48 ≤ c && c ≤ 57
def isHex (c : UInt8) : Bool := isDig c || (97 ≤ c && c ≤ 102)
def isNam (c : UInt8) : Bool := isLow c || (isDig c || c == 95)
/-- The kinds by the numbers of the functions that tell them. -/
def kindOf : Nat → Option (UInt8 → Bool)
  | 29 => some isDig
  | 43 => some isHex
  | 46 => some isNam
  | _ => none
/-- How many bytes at the beginning are of a kind. -/
def headLen (p : UInt8 → Bool) (s : ByteArray) : Nat := (s.data.toList.takeWhile p).length
def lex_run.f (a0 : ByteArray) (a1 : Nat) : Option Int := if a0.size ≤ 9223372036854775807 then (kindOf a1).map fun p => (headLen p a0 : Int) else none

theorem le_nat (a b : UInt8) : (a ≤ b) ↔ a.toNat ≤ b.toNat := UInt8.le_iff_toNat_le
theorem dec_le (a b : UInt8) (x y : Int) (hx : x = a.toNat) (hy : y = b.toNat) : decide (x ≤ y) = decide (a ≤ b) := by
  rw [decide_eq_decide, le_nat]; omega

set_option maxHeartbeats 400000 in
theorem dig_calls (c : UInt8) (w : World) : Calls Tryd.prog 29 #[.int .u8 c.toNat] w fun e w' => e = .returned (.bool (isDig c)) ∧ w = w' := by
  have h1 := dec_le 48 c 48 c.toNat rfl rfl
  have h2 := dec_le c 57 c.toNat 57 rfl rfl
  have hb : (c.toNat : Int) < 256 := by have := c.toNat_lt; omega
  by_cases k1 : (48 : Int) ≤ c.toNat
  · by_cases k2 : (c.toNat : Int) ≤ 57
    · have hd : isDig c = true := by unfold isDig; rw [← h1, ← h2, decide_eq_true k1, decide_eq_true k2]; rfl
      have HD := Lib.hid hd
      clear h1 h2 hd
      go_enter Tryd.func29, Tryd.ntmps29
      go_wp2
      go_ret
      exact ⟨by rw [HD.out]; rfl, rfl⟩
    · have hd : isDig c = false := by unfold isDig; rw [← h1, ← h2, decide_eq_true k1, decide_eq_false k2]; rfl
      have HD := Lib.hid hd
      clear h1 h2 hd
      go_enter Tryd.func29, Tryd.ntmps29
      go_wp2
      go_ret
      exact ⟨by rw [HD.out]; rfl, rfl⟩
  · have hd : isDig c = false := by unfold isDig; rw [← h1, decide_eq_false k1]; rfl
    have HD := Lib.hid hd
    clear h1 h2 hd
    go_enter Tryd.func29, Tryd.ntmps29
    go_wp2
    go_ret
    exact ⟨by rw [HD.out]; rfl, rfl⟩

set_option maxHeartbeats 400000 in
theorem low_calls (c : UInt8) (w : World) : Calls Tryd.prog 27 #[.int .u8 c.toNat] w fun e w' => e = .returned (.bool (isLow c)) ∧ w = w' := by
  have h1 := dec_le 97 c 97 c.toNat rfl rfl
  have h2 := dec_le c 122 c.toNat 122 rfl rfl
  have hb : (c.toNat : Int) < 256 := by have := c.toNat_lt; omega
  by_cases k1 : (97 : Int) ≤ c.toNat
  · by_cases k2 : (c.toNat : Int) ≤ 122
    · have hd : isLow c = true := by unfold isLow; rw [← h1, ← h2, decide_eq_true k1, decide_eq_true k2]; rfl
      have HD := Lib.hid hd
      clear h1 h2 hd
      go_enter Tryd.func27, Tryd.ntmps27
      go_wp2
      go_ret
      exact ⟨by rw [HD.out]; rfl, rfl⟩
    · have hd : isLow c = false := by unfold isLow; rw [← h1, ← h2, decide_eq_true k1, decide_eq_false k2]; rfl
      have HD := Lib.hid hd
      clear h1 h2 hd
      go_enter Tryd.func27, Tryd.ntmps27
      go_wp2
      go_ret
      exact ⟨by rw [HD.out]; rfl, rfl⟩
  · have hd : isLow c = false := by unfold isLow; rw [← h1, decide_eq_false k1]; rfl
    have HD := Lib.hid hd
    clear h1 h2 hd
    go_enter Tryd.func27, Tryd.ntmps27
    go_wp2
    go_ret
    exact ⟨by rw [HD.out]; rfl, rfl⟩

set_option maxHeartbeats 400000 in
theorem hex_calls (c : UInt8) (w : World) : Calls Tryd.prog 43 #[.int .u8 c.toNat] w fun e w' => e = .returned (.bool (isHex c)) ∧ w = w' := by
  have h1 := dec_le 97 c 97 c.toNat rfl rfl
  have h2 := dec_le c 102 c.toNat 102 rfl rfl
  have hb : (c.toNat : Int) < 256 := by have := c.toNat_lt; omega
  have hc := dig_calls c
  by_cases k0 : isDig c = true
  · have hd : isHex c = true := by unfold isHex; rw [k0]; rfl
    rw [k0] at hc
    have HD := Lib.hid hd
    have HC := Lib.hid hc
    clear h1 h2 hd hc k0
    go_enter Tryd.func43, Tryd.ntmps43
    go_wp2_with (go_at_call 29; refine (HC.out _).mono ?_; rintro e w' ⟨rfl, rfl⟩)
    go_ret
    exact ⟨by rw [HD.out]; rfl, rfl⟩
  · have k0 : isDig c = false := by simpa using k0
    rw [k0] at hc
    have HC := Lib.hid hc
    by_cases k1 : (97 : Int) ≤ c.toNat
    · by_cases k2 : (c.toNat : Int) ≤ 102
      · have hd : isHex c = true := by unfold isHex; rw [k0, ← h1, ← h2, decide_eq_true k1, decide_eq_true k2]; rfl
        have b1 := decide_eq_true k1
        have b2 := decide_eq_true k2
        have HD := Lib.hid hd
        clear h1 h2 hd hc k0
        go_enter Tryd.func43, Tryd.ntmps43
        go_wp2_with (go_at_call 29; refine (HC.out _).mono ?_; rintro e w' ⟨rfl, rfl⟩)
        go_ret
        exact ⟨by rw [HD.out]; rfl, rfl⟩
      · have hd : isHex c = false := by unfold isHex; rw [k0, ← h1, ← h2, decide_eq_true k1, decide_eq_false k2]; rfl
        have b1 := decide_eq_true k1
        have b2 := decide_eq_false k2
        have HD := Lib.hid hd
        clear h1 h2 hd hc k0
        go_enter Tryd.func43, Tryd.ntmps43
        go_wp2_with (go_at_call 29; refine (HC.out _).mono ?_; rintro e w' ⟨rfl, rfl⟩)
        go_ret
        exact ⟨by rw [HD.out]; rfl, rfl⟩
    · have hd : isHex c = false := by unfold isHex; rw [k0, ← h1, decide_eq_false k1]; rfl
      have b1 := decide_eq_false k1
      have HD := Lib.hid hd
      clear h1 h2 hd hc k0
      go_enter Tryd.func43, Tryd.ntmps43
      go_wp2_with (go_at_call 29; refine (HC.out _).mono ?_; rintro e w' ⟨rfl, rfl⟩)
      go_ret
      exact ⟨by rw [HD.out]; rfl, rfl⟩

set_option maxHeartbeats 400000 in
theorem nam_calls (c : UInt8) (w : World) : Calls Tryd.prog 46 #[.int .u8 c.toNat] w fun e w' => e = .returned (.bool (isNam c)) ∧ w = w' := by
  have hl := low_calls c
  have hc := dig_calls c
  have he : (c == 95) = ((c.toNat : Int) == 95) := by
    rw [Bool.eq_iff_iff, beq_iff_eq, beq_iff_eq, ← UInt8.toNat_inj]
    simp
    omega
  have hn : isNam c = (isLow c || (isDig c || ((c.toNat : Int) == 95))) := by unfold isNam; rw [he]
  by_cases k0 : isLow c = true
  · rw [k0] at hl hn
    have HN := Lib.hid hn
    have HL := Lib.hid hl
    clear hl hc he hn k0
    go_enter Tryd.func46, Tryd.ntmps46
    go_wp2_with (go_at_call 27; refine (HL.out _).mono ?_; rintro e w' ⟨rfl, rfl⟩)
    go_ret
    exact ⟨by rw [HN.out]; rfl, rfl⟩
  · have k0 : isLow c = false := by simpa using k0
    rw [k0] at hl hn
    have HL := Lib.hid hl
    by_cases k1 : isDig c = true
    · rw [k1] at hc hn
      have HN := Lib.hid hn
      have HC := Lib.hid hc
      clear hl hc he hn k0 k1
      go_enter Tryd.func46, Tryd.ntmps46
      go_wp2_with (first | (go_at_call 27; refine (HL.out _).mono ?_; rintro e w' ⟨rfl, rfl⟩) | (go_at_call 29; refine (HC.out _).mono ?_; rintro e w' ⟨rfl, rfl⟩))
      go_ret
      exact ⟨by rw [HN.out]; rfl, rfl⟩
    · have k1 : isDig c = false := by simpa using k1
      rw [k1] at hc hn
      have HN := Lib.hid hn
      have HC := Lib.hid hc
      clear hl hc he hn k0 k1
      go_enter Tryd.func46, Tryd.ntmps46
      go_wp2_with (first | (go_at_call 27; refine (HL.out _).mono ?_; rintro e w' ⟨rfl, rfl⟩) | (go_at_call 29; refine (HC.out _).mono ?_; rintro e w' ⟨rfl, rfl⟩))
      go_ret
      exact ⟨by rw [HN.out]; rfl, rfl⟩

theorem takeWhile_all {p : UInt8 → Bool} : ∀ {l : List UInt8}, (∀ c ∈ l, p c = true) → l.takeWhile p = l
  | [], _ => rfl
  | c :: l, h => by
    rw [List.takeWhile_cons, h c List.mem_cons_self]
    simp only [if_true]
    rw [takeWhile_all (fun d hd => h d (List.mem_cons_of_mem _ hd))]
theorem takeWhile_stop {p : UInt8 → Bool} {l r : List UInt8} {c : UInt8} (h : ∀ d ∈ l, p d = true) (hc : p c = false) : (l ++ c :: r).takeWhile p = l := by
  rw [List.takeWhile_append_of_pos h, List.takeWhile_cons, hc]
  simp
theorem cut_at (s : ByteArray) (k : Nat) (hk : k < s.size) : s.data.toList = s.data.toList.take k ++ s[k] :: s.data.toList.drop (k + 1) := by
  have h : s.data.toList.drop k = s[k] :: s.data.toList.drop (k + 1) := List.drop_eq_getElem_cons (by simpa using hk)
  rw [← h]
  exact (List.take_append_drop k _).symm
theorem headLen_at (p : UInt8 → Bool) (s : ByteArray) (k : Nat) (hk : k < s.size) (hall : ∀ c ∈ s.data.toList.take k, p c = true) (hn : p s[k] = false) : headLen p s = k := by
  unfold headLen
  rw [cut_at s k hk, takeWhile_stop hall hn]
  simp
  omega
theorem headLen_all (p : UInt8 → Bool) (s : ByteArray) (hall : ∀ c ∈ s.data.toList, p c = true) : headLen p s = s.size := by
  unfold headLen
  rw [takeWhile_all hall]
  simp
theorem enters {f : FuncId} {fn : Func} {c : Code} (hf : Tryd.prog.funcs[f]? = some fn) (hname : (fn.name == "runtime.NumGoroutine") = false) (hb : fn.body = some c) (args : Array Value) (w : World) :
    (callFunc f args).run Tryd.prog w = .ok (.enter f args) w := by
  have h1 : fn.name ≠ "runtime.NumGoroutine" := by simpa using hname
  simp [callFunc, hf, h1, hb]

set_option maxRecDepth 100000 in
set_option maxHeartbeats 400000 in
/-- What the loop of run comes to: the first place from k on whose byte is not of the kind. -/
theorem run_core (fid : Nat) (p : UInt8 → Bool) (hp : ∀ (c : UInt8) (w : World), Calls Tryd.prog fid #[.int .u8 c.toNat] w fun e w' => e = .returned (.bool (p c)) ∧ w = w') (he : ∀ (args : Array Value) (w : World), (callFunc fid args).run Tryd.prog w = .ok (.enter fid args) w) (s : ByteArray) (hs : s.size ≤ 9223372036854775807) (w : World) :
    Calls Tryd.prog 42 #[.string s, .func (.func fid) #[] #[]] w fun e w' => e = .returned (.int .i64 (headLen p s)) ∧ w = w' := by
  have HP := Lib.hid hp
  have HE := Lib.hid he
  clear hp he
  go_enter Tryd.func42, Tryd.ntmps42
  go_wp2
  go_loop [8] (fun i => ∃ k : Nat, k ≤ s.size ∧ i = .int .i64 k ∧ (∀ c ∈ s.data.toList.take k, p c = true)) (fun i => s.size - (intOf i).toNat)
  case atStart => exact ⟨0, Nat.zero_le _, rfl, by simp⟩
  case round =>
    obtain ⟨k, hk, rfl, hall⟩ := hrel
    have HA := Lib.hid hall
    clear hall
    by_cases hlt : k < s.size
    · cases hpk : p s[k] with
      | true =>
        have hp2 := HP.out s[k]
        rw [hpk] at hp2
        have HQ := Lib.hid hp2
        have HK := Lib.hid hpk
        clear hp2 hpk
        go_wp2_with fail
        rw [HE.out, Oper.upon_enter]
        refine (HQ.out w).mono ?_
        rintro e w' ⟨rfl, rfl⟩
        go_wp2
        go_round
        case rel =>
          refine ⟨k + 1, by omega, by go_num, ?_⟩
          intro c hc
          rw [List.take_succ_eq_append_getElem (by simpa using hlt), List.mem_append] at hc
          rcases hc with hc | hc
          · exact HA.out c hc
          · rw [List.mem_singleton.1 hc]; exact HK.out
        case measure => simp [intOf]; omega
      | false =>
        have hp2 := HP.out s[k]
        rw [hpk] at hp2
        have HQ := Lib.hid hp2
        have HK := Lib.hid hpk
        clear hp2 hpk
        go_wp2_with fail
        rw [HE.out, Oper.upon_enter]
        refine (HQ.out w).mono ?_
        rintro e w' ⟨rfl, rfl⟩
        go_wp2
        go_ret
        refine ⟨?_, rfl⟩
        rw [headLen_at p s k hlt HA.out HK.out]
        rfl
    · go_wp2
      go_ret
      refine ⟨?_, rfl⟩
      rw [headLen_all p s (by have : k = s.size := by omega
                              rw [this, List.take_of_length_le (by simp)] at HA
                              exact HA.out)]
      rfl

theorem lex_run.calls (a0 : ByteArray) (a1 : Nat) (r : Int) (w : World) (h : lex_run.f a0 a1 = some r) :
    Calls Tryd.prog 42 #[.string a0, .func (.func a1) #[] #[]] w fun e w' => e = .returned (.int .i64 r) ∧ Drawn0 w w' := by
  unfold lex_run.f at h
  split at h
  · rename_i hs
    have hk : ∃ p, kindOf a1 = some p ∧ (headLen p a0 : Int) = r := by
      obtain ⟨p, hp, hr⟩ := Option.map_eq_some_iff.1 h
      exact ⟨p, hp, hr⟩
    obtain ⟨p, hp, rfl⟩ := hk
    unfold kindOf at hp
    split at hp
    · obtain rfl := Option.some.inj hp
      refine (run_core _ _ dig_calls (enters Tryd.func29 (by kernel_rfl) rfl) a0 hs w).mono fun e w' ⟨he, hw⟩ => ⟨he, hw ▸ Drawn0.refl _⟩
    · obtain rfl := Option.some.inj hp
      refine (run_core _ _ hex_calls (enters Tryd.func43 (by kernel_rfl) rfl) a0 hs w).mono fun e w' ⟨he, hw⟩ => ⟨he, hw ▸ Drawn0.refl _⟩
    · obtain rfl := Option.some.inj hp
      refine (run_core _ _ nam_calls (enters Tryd.func46 (by kernel_rfl) rfl) a0 hs w).mono fun e w' ⟨he, hw⟩ => ⟨he, hw ▸ Drawn0.refl _⟩
    · cases hp
  · cases h

end Go.Proofs.YtjehfmimbbdnkaaDoor
