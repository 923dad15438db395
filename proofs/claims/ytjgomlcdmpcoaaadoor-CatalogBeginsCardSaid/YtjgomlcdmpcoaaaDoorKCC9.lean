/- Own texts of this session, packed by its program wip/pp/pack.py: lemmas and walks of functions. -/
import Derived.Maps.OwnSet
import Derived.Lib.Hide
import Derived.OneCell
import Derived.Test.YtjgomlcdmpcoaaaDoorKCC3
namespace Go.Proofs.YtjgomlcdmpcoaaaDoor.H
open Go.RowKit Go.Proofs.YtjgomlcdmpcoaaaDoorW.PrintWords Go.Proofs.YtjgomlcdmpcoaaaDoorW.PrintLast Go.Proofs.YtjgomlcdmpcoaaaDoorW.PrintMore
open Go.Maps
set_option linter.unusedVariables false
theorem zero3 (w : World) : (zeroValue 3).run Tryd.prog w = .ok (.int .i64 0) w := by kernel_rfl
def CntM {κ : Type} [DecidableEq κ] (k : TypeId) (lit : κ → Lit) (w : World) (B n : Nat) (l : List κ) : Prop :=
  ∃ D : DataW Unit, w.ownsMap Tryd.prog k (plainElem Tryd.prog 3) B n D ∧ ∀ x, D.atKey (lit x) (.lit (.int .i64 0)) = .lit (.int .i64 (l.count x))
section
variable {κ : Type} [DecidableEq κ] {k : TypeId} {lit : κ → Lit} {w w' : World} {B n : Nat} {l : List κ}
theorem CntM.new (k : TypeId) (lit : κ → Lit) (w : World) : CntM k lit (w.alloc (.map #[] 0)) w.heap.size 0 ([] : List κ) :=
  ⟨_, World.ownsMap_made w Tryd.prog k _, fun x => rfl⟩
theorem CntM.kept (h : CntM k lit w B n l) {row : Option Nat} (hg : w.grownBy w' row) (hne : some B ≠ row) : CntM k lit w' B n l := by
  obtain ⟨D, h1, h2⟩ := h
  exact ⟨D, h1.kept hg hne, h2⟩
theorem CntM.below (h : CntM k lit w B n l) (hb : Below w.heap.size w w') : CntM k lit w' B n l := h.kept (grown_of_below hb none) (by simp)
theorem CntM.snoc {x : κ} (h : CntM k lit w B (l.length + 1) (l ++ [x])) : CntM k lit w B (l ++ [x]).length (l ++ [x]) := by
  rw [List.length_append]
  exact h
theorem CntM.lt (h : CntM k lit w B n l) : B < w.heap.size := by
  obtain ⟨D, h1, _⟩ := h
  exact h1.lt
set_option maxRecDepth 100000 in
theorem CntM.look (h : CntM k lit w B n l) (K : Keyed Tryd.prog k) {t : TypeId} (ht : Tryd.prog.underlying t = some (.map k 3)) {key : Value} {x : κ} (hkey : keyOf Tryd.prog k key = some (lit x)) :
    (Instr.lookup t (.map (some B)) key false).run Tryd.prog w = .ok (.int .i64 (l.count x)) w := by
  obtain ⟨D, h1, h2⟩ := h
  obtain ⟨c, hrun, hat, _⟩ := h1.lookup_int K ht Tryd.underlying3 (zero3 _) hkey
  rw [h2] at hat
  have e : ∀ a b : Int, (DataW.lit (.int .i64 a) : DataW Unit) = .lit (.int .i64 b) → a = b := fun a b q => by
    injection q with q
    injection q with _ q
  rw [hrun, e _ _ hat]
theorem CntM.look0 (h : CntM k lit w B n l) (K : Keyed Tryd.prog k) {t : TypeId} (ht : Tryd.prog.underlying t = some (.map k 3)) {key : Value} {x : κ} (hkey : keyOf Tryd.prog k key = some (lit x)) {c : Int} (hc : (l.count x : Int) = c) :
    (Instr.lookup t (.map (some B)) key false).run Tryd.prog w = .ok (.int .i64 c) w := by rw [← hc]; exact h.look K ht hkey
theorem count_snoc (l : List κ) (x y : κ) : (l ++ [x]).count y = l.count y + if x = y then 1 else 0 := by
  rw [List.count_append, List.count_singleton]
  by_cases h : x = y <;> simp [h]
theorem wpList_count {ops : Array Oper} {rest : List Oper} {o : Oper} {a : Act} {Q : Exit → Act → World → Prop}
    (hg : o.guard = none) (m x v : Operand) (t : TypeId) (hop : o.op = Op.mapUpdate t m x v) (K : Keyed Tryd.prog k) (ht : Tryd.prog.underlying t = some (.map k 3)) (hm : a.eval m = .map (some B)) (h : CntM k lit w B n l) (hn : n < 1000) (hl : l.length ≤ 1000)
    (key : Value) (y : κ) (hx : a.eval x = key) (hkey : keyOf Tryd.prog k key = some (lit y)) (hinj : ∀ z, lit y = lit z → y = z) (hk : WideAt.IsKeyLit (lit y)) (c : Int) (hc : (l.count y : Int) + 1 = c) (hv : a.eval v = .int .i64 c)
    (hK : ∀ w', CntM k lit w' B (n + 1) (l ++ [y]) → w.grownBy w' (some B) → wpList Tryd.prog ops Q rest (a.put o.dst undef) w') :
    wpList Tryd.prog ops Q (o :: rest) a w := by
  obtain ⟨D, h1, h2⟩ := h
  subst hc
  have hc := List.count_le_length (a := y) (l := l)
  refine wpList_mapUpdate_own w hg m x v t hop k 3 K ht _ B n D hm h1 (by unfold maxLen; omega) key _ (lit y) hx hv hkey _ [] (plainElem_int Tryd.underlying3 (WalkArith.wf_i64 (by omega))) (fun w' hown hgrow => hK w' ⟨_, hown, fun z => ?_⟩ hgrow)
  rw [count_snoc]
  by_cases e : y = z
  · subst e
    rw [atKey_put_same (h1.tidy K).isMap hk, if_pos rfl]
    rfl
  · rw [atKey_put_other (fun q => e (hinj z q.symm)), h2, if_neg e, Nat.add_zero]
end
def litI (n : Int) : Lit := .int .i64 n
def litS (s : List UInt8) : Lit := .string s
theorem lawI : Keyed Tryd.prog 3 := int_keyed Tryd.underlying3
theorem lawS : Keyed Tryd.prog 9 := string_keyed Tryd.underlying9
theorem keyI {n : Int} (h0 : -9223372036854775808 ≤ n) (h1 : n < 9223372036854775808) : keyOf Tryd.prog 3 (.int .i64 n) = some (litI n) := keyOf_int_mk Tryd.underlying3 (WalkArith.wf_i64 (by omega))
theorem keyS {s : ByteArray} (h : s.size ≤ maxLen) : keyOf Tryd.prog 9 (.string s) = some (litS s.data.toList) := Go.WideMaps.keyOf_string_mk Tryd.underlying9 h
theorem injI (y : Int) : ∀ z, litI y = litI z → y = z := fun z h => by unfold litI at h; injection h
theorem injS (y : List UInt8) : ∀ z, litS y = litS z → y = z := fun z h => by unfold litS at h; injection h
theorem isI (y : Int) : WideAt.IsKeyLit (litI y) := by unfold litI; trivial
theorem isS (y : List UInt8) : WideAt.IsKeyLit (litS y) := by unfold litS; trivial
theorem count_zero {κ : Type} [DecidableEq κ] {l : List κ} {x : κ} (h : x ∉ l) : l.count x = 0 := List.count_eq_zero.2 h
theorem count_mem {κ : Type} [DecidableEq κ] {l : List κ} {x : κ} (h : x ∈ l) : 0 < l.count x ∧ l.count x ≤ l.length := ⟨List.count_pos_iff.2 h, List.count_le_length⟩
theorem count_none {κ : Type} [DecidableEq κ] [B : BEq κ] [LawfulBEq κ] {l : List κ} {x : κ} (h : @List.contains κ B l x = false) : ((@List.count κ instBEqOfDecidableEq x l : Nat) : Int) = 0 := by
  have hm : x ∉ l := by simpa using h
  have := count_zero hm
  omega
theorem count_some {κ : Type} [DecidableEq κ] [B : BEq κ] [LawfulBEq κ] {l : List κ} {x : κ} (h : @List.contains κ B l x = true) : ∃ c : Int, ((@List.count κ instBEqOfDecidableEq x l : Nat) : Int) = c ∧ 1 ≤ c ∧ c ≤ l.length := by
  have hm : x ∈ l := by simpa using h
  have := count_mem hm
  exact ⟨_, rfl, by omega, by omega⟩
theorem count_one {κ : Type} [DecidableEq κ] {l : List κ} {x : κ} {c : Int} (h : ((@List.count κ instBEqOfDecidableEq x l : Nat) : Int) = c) : ((@List.count κ instBEqOfDecidableEq x (l ++ [x]) : Nat) : Int) = c + 1 := by
  rw [count_snoc, if_pos rfl]
  omega
def fitsB (next : Int) (ids : List Int) (id : Int) : Bool := decide (1 ≤ id) && (decide (id < next) && !ids.contains id)
set_option maxRecDepth 100000 in
set_option maxHeartbeats 4000000 in
theorem fits_calls (id next : Int) (x0 x1 x2 x3 : Value) (BT BI M : Nat) (ids : List Int) (w : World) (hi0 : -9223372036854775808 ≤ id) (hi1 : id < 9223372036854775808)
    (hT : w.heap[BT]? = some (.cells #[x0, x1, x2, x3, .int .i64 next] 70 (0, 0))) (hI : w.heap[BI]? = some (.cells #[.map (some M)] 158 (0, 0))) (hM : CntM 3 litI w M ids.length ids) (hl : ids.length < 100) :
    Calls Tryd.prog 123 #[.int .i64 id, .pointer (some ⟨BI, 0, none⟩), .pointer (some ⟨BT, 0, none⟩)] w
      fun e w' => e = .returned (.bool (fitsB next ids id)) ∧ CntM 3 litI w' M (ids ++ [id]).length (ids ++ [id]) ∧ w.grownBy w' (some M) := by
  have hk := keyI hi0 hi1
  have hcl := List.count_le_length (a := id) (l := ids)
  have k4 : w.cell? ⟨BT, 4, none⟩ = some (.int .i64 next) := by simp [World.cell?, hT]
  have kI := cell_of_one hI
  have hneT : some BT ≠ some M := fun e => by
    injection e with e
    subst e
    obtain ⟨D, ⟨es, cl, hb, _⟩, _⟩ := hM
    rw [hT] at hb
    cases hb
  have hneI : some BI ≠ some M := fun e => by
    injection e with e
    subst e
    obtain ⟨D, ⟨es, cl, hb, _⟩, _⟩ := hM
    rw [hI] at hb
    cases hb
  have lT := lt_of_block hT
  have lI := lt_of_block hI
  have hF : fitsB next ids id = (decide (1 ≤ id) && (decide (id < next) && !ids.contains id)) := rfl
  generalize fitsB next ids id = R at hF ⊢
  have HT := Aside0.mk hT
  have HI := Aside0.mk hI
  have HM := Aside0.mk hM
  have HK := Lib.hid hk
  have HNT := Lib.hid hneT
  have HNI := Lib.hid hneI
  clear hT hI hM hk hneT hneI
  cases hc : ids.contains id with
  | false =>
    have e0 := count_none hc
    have e1 : _ = (1 : Int) := count_one e0
    rw [hc] at hF
    have hrun := HM.out.look0 lawI Tryd.underlying158 HK.out e0
    have E0 := Lib.hid e0
    have E1 := Lib.hid e1
    clear e0 e1 hc
    by_cases h1 : 1 ≤ id
    · have b1 := decide_eq_true h1
      by_cases h2 : id < next
      · have b2 := decide_eq_true h2
        rw [b1, b2] at hF
        have HF := Lib.hid hF
        clear hF
        go_enter Tryd.func123, Tryd.ntmps123
        go_wp2_with (at_mapUpdate; refine wpList_count rfl _ _ _ 158 rfl lawI Tryd.underlying158 rfl HM.out (by omega) (by omega) _ id rfl HK.out (injI id) (isI id) _ (by rw [E0.out] <;> rfl) rfl ?_; intro w1 hm1 hg1; have k4' := (hg1.cell_far ⟨BT, 4, none⟩ lT HNT.out).trans k4; have kI' := (hg1.cell_far ⟨BI, 0, none⟩ lI HNI.out).trans kI; have hrun1 := hm1.look0 lawI Tryd.underlying158 HK.out E1.out; clear hrun; have HM1 := Aside0.mk hm1; have HG1 := Aside0.mk hg1; clear hm1 hg1)
        go_ret
        exact ⟨by rw [HF.out]; rfl, by first | exact HM1.out | (rw [List.length_append]; exact HM1.out), HG1.out⟩
      · have b2 := decide_eq_false h2
        rw [b1, b2] at hF
        have HF := Lib.hid hF
        clear hF
        go_enter Tryd.func123, Tryd.ntmps123
        go_wp2_with (at_mapUpdate; refine wpList_count rfl _ _ _ 158 rfl lawI Tryd.underlying158 rfl HM.out (by omega) (by omega) _ id rfl HK.out (injI id) (isI id) _ (by rw [E0.out] <;> rfl) rfl ?_; intro w1 hm1 hg1; have k4' := (hg1.cell_far ⟨BT, 4, none⟩ lT HNT.out).trans k4; have kI' := (hg1.cell_far ⟨BI, 0, none⟩ lI HNI.out).trans kI; have hrun1 := hm1.look0 lawI Tryd.underlying158 HK.out E1.out; clear hrun; have HM1 := Aside0.mk hm1; have HG1 := Aside0.mk hg1; clear hm1 hg1)
        go_ret
        exact ⟨by rw [HF.out]; rfl, by first | exact HM1.out | (rw [List.length_append]; exact HM1.out), HG1.out⟩
    · have b1 := decide_eq_false h1
      rw [b1] at hF
      have HF := Lib.hid hF
      clear hF
      go_enter Tryd.func123, Tryd.ntmps123
      go_wp2_with (at_mapUpdate; refine wpList_count rfl _ _ _ 158 rfl lawI Tryd.underlying158 rfl HM.out (by omega) (by omega) _ id rfl HK.out (injI id) (isI id) _ (by rw [E0.out] <;> rfl) rfl ?_; intro w1 hm1 hg1; have k4' := (hg1.cell_far ⟨BT, 4, none⟩ lT HNT.out).trans k4; have kI' := (hg1.cell_far ⟨BI, 0, none⟩ lI HNI.out).trans kI; have hrun1 := hm1.look0 lawI Tryd.underlying158 HK.out E1.out; clear hrun; have HM1 := Aside0.mk hm1; have HG1 := Aside0.mk hg1; clear hm1 hg1)
      go_ret
      exact ⟨by rw [HF.out]; rfl, by first | exact HM1.out | (rw [List.length_append]; exact HM1.out), HG1.out⟩
  | true =>
    obtain ⟨c, e0, hc1, hc2'⟩ := count_some hc
    have hc2 : c ≤ 100 := by omega
    have hc3 : ¬ c + 1 = 1 := by omega
    have hc4 : (c + 1 == 1) = false := beq_eq_false_iff_ne.mpr hc3
    have e1 := count_one e0
    rw [hc] at hF
    have hrun := HM.out.look0 lawI Tryd.underlying158 HK.out e0
    have E0 := Lib.hid e0
    have E1 := Lib.hid e1
    clear e0 e1 hc hcl hc3 hc2'
    by_cases h1 : 1 ≤ id
    · have b1 := decide_eq_true h1
      by_cases h2 : id < next
      · have b2 := decide_eq_true h2
        rw [b1, b2] at hF
        have HF := Lib.hid hF
        clear hF
        go_enter Tryd.func123, Tryd.ntmps123
        go_wp2_with (at_mapUpdate; refine wpList_count rfl _ _ _ 158 rfl lawI Tryd.underlying158 rfl HM.out (by omega) (by omega) _ id rfl HK.out (injI id) (isI id) _ (by rw [E0.out] <;> rfl) rfl ?_; intro w1 hm1 hg1; have k4' := (hg1.cell_far ⟨BT, 4, none⟩ lT HNT.out).trans k4; have kI' := (hg1.cell_far ⟨BI, 0, none⟩ lI HNI.out).trans kI; have hrun1 := hm1.look0 lawI Tryd.underlying158 HK.out E1.out; clear hrun; have HM1 := Aside0.mk hm1; have HG1 := Aside0.mk hg1; clear hm1 hg1)
        go_ret
        exact ⟨by rw [HF.out]; rfl, by first | exact HM1.out | (rw [List.length_append]; exact HM1.out), HG1.out⟩
      · have b2 := decide_eq_false h2
        rw [b1, b2] at hF
        have HF := Lib.hid hF
        clear hF
        go_enter Tryd.func123, Tryd.ntmps123
        go_wp2_with (at_mapUpdate; refine wpList_count rfl _ _ _ 158 rfl lawI Tryd.underlying158 rfl HM.out (by omega) (by omega) _ id rfl HK.out (injI id) (isI id) _ (by rw [E0.out] <;> rfl) rfl ?_; intro w1 hm1 hg1; have k4' := (hg1.cell_far ⟨BT, 4, none⟩ lT HNT.out).trans k4; have kI' := (hg1.cell_far ⟨BI, 0, none⟩ lI HNI.out).trans kI; have hrun1 := hm1.look0 lawI Tryd.underlying158 HK.out E1.out; clear hrun; have HM1 := Aside0.mk hm1; have HG1 := Aside0.mk hg1; clear hm1 hg1)
        go_ret
        exact ⟨by rw [HF.out]; rfl, by first | exact HM1.out | (rw [List.length_append]; exact HM1.out), HG1.out⟩
    · have b1 := decide_eq_false h1
      rw [b1] at hF
      have HF := Lib.hid hF
      clear hF
      go_enter Tryd.func123, Tryd.ntmps123
      go_wp2_with (at_mapUpdate; refine wpList_count rfl _ _ _ 158 rfl lawI Tryd.underlying158 rfl HM.out (by omega) (by omega) _ id rfl HK.out (injI id) (isI id) _ (by rw [E0.out] <;> rfl) rfl ?_; intro w1 hm1 hg1; have k4' := (hg1.cell_far ⟨BT, 4, none⟩ lT HNT.out).trans k4; have kI' := (hg1.cell_far ⟨BI, 0, none⟩ lI HNI.out).trans kI; have hrun1 := hm1.look0 lawI Tryd.underlying158 HK.out E1.out; clear hrun; have HM1 := Aside0.mk hm1; have HG1 := Aside0.mk hg1; clear hm1 hg1)
      go_ret
      exact ⟨by rw [HF.out]; rfl, by first | exact HM1.out | (rw [List.length_append]; exact HM1.out), HG1.out⟩
end Go.Proofs.YtjgomlcdmpcoaaaDoor.H
