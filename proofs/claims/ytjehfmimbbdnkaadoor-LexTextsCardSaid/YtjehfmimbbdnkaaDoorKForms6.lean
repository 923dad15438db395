/- Own texts of this session, packed by its program wip/pp/pack.py: lemmas and walks of functions. -/
import Derived.Lib.AtoiErrMem
import Derived.Test.YtjehfmimbbdnkaaDoorKForms2
namespace Go.Proofs.YtjehfmimbbdnkaaDoor
open Go.RowKit Go.Proofs.YtjehfmimbbdnkaaDoorW.PrintWords Go.Proofs.YtjehfmimbbdnkaaDoorW.PrintLast
theorem pint_ok (s : ByteArray) (hs : s.size ≤ 281474976710656) (v : Int) (h : Lib.parseIntB 64 s.data.toList = .ok v) (w : World) :
  Calls Tryd.prog 47 #[.string s, .int .i64 10, .int .i64 64] w fun e w' => e = .returned (.tuple #[.int .i64 v, .nilIface]) ∧ Below w.heap.size w w' := by
 refine (Tryd.strconv_ParseInt_10_at64_ok s (by omega) v h w).mono ?_
 rintro e w' ⟨rfl, hw | ⟨t, hw⟩⟩
 ·exact ⟨rfl, hw ▸ Below.refl _ _⟩
 ·exact ⟨rfl, hw ▸ Lib.bytesWorld_below _ _ _⟩
theorem pint_bad (s : ByteArray) (hs : s.size ≤ 281474976710656) (h : ∀ v, Lib.parseIntB 64 s.data.toList ≠ .ok v) (w : World) (hG : GL w) :
  Calls Tryd.prog 47 #[.string s, .int .i64 10, .int .i64 64] w fun e w' => ∃ v te pe, e = .returned (.tuple #[.int .i64 v, .iface te pe]) ∧ Below w.heap.size w w' := by
 cases hp : Lib.parseIntB 64 s.data.toList with
 | ok v => exact absurd hp (h v)
 | range =>
  obtain ⟨ev, hc, he⟩ := hG.rng
  refine (Tryd.strconv_ParseInt_10_at64_range s hs hp ev w hc he).mono ?_
  rintro e w' ⟨N, rfl, _, _, hb⟩
  exact ⟨_, _, _, rfl, hb⟩
 | _ =>
  obtain ⟨ev, hc, he⟩ := hG.syn
  refine (Tryd.strconv_ParseInt_10_at64_syntax s hs (by rw [hp]; rfl) ev w hc he).mono ?_
  rintro e w' ⟨N, rfl, _, _, hb⟩
  exact ⟨_, _, _, rfl, hb⟩
abbrev Tok8 := Int × ByteArray × Int × Int × Int × ByteArray × Int × Int
def tokNone : Tok8 := (0, ⟨#[]⟩, 0, 0, 0, ⟨#[]⟩, 0, 0)
def tokCells (r : Tok8) : Array Value := #[.int .i64 r.1, .string r.2.1, .int .i64 r.2.2.1, .int .i64 r.2.2.2.1, .int .u64 r.2.2.2.2.1, .string r.2.2.2.2.2.1, .int .i64 r.2.2.2.2.2.2.1]
def tokV (r : Tok8) : Value := .tuple #[.agg (tokCells r), .int .i64 r.2.2.2.2.2.2.2]
def byteAt (s : ByteArray) (k : Nat) : UInt8 := s.data.toList.getD k 0
theorem byteAt_eq (s : ByteArray) (k : Nat) (h : k < s.size) : s[k] = byteAt s k := by
 unfold byteAt
 rw [List.getD_eq_getElem?_getD, List.getElem?_eq_getElem (by simpa using h)]
 rfl
def numAt (s : ByteArray) : Nat := if byteAt s 0 = 45 then 1 else 0
def numN (s : ByteArray) : Nat := headLen isDig (s.extract (numAt s) s.size)
def numBad (s : ByteArray) (at_ n : Nat) : Bool :=
 n == 0 || ((byteAt s at_ == 48 && (decide (1 < n) || at_ == 1)) || (decide (at_ + n < s.size) && (isLow (byteAt s (at_ + n)) || byteAt s (at_ + n) == 95)))
def numR (s : ByteArray) : Tok8 :=
 match Lib.parseIntB 64 (s.extract 0 (numAt s + numN s)).data.toList with
 | .ok v => if numBad s (numAt s) (numN s) = true then tokNone else (3, s.extract 0 (numAt s + numN s), 2, v, 0, ⟨#[]⟩, 0, ((numAt s + numN s : Nat) : Int))
 | _ => tokNone
theorem headLen_le (p : UInt8 → Bool) (s : ByteArray) : headLen p s ≤ s.size := by
 unfold headLen
 have h := (List.takeWhile_prefix p (l := s.data.toList)).length_le
 simpa using h
theorem numN_le (s : ByteArray) (h : numAt s ≤ s.size) : numAt s + numN s ≤ s.size := by
 have h1 := headLen_le isDig (s.extract (numAt s) s.size)
 have h2 : (s.extract (numAt s) s.size).size = s.size - numAt s := by simp
 unfold numN
 omega
theorem ext_at (s : ByteArray) (k : Nat) (h : k < s.size) : byteAt (s.extract k s.size) 0 = byteAt s k := by
 have h1 : 0 < (s.extract k s.size).size := by simp; omega
 rw [← byteAt_eq _ 0 h1, ← byteAt_eq _ k h]
 simp [ByteArray.getElem_extract]
theorem ext_size (s : ByteArray) (k : Nat) : (s.extract k s.size).size = s.size - k := by simp
theorem tok_set {w2 : World} {g : Nat} (hb : w2.heap[g]? = some (.cells #[.int .i64 0, .string ⟨#[]⟩, .int .i64 0, .int .i64 0, .int .u64 0, .string ⟨#[]⟩, .int .i64 0] 39 (0, 0))) (a b c d e f i : Value) :
  ((((((((w2.setCell ⟨g, 0, none⟩ a).setCell ⟨g, 1, none⟩ b).setCell ⟨g, 2, none⟩ c).setCell ⟨g, 3, none⟩ d).setCell ⟨g, 4, none⟩ e).setCell ⟨g, 5, none⟩ f).setCell ⟨g, 6, none⟩ i).heap[g]?) = some (.cells #[a, b, c, d, e, f, i] 39 (0, 0)) :=
 blk_put (blk_put (blk_put (blk_put (blk_put (blk_put (blk_put hb 0 a rfl) 1 b rfl) 2 c rfl) 3 d rfl) 4 e rfl) 5 f rfl) 6 i rfl
theorem tok_below {w w2 : World} (h : Below w.heap.size w w2) (a b c d e f i : Value) : Below w.heap.size w (((((((w2.setCell ⟨w.heap.size, 0, none⟩ a).setCell ⟨w.heap.size, 1, none⟩ b).setCell ⟨w.heap.size, 2, none⟩ c).setCell ⟨w.heap.size, 3, none⟩ d).setCell ⟨w.heap.size, 4, none⟩ e).setCell ⟨w.heap.size, 5, none⟩ f).setCell ⟨w.heap.size, 6, none⟩ i) :=
 below_set (below_set (below_set (below_set (below_set (below_set (below_set h (Nat.le_refl _)) (Nat.le_refl _)) (Nat.le_refl _)) (Nat.le_refl _)) (Nat.le_refl _)) (Nat.le_refl _)) (Nat.le_refl _)
theorem b_eq {x : UInt8} {k : Nat} (hk : k < 256) : ((x.toNat : Int) == (k : Int)) = (x == UInt8.ofNat k) := by
 rw [Bool.eq_iff_iff, beq_iff_eq, beq_iff_eq, ← UInt8.toNat_inj, UInt8.toNat_ofNat', Nat.mod_eq_of_lt hk]
 omega
set_option maxRecDepth 100000 in
set_option maxHeartbeats 4000000 in
theorem num_0_bad1 (s : ByteArray) (hs : s.size ≤ 1000) (h0 : 0 < s.size) (hat : numAt s = 0) (hm : (((s[0]'h0).toNat : Int) == 45) = false) (w : World) (hG : GL w) (n : Nat) (hn : numN s = n) (hle : 0 + n ≤ s.size) (hr : lex_run.f s 29 = some (n : Int)) (hp : ∀ v, Lib.parseIntB 64 (s.extract 0 n).data.toList ≠ .ok v) (b0 : ((n : Int) == 0) = true) :
  Calls Tryd.prog 30 #[.string s] w fun e w' => e = .returned (tokV (numR s)) ∧ Below w.heap.size w w' := by
 have h0i : (0 : Int) < (s.size : Int) := by omega
 have HR := Lib.hid hr
 have hts : (s.extract 0 n).size ≤ 281474976710656 := by simp; omega
 have HTS := Lib.hid hts
 have HG := Lib.hid hG
 rw [Nat.zero_add] at hle
 have hres : numR s = tokNone := by
  unfold numR
  rw [hat, hn]
  rw [Nat.zero_add]
  split
  ·rename_i v hv
   exact absurd hv (hp v)
  ·rfl
 have HRES := Lib.hid hres
 have HP := Lib.hid hp
 clear hr hts hG hn hat hres hp
 go_enter Tryd.func30, Tryd.ntmps30
 go_wp2_with fail
 refine (lex_run.calls _ 29 n _ HR.out).mono ?_
 rintro e w1 ⟨rfl, hd⟩
 obtain ⟨nd, rfl⟩ := hd.out
 clear hd
 go_wp2_with fail
 refine (pint_bad _ HTS.out HP.out _ (HG.out.of_below (pw_below_drewN (below_alloc (Below.refl _ _) _) _))).mono ?_
 rintro e w2 ⟨v, te, pe, rfl, hb2⟩
 have hbk := blk_below (blk_drewN (blk_new w (.cells #[.int .i64 0, .string ⟨#[]⟩, .int .i64 0, .int .i64 0, .int .u64 0, .string ⟨#[]⟩, .int .i64 0] 39)) nd) hb2
 have HB2 := Lib.hid (below_step (pw_below_drewN (below_alloc (Below.refl w.heap.size w) (.cells #[.int .i64 0, .string ⟨#[]⟩, .int .i64 0, .int .i64 0, .int .u64 0, .string ⟨#[]⟩, .int .i64 0] 39)) nd) hb2)
 have c0 : w2.cell? ⟨w.heap.size, 0, none⟩ = some (.int .i64 0) := (blk_cell hbk 0).trans rfl
 have f0 := blk_frozen hbk 0
 have c1 : w2.cell? ⟨w.heap.size, 1, none⟩ = some (.string ⟨#[]⟩) := (blk_cell hbk 1).trans rfl
 have f1 := blk_frozen hbk 1
 have c2 : w2.cell? ⟨w.heap.size, 2, none⟩ = some (.int .i64 0) := (blk_cell hbk 2).trans rfl
 have f2 := blk_frozen hbk 2
 have c3 : w2.cell? ⟨w.heap.size, 3, none⟩ = some (.int .i64 0) := (blk_cell hbk 3).trans rfl
 have f3 := blk_frozen hbk 3
 have c4 : w2.cell? ⟨w.heap.size, 4, none⟩ = some (.int .u64 0) := (blk_cell hbk 4).trans rfl
 have f4 := blk_frozen hbk 4
 have c5 : w2.cell? ⟨w.heap.size, 5, none⟩ = some (.string ⟨#[]⟩) := (blk_cell hbk 5).trans rfl
 have f5 := blk_frozen hbk 5
 have c6 : w2.cell? ⟨w.heap.size, 6, none⟩ = some (.int .i64 0) := (blk_cell hbk 6).trans rfl
 have f6 := blk_frozen hbk 6
 have HBK := Lib.hid hbk
 clear hbk hb2
 go_wp2
 refine bodyPost_ret (results_ct rfl _ _ w.heap.size 39 #[.int .i64 0, .string ⟨#[]⟩, .int .i64 0, .int .i64 0, .int .u64 0, .string ⟨#[]⟩, .int .i64 0] (0, 0) _ rfl (tok_set HBK.out (.int .i64 0) (.string ⟨#[]⟩) (.int .i64 0) (.int .i64 0) (.int .u64 0) (.string ⟨#[]⟩) (.int .i64 0)) Tryd.underlying39 rfl (by kernel_rfl)) rfl ⟨?_, ?_⟩
 ·rw [HRES.out]; rfl
 ·exact tok_below HB2.out _ _ _ _ _ _ _
set_option maxRecDepth 100000 in
set_option maxHeartbeats 4000000 in
theorem num_0_bad0 (s : ByteArray) (hs : s.size ≤ 1000) (h0 : 0 < s.size) (hat : numAt s = 0) (hm : (((s[0]'h0).toNat : Int) == 45) = false) (w : World) (hG : GL w) (n : Nat) (hn : numN s = n) (hle : 0 + n ≤ s.size) (hr : lex_run.f s 29 = some (n : Int)) (hp : ∀ v, Lib.parseIntB 64 (s.extract 0 n).data.toList ≠ .ok v) (b0 : ((n : Int) == 0) = false) :
  Calls Tryd.prog 30 #[.string s] w fun e w' => e = .returned (tokV (numR s)) ∧ Below w.heap.size w w' := by
 have h0i : (0 : Int) < (s.size : Int) := by omega
 have HR := Lib.hid hr
 have hts : (s.extract 0 n).size ≤ 281474976710656 := by simp; omega
 have HTS := Lib.hid hts
 have HG := Lib.hid hG
 rw [Nat.zero_add] at hle
 have hres : numR s = tokNone := by
  unfold numR
  rw [hat, hn]
  rw [Nat.zero_add]
  split
  ·rename_i v hv
   exact absurd hv (hp v)
  ·rfl
 have HRES := Lib.hid hres
 have HP := Lib.hid hp
 clear hr hts hG hn hat hres hp
 go_enter Tryd.func30, Tryd.ntmps30
 go_wp2_with fail
 refine (lex_run.calls _ 29 n _ HR.out).mono ?_
 rintro e w1 ⟨rfl, hd⟩
 obtain ⟨nd, rfl⟩ := hd.out
 clear hd
 go_wp2_with fail
 refine (pint_bad _ HTS.out HP.out _ (HG.out.of_below (pw_below_drewN (below_alloc (Below.refl _ _) _) _))).mono ?_
 rintro e w2 ⟨v, te, pe, rfl, hb2⟩
 have hbk := blk_below (blk_drewN (blk_new w (.cells #[.int .i64 0, .string ⟨#[]⟩, .int .i64 0, .int .i64 0, .int .u64 0, .string ⟨#[]⟩, .int .i64 0] 39)) nd) hb2
 have HB2 := Lib.hid (below_step (pw_below_drewN (below_alloc (Below.refl w.heap.size w) (.cells #[.int .i64 0, .string ⟨#[]⟩, .int .i64 0, .int .i64 0, .int .u64 0, .string ⟨#[]⟩, .int .i64 0] 39)) nd) hb2)
 have c0 : w2.cell? ⟨w.heap.size, 0, none⟩ = some (.int .i64 0) := (blk_cell hbk 0).trans rfl
 have f0 := blk_frozen hbk 0
 have c1 : w2.cell? ⟨w.heap.size, 1, none⟩ = some (.string ⟨#[]⟩) := (blk_cell hbk 1).trans rfl
 have f1 := blk_frozen hbk 1
 have c2 : w2.cell? ⟨w.heap.size, 2, none⟩ = some (.int .i64 0) := (blk_cell hbk 2).trans rfl
 have f2 := blk_frozen hbk 2
 have c3 : w2.cell? ⟨w.heap.size, 3, none⟩ = some (.int .i64 0) := (blk_cell hbk 3).trans rfl
 have f3 := blk_frozen hbk 3
 have c4 : w2.cell? ⟨w.heap.size, 4, none⟩ = some (.int .u64 0) := (blk_cell hbk 4).trans rfl
 have f4 := blk_frozen hbk 4
 have c5 : w2.cell? ⟨w.heap.size, 5, none⟩ = some (.string ⟨#[]⟩) := (blk_cell hbk 5).trans rfl
 have f5 := blk_frozen hbk 5
 have c6 : w2.cell? ⟨w.heap.size, 6, none⟩ = some (.int .i64 0) := (blk_cell hbk 6).trans rfl
 have f6 := blk_frozen hbk 6
 have HBK := Lib.hid hbk
 clear hbk hb2
 go_wp2
 refine bodyPost_ret (results_ct rfl _ _ w.heap.size 39 #[.int .i64 0, .string ⟨#[]⟩, .int .i64 0, .int .i64 0, .int .u64 0, .string ⟨#[]⟩, .int .i64 0] (0, 0) _ rfl (tok_set HBK.out (.int .i64 0) (.string ⟨#[]⟩) (.int .i64 0) (.int .i64 0) (.int .u64 0) (.string ⟨#[]⟩) (.int .i64 0)) Tryd.underlying39 rfl (by kernel_rfl)) rfl ⟨?_, ?_⟩
 ·rw [HRES.out]; rfl
 ·exact tok_below HB2.out _ _ _ _ _ _ _
set_option maxRecDepth 100000 in
set_option maxHeartbeats 4000000 in
theorem num_0_none (s : ByteArray) (hs : s.size ≤ 1000) (h0 : 0 < s.size) (hat : numAt s = 0) (hm : (((s[0]'h0).toNat : Int) == 45) = false) (w : World) (hG : GL w) (n : Nat) (hn : numN s = n) (hle : 0 + n ≤ s.size) (hr : lex_run.f s 29 = some (n : Int)) (v : Int) (hp : Lib.parseIntB 64 (s.extract 0 n).data.toList = .ok v) (b0 : ((n : Int) == 0) = true) (hb : numBad s 0 n = true) :
  Calls Tryd.prog 30 #[.string s] w fun e w' => e = .returned (tokV (numR s)) ∧ Below w.heap.size w w' := by
 have h0i : (0 : Int) < (s.size : Int) := by omega
 have HR := Lib.hid hr
 have hts : (s.extract 0 n).size ≤ 281474976710656 := by simp; omega
 have HTS := Lib.hid hts
 have HG := Lib.hid hG
 rw [Nat.zero_add] at hle
 have hres : numR s = tokNone := by
  unfold numR
  rw [hat, hn]
  rw [Nat.zero_add]
  rw [hp]
  simp only [hb, if_true]
 have HRES := Lib.hid hres
 have HP := Lib.hid hp
 clear hr hts hG hn hat hres hp hb
 go_enter Tryd.func30, Tryd.ntmps30
 go_wp2_with fail
 refine (lex_run.calls _ 29 n _ HR.out).mono ?_
 rintro e w1 ⟨rfl, hd⟩
 obtain ⟨nd, rfl⟩ := hd.out
 clear hd
 go_wp2_with fail
 refine (pint_ok _ HTS.out v HP.out _).mono ?_
 rintro e w2 ⟨rfl, hb2⟩
 have hbk := blk_below (blk_drewN (blk_new w (.cells #[.int .i64 0, .string ⟨#[]⟩, .int .i64 0, .int .i64 0, .int .u64 0, .string ⟨#[]⟩, .int .i64 0] 39)) nd) hb2
 have HB2 := Lib.hid (below_step (pw_below_drewN (below_alloc (Below.refl w.heap.size w) (.cells #[.int .i64 0, .string ⟨#[]⟩, .int .i64 0, .int .i64 0, .int .u64 0, .string ⟨#[]⟩, .int .i64 0] 39)) nd) hb2)
 have c0 : w2.cell? ⟨w.heap.size, 0, none⟩ = some (.int .i64 0) := (blk_cell hbk 0).trans rfl
 have f0 := blk_frozen hbk 0
 have c1 : w2.cell? ⟨w.heap.size, 1, none⟩ = some (.string ⟨#[]⟩) := (blk_cell hbk 1).trans rfl
 have f1 := blk_frozen hbk 1
 have c2 : w2.cell? ⟨w.heap.size, 2, none⟩ = some (.int .i64 0) := (blk_cell hbk 2).trans rfl
 have f2 := blk_frozen hbk 2
 have c3 : w2.cell? ⟨w.heap.size, 3, none⟩ = some (.int .i64 0) := (blk_cell hbk 3).trans rfl
 have f3 := blk_frozen hbk 3
 have c4 : w2.cell? ⟨w.heap.size, 4, none⟩ = some (.int .u64 0) := (blk_cell hbk 4).trans rfl
 have f4 := blk_frozen hbk 4
 have c5 : w2.cell? ⟨w.heap.size, 5, none⟩ = some (.string ⟨#[]⟩) := (blk_cell hbk 5).trans rfl
 have f5 := blk_frozen hbk 5
 have c6 : w2.cell? ⟨w.heap.size, 6, none⟩ = some (.int .i64 0) := (blk_cell hbk 6).trans rfl
 have f6 := blk_frozen hbk 6
 have HBK := Lib.hid hbk
 clear hbk hb2
 go_wp2
 refine bodyPost_ret (results_ct rfl _ _ w.heap.size 39 #[.int .i64 0, .string ⟨#[]⟩, .int .i64 0, .int .i64 0, .int .u64 0, .string ⟨#[]⟩, .int .i64 0] (0, 0) _ rfl (tok_set HBK.out (.int .i64 0) (.string ⟨#[]⟩) (.int .i64 0) (.int .i64 0) (.int .u64 0) (.string ⟨#[]⟩) (.int .i64 0)) Tryd.underlying39 rfl (by kernel_rfl)) rfl ⟨?_, ?_⟩
 ·rw [HRES.out]; rfl
 ·exact tok_below HB2.out _ _ _ _ _ _ _
set_option maxRecDepth 100000 in
set_option maxHeartbeats 4000000 in
theorem num_0_nought (s : ByteArray) (hs : s.size ≤ 1000) (h0 : 0 < s.size) (hat : numAt s = 0) (hm : (((s[0]'h0).toNat : Int) == 45) = false) (w : World) (hG : GL w) (n : Nat) (hn : numN s = n) (hle : 0 + n ≤ s.size) (hr : lex_run.f s 29 = some (n : Int)) (v : Int) (hp : Lib.parseIntB 64 (s.extract 0 n).data.toList = .ok v) (b0 : ((n : Int) == 0) = false) (h1 : 0 < s.size) (b1 : (((s[0]'h1).toNat : Int) == 48) = true) (b2 : decide ((1 : Int) < (n : Int)) = true) (hb : numBad s 0 n = true) :
  Calls Tryd.prog 30 #[.string s] w fun e w' => e = .returned (tokV (numR s)) ∧ Below w.heap.size w w' := by
 have h0i : (0 : Int) < (s.size : Int) := by omega
 have HR := Lib.hid hr
 have hts : (s.extract 0 n).size ≤ 281474976710656 := by simp; omega
 have HTS := Lib.hid hts
 have HG := Lib.hid hG
 rw [Nat.zero_add] at hle
 have h1i : (0 : Int) < (s.size : Int) := by omega
 have hres : numR s = tokNone := by
  unfold numR
  rw [hat, hn]
  rw [Nat.zero_add]
  rw [hp]
  simp only [hb, if_true]
 have HRES := Lib.hid hres
 have HP := Lib.hid hp
 clear hr hts hG hn hat hres hp hb
 go_enter Tryd.func30, Tryd.ntmps30
 go_wp2_with fail
 refine (lex_run.calls _ 29 n _ HR.out).mono ?_
 rintro e w1 ⟨rfl, hd⟩
 obtain ⟨nd, rfl⟩ := hd.out
 clear hd
 go_wp2_with fail
 refine (pint_ok _ HTS.out v HP.out _).mono ?_
 rintro e w2 ⟨rfl, hb2⟩
 have hbk := blk_below (blk_drewN (blk_new w (.cells #[.int .i64 0, .string ⟨#[]⟩, .int .i64 0, .int .i64 0, .int .u64 0, .string ⟨#[]⟩, .int .i64 0] 39)) nd) hb2
 have HB2 := Lib.hid (below_step (pw_below_drewN (below_alloc (Below.refl w.heap.size w) (.cells #[.int .i64 0, .string ⟨#[]⟩, .int .i64 0, .int .i64 0, .int .u64 0, .string ⟨#[]⟩, .int .i64 0] 39)) nd) hb2)
 have c0 : w2.cell? ⟨w.heap.size, 0, none⟩ = some (.int .i64 0) := (blk_cell hbk 0).trans rfl
 have f0 := blk_frozen hbk 0
 have c1 : w2.cell? ⟨w.heap.size, 1, none⟩ = some (.string ⟨#[]⟩) := (blk_cell hbk 1).trans rfl
 have f1 := blk_frozen hbk 1
 have c2 : w2.cell? ⟨w.heap.size, 2, none⟩ = some (.int .i64 0) := (blk_cell hbk 2).trans rfl
 have f2 := blk_frozen hbk 2
 have c3 : w2.cell? ⟨w.heap.size, 3, none⟩ = some (.int .i64 0) := (blk_cell hbk 3).trans rfl
 have f3 := blk_frozen hbk 3
 have c4 : w2.cell? ⟨w.heap.size, 4, none⟩ = some (.int .u64 0) := (blk_cell hbk 4).trans rfl
 have f4 := blk_frozen hbk 4
 have c5 : w2.cell? ⟨w.heap.size, 5, none⟩ = some (.string ⟨#[]⟩) := (blk_cell hbk 5).trans rfl
 have f5 := blk_frozen hbk 5
 have c6 : w2.cell? ⟨w.heap.size, 6, none⟩ = some (.int .i64 0) := (blk_cell hbk 6).trans rfl
 have f6 := blk_frozen hbk 6
 have HBK := Lib.hid hbk
 clear hbk hb2
 go_wp2
 refine bodyPost_ret (results_ct rfl _ _ w.heap.size 39 #[.int .i64 0, .string ⟨#[]⟩, .int .i64 0, .int .i64 0, .int .u64 0, .string ⟨#[]⟩, .int .i64 0] (0, 0) _ rfl (tok_set HBK.out (.int .i64 0) (.string ⟨#[]⟩) (.int .i64 0) (.int .i64 0) (.int .u64 0) (.string ⟨#[]⟩) (.int .i64 0)) Tryd.underlying39 rfl (by kernel_rfl)) rfl ⟨?_, ?_⟩
 ·rw [HRES.out]; rfl
 ·exact tok_below HB2.out _ _ _ _ _ _ _
set_option maxRecDepth 100000 in
set_option maxHeartbeats 4000000 in
theorem num_0_endz (s : ByteArray) (hs : s.size ≤ 1000) (h0 : 0 < s.size) (hat : numAt s = 0) (hm : (((s[0]'h0).toNat : Int) == 45) = false) (w : World) (hG : GL w) (n : Nat) (hn : numN s = n) (hle : 0 + n ≤ s.size) (hr : lex_run.f s 29 = some (n : Int)) (v : Int) (hp : Lib.parseIntB 64 (s.extract 0 n).data.toList = .ok v) (b0 : ((n : Int) == 0) = false) (h1 : 0 < s.size) (b1 : (((s[0]'h1).toNat : Int) == 48) = true) (b2 : decide ((1 : Int) < (n : Int)) = false) (b4 : (s.extract n s.size).toList.isEmpty = true) (b4e : (s.extract n s.size).toList = []) (hb : numBad s 0 n = false) :
  Calls Tryd.prog 30 #[.string s] w fun e w' => e = .returned (tokV (numR s)) ∧ Below w.heap.size w w' := by
 have h0i : (0 : Int) < (s.size : Int) := by omega
 have HR := Lib.hid hr
 have hts : (s.extract 0 n).size ≤ 281474976710656 := by simp; omega
 have HTS := Lib.hid hts
 have HG := Lib.hid hG
 rw [Nat.zero_add] at hle
 have h1i : (0 : Int) < (s.size : Int) := by omega
 have hres : numR s = (3, (s.extract 0 n), 2, v, 0, ⟨#[]⟩, 0, (n : Int)) := by
  unfold numR
  rw [hat, hn]
  rw [Nat.zero_add]
  rw [hp]
  simp only [hb, Bool.false_eq_true, if_false]
 have HE4 := Lib.hid b4e
 clear b4e
 have HRES := Lib.hid hres
 have HP := Lib.hid hp
 clear hr hts hG hn hat hres hp hb
 go_enter Tryd.func30, Tryd.ntmps30
 go_wp2_with fail
 refine (lex_run.calls _ 29 n _ HR.out).mono ?_
 rintro e w1 ⟨rfl, hd⟩
 obtain ⟨nd, rfl⟩ := hd.out
 clear hd
 go_wp2_with fail
 refine (pint_ok _ HTS.out v HP.out _).mono ?_
 rintro e w2 ⟨rfl, hb2⟩
 have hbk := blk_below (blk_drewN (blk_new w (.cells #[.int .i64 0, .string ⟨#[]⟩, .int .i64 0, .int .i64 0, .int .u64 0, .string ⟨#[]⟩, .int .i64 0] 39)) nd) hb2
 have HB2 := Lib.hid (below_step (pw_below_drewN (below_alloc (Below.refl w.heap.size w) (.cells #[.int .i64 0, .string ⟨#[]⟩, .int .i64 0, .int .i64 0, .int .u64 0, .string ⟨#[]⟩, .int .i64 0] 39)) nd) hb2)
 have c0 : w2.cell? ⟨w.heap.size, 0, none⟩ = some (.int .i64 0) := (blk_cell hbk 0).trans rfl
 have f0 := blk_frozen hbk 0
 have c1 : w2.cell? ⟨w.heap.size, 1, none⟩ = some (.string ⟨#[]⟩) := (blk_cell hbk 1).trans rfl
 have f1 := blk_frozen hbk 1
 have c2 : w2.cell? ⟨w.heap.size, 2, none⟩ = some (.int .i64 0) := (blk_cell hbk 2).trans rfl
 have f2 := blk_frozen hbk 2
 have c3 : w2.cell? ⟨w.heap.size, 3, none⟩ = some (.int .i64 0) := (blk_cell hbk 3).trans rfl
 have f3 := blk_frozen hbk 3
 have c4 : w2.cell? ⟨w.heap.size, 4, none⟩ = some (.int .u64 0) := (blk_cell hbk 4).trans rfl
 have f4 := blk_frozen hbk 4
 have c5 : w2.cell? ⟨w.heap.size, 5, none⟩ = some (.string ⟨#[]⟩) := (blk_cell hbk 5).trans rfl
 have f5 := blk_frozen hbk 5
 have c6 : w2.cell? ⟨w.heap.size, 6, none⟩ = some (.int .i64 0) := (blk_cell hbk 6).trans rfl
 have f6 := blk_frozen hbk 6
 have HBK := Lib.hid hbk
 clear hbk hb2
 go_wp2
 refine bodyPost_ret (results_ct rfl _ _ w.heap.size 39 #[.int .i64 3, .string (s.extract 0 n), .int .i64 2, .int .i64 v, .int .u64 0, .string ⟨#[]⟩, .int .i64 0] (0, 0) _ rfl (tok_set HBK.out (.int .i64 3) (.string (s.extract 0 n)) (.int .i64 2) (.int .i64 v) (.int .u64 0) (.string ⟨#[]⟩) (.int .i64 0)) Tryd.underlying39 rfl (by kernel_rfl)) rfl ⟨?_, ?_⟩
 ·rw [HRES.out]; rfl
 ·exact tok_below HB2.out _ _ _ _ _ _ _
set_option maxRecDepth 100000 in
set_option maxHeartbeats 4000000 in
theorem num_0_lowz (s : ByteArray) (hs : s.size ≤ 1000) (h0 : 0 < s.size) (hat : numAt s = 0) (hm : (((s[0]'h0).toNat : Int) == 45) = false) (w : World) (hG : GL w) (n : Nat) (hn : numN s = n) (hle : 0 + n ≤ s.size) (hr : lex_run.f s 29 = some (n : Int)) (v : Int) (hp : Lib.parseIntB 64 (s.extract 0 n).data.toList = .ok v) (b0 : ((n : Int) == 0) = false) (h1 : 0 < s.size) (b1 : (((s[0]'h1).toNat : Int) == 48) = true) (b2 : decide ((1 : Int) < (n : Int)) = false) (hr1 : 0 < (s.extract n s.size).size) (b4 : (s.extract n s.size).toList.isEmpty = false) (b5 : isLow ((s.extract n s.size)[0]'hr1) = true) (hb : numBad s 0 n = true) :
  Calls Tryd.prog 30 #[.string s] w fun e w' => e = .returned (tokV (numR s)) ∧ Below w.heap.size w w' := by
 have h0i : (0 : Int) < (s.size : Int) := by omega
 have HR := Lib.hid hr
 have hts : (s.extract 0 n).size ≤ 281474976710656 := by simp; omega
 have HTS := Lib.hid hts
 have HG := Lib.hid hG
 rw [Nat.zero_add] at hle
 have h1i : (0 : Int) < (s.size : Int) := by omega
 have hri : (0 : Int) < ((s.extract n s.size).size : Int) := by omega
 have hrn : 0 < s.size - n := by rw [ByteArray.size_extract] at hr1; omega
 have HL := low_calls ((s.extract n s.size)[0]'hr1)
 rw [b5] at HL
 have HLL := Lib.hid HL
 have hres : numR s = tokNone := by
  unfold numR
  rw [hat, hn]
  rw [Nat.zero_add]
  rw [hp]
  simp only [hb, if_true]
 have HRES := Lib.hid hres
 have HP := Lib.hid hp
 clear hr hts hG hn hat hres hp hb HL b5
 go_enter Tryd.func30, Tryd.ntmps30
 go_wp2_with fail
 refine (lex_run.calls _ 29 n _ HR.out).mono ?_
 rintro e w1 ⟨rfl, hd⟩
 obtain ⟨nd, rfl⟩ := hd.out
 clear hd
 go_wp2_with fail
 refine (pint_ok _ HTS.out v HP.out _).mono ?_
 rintro e w2 ⟨rfl, hb2⟩
 have hbk := blk_below (blk_drewN (blk_new w (.cells #[.int .i64 0, .string ⟨#[]⟩, .int .i64 0, .int .i64 0, .int .u64 0, .string ⟨#[]⟩, .int .i64 0] 39)) nd) hb2
 have HB2 := Lib.hid (below_step (pw_below_drewN (below_alloc (Below.refl w.heap.size w) (.cells #[.int .i64 0, .string ⟨#[]⟩, .int .i64 0, .int .i64 0, .int .u64 0, .string ⟨#[]⟩, .int .i64 0] 39)) nd) hb2)
 have c0 : w2.cell? ⟨w.heap.size, 0, none⟩ = some (.int .i64 0) := (blk_cell hbk 0).trans rfl
 have f0 := blk_frozen hbk 0
 have c1 : w2.cell? ⟨w.heap.size, 1, none⟩ = some (.string ⟨#[]⟩) := (blk_cell hbk 1).trans rfl
 have f1 := blk_frozen hbk 1
 have c2 : w2.cell? ⟨w.heap.size, 2, none⟩ = some (.int .i64 0) := (blk_cell hbk 2).trans rfl
 have f2 := blk_frozen hbk 2
 have c3 : w2.cell? ⟨w.heap.size, 3, none⟩ = some (.int .i64 0) := (blk_cell hbk 3).trans rfl
 have f3 := blk_frozen hbk 3
 have c4 : w2.cell? ⟨w.heap.size, 4, none⟩ = some (.int .u64 0) := (blk_cell hbk 4).trans rfl
 have f4 := blk_frozen hbk 4
 have c5 : w2.cell? ⟨w.heap.size, 5, none⟩ = some (.string ⟨#[]⟩) := (blk_cell hbk 5).trans rfl
 have f5 := blk_frozen hbk 5
 have c6 : w2.cell? ⟨w.heap.size, 6, none⟩ = some (.int .i64 0) := (blk_cell hbk 6).trans rfl
 have f6 := blk_frozen hbk 6
 have HBK := Lib.hid hbk
 clear hbk hb2
 go_wp2_with (go_at_call 27; refine (HLL.out _).mono ?_; rintro e w3 ⟨rfl, rfl⟩)
 refine bodyPost_ret (results_ct rfl _ _ w.heap.size 39 #[.int .i64 0, .string ⟨#[]⟩, .int .i64 0, .int .i64 0, .int .u64 0, .string ⟨#[]⟩, .int .i64 0] (0, 0) _ rfl (tok_set HBK.out (.int .i64 0) (.string ⟨#[]⟩) (.int .i64 0) (.int .i64 0) (.int .u64 0) (.string ⟨#[]⟩) (.int .i64 0)) Tryd.underlying39 rfl (by kernel_rfl)) rfl ⟨?_, ?_⟩
 ·rw [HRES.out]; rfl
 ·exact tok_below HB2.out _ _ _ _ _ _ _
set_option maxRecDepth 100000 in
set_option maxHeartbeats 4000000 in
theorem num_0_undz (s : ByteArray) (hs : s.size ≤ 1000) (h0 : 0 < s.size) (hat : numAt s = 0) (hm : (((s[0]'h0).toNat : Int) == 45) = false) (w : World) (hG : GL w) (n : Nat) (hn : numN s = n) (hle : 0 + n ≤ s.size) (hr : lex_run.f s 29 = some (n : Int)) (v : Int) (hp : Lib.parseIntB 64 (s.extract 0 n).data.toList = .ok v) (b0 : ((n : Int) == 0) = false) (h1 : 0 < s.size) (b1 : (((s[0]'h1).toNat : Int) == 48) = true) (b2 : decide ((1 : Int) < (n : Int)) = false) (hr1 : 0 < (s.extract n s.size).size) (b4 : (s.extract n s.size).toList.isEmpty = false) (b5 : isLow ((s.extract n s.size)[0]'hr1) = false) (b6 : ((((s.extract n s.size)[0]'hr1).toNat : Int) == 95) = true) (hb : numBad s 0 n = true) :
  Calls Tryd.prog 30 #[.string s] w fun e w' => e = .returned (tokV (numR s)) ∧ Below w.heap.size w w' := by
 have h0i : (0 : Int) < (s.size : Int) := by omega
 have HR := Lib.hid hr
 have hts : (s.extract 0 n).size ≤ 281474976710656 := by simp; omega
 have HTS := Lib.hid hts
 have HG := Lib.hid hG
 rw [Nat.zero_add] at hle
 have h1i : (0 : Int) < (s.size : Int) := by omega
 have hri : (0 : Int) < ((s.extract n s.size).size : Int) := by omega
 have hrn : 0 < s.size - n := by rw [ByteArray.size_extract] at hr1; omega
 have HL := low_calls ((s.extract n s.size)[0]'hr1)
 rw [b5] at HL
 have HLL := Lib.hid HL
 have hres : numR s = tokNone := by
  unfold numR
  rw [hat, hn]
  rw [Nat.zero_add]
  rw [hp]
  simp only [hb, if_true]
 have HRES := Lib.hid hres
 have HP := Lib.hid hp
 clear hr hts hG hn hat hres hp hb HL b5
 go_enter Tryd.func30, Tryd.ntmps30
 go_wp2_with fail
 refine (lex_run.calls _ 29 n _ HR.out).mono ?_
 rintro e w1 ⟨rfl, hd⟩
 obtain ⟨nd, rfl⟩ := hd.out
 clear hd
 go_wp2_with fail
 refine (pint_ok _ HTS.out v HP.out _).mono ?_
 rintro e w2 ⟨rfl, hb2⟩
 have hbk := blk_below (blk_drewN (blk_new w (.cells #[.int .i64 0, .string ⟨#[]⟩, .int .i64 0, .int .i64 0, .int .u64 0, .string ⟨#[]⟩, .int .i64 0] 39)) nd) hb2
 have HB2 := Lib.hid (below_step (pw_below_drewN (below_alloc (Below.refl w.heap.size w) (.cells #[.int .i64 0, .string ⟨#[]⟩, .int .i64 0, .int .i64 0, .int .u64 0, .string ⟨#[]⟩, .int .i64 0] 39)) nd) hb2)
 have c0 : w2.cell? ⟨w.heap.size, 0, none⟩ = some (.int .i64 0) := (blk_cell hbk 0).trans rfl
 have f0 := blk_frozen hbk 0
 have c1 : w2.cell? ⟨w.heap.size, 1, none⟩ = some (.string ⟨#[]⟩) := (blk_cell hbk 1).trans rfl
 have f1 := blk_frozen hbk 1
 have c2 : w2.cell? ⟨w.heap.size, 2, none⟩ = some (.int .i64 0) := (blk_cell hbk 2).trans rfl
 have f2 := blk_frozen hbk 2
 have c3 : w2.cell? ⟨w.heap.size, 3, none⟩ = some (.int .i64 0) := (blk_cell hbk 3).trans rfl
 have f3 := blk_frozen hbk 3
 have c4 : w2.cell? ⟨w.heap.size, 4, none⟩ = some (.int .u64 0) := (blk_cell hbk 4).trans rfl
 have f4 := blk_frozen hbk 4
 have c5 : w2.cell? ⟨w.heap.size, 5, none⟩ = some (.string ⟨#[]⟩) := (blk_cell hbk 5).trans rfl
 have f5 := blk_frozen hbk 5
 have c6 : w2.cell? ⟨w.heap.size, 6, none⟩ = some (.int .i64 0) := (blk_cell hbk 6).trans rfl
 have f6 := blk_frozen hbk 6
 have HBK := Lib.hid hbk
 clear hbk hb2
 go_wp2_with (go_at_call 27; refine (HLL.out _).mono ?_; rintro e w3 ⟨rfl, rfl⟩)
 refine bodyPost_ret (results_ct rfl _ _ w.heap.size 39 #[.int .i64 0, .string ⟨#[]⟩, .int .i64 0, .int .i64 0, .int .u64 0, .string ⟨#[]⟩, .int .i64 0] (0, 0) _ rfl (tok_set HBK.out (.int .i64 0) (.string ⟨#[]⟩) (.int .i64 0) (.int .i64 0) (.int .u64 0) (.string ⟨#[]⟩) (.int .i64 0)) Tryd.underlying39 rfl (by kernel_rfl)) rfl ⟨?_, ?_⟩
 ·rw [HRES.out]; rfl
 ·exact tok_below HB2.out _ _ _ _ _ _ _
set_option maxRecDepth 100000 in
set_option maxHeartbeats 4000000 in
theorem num_0_yesz (s : ByteArray) (hs : s.size ≤ 1000) (h0 : 0 < s.size) (hat : numAt s = 0) (hm : (((s[0]'h0).toNat : Int) == 45) = false) (w : World) (hG : GL w) (n : Nat) (hn : numN s = n) (hle : 0 + n ≤ s.size) (hr : lex_run.f s 29 = some (n : Int)) (v : Int) (hp : Lib.parseIntB 64 (s.extract 0 n).data.toList = .ok v) (b0 : ((n : Int) == 0) = false) (h1 : 0 < s.size) (b1 : (((s[0]'h1).toNat : Int) == 48) = true) (b2 : decide ((1 : Int) < (n : Int)) = false) (hr1 : 0 < (s.extract n s.size).size) (b4 : (s.extract n s.size).toList.isEmpty = false) (b5 : isLow ((s.extract n s.size)[0]'hr1) = false) (b6 : ((((s.extract n s.size)[0]'hr1).toNat : Int) == 95) = false) (hb : numBad s 0 n = false) :
  Calls Tryd.prog 30 #[.string s] w fun e w' => e = .returned (tokV (numR s)) ∧ Below w.heap.size w w' := by
 have h0i : (0 : Int) < (s.size : Int) := by omega
 have HR := Lib.hid hr
 have hts : (s.extract 0 n).size ≤ 281474976710656 := by simp; omega
 have HTS := Lib.hid hts
 have HG := Lib.hid hG
 rw [Nat.zero_add] at hle
 have h1i : (0 : Int) < (s.size : Int) := by omega
 have hri : (0 : Int) < ((s.extract n s.size).size : Int) := by omega
 have hrn : 0 < s.size - n := by rw [ByteArray.size_extract] at hr1; omega
 have HL := low_calls ((s.extract n s.size)[0]'hr1)
 rw [b5] at HL
 have HLL := Lib.hid HL
 have hres : numR s = (3, (s.extract 0 n), 2, v, 0, ⟨#[]⟩, 0, (n : Int)) := by
  unfold numR
  rw [hat, hn]
  rw [Nat.zero_add]
  rw [hp]
  simp only [hb, Bool.false_eq_true, if_false]
 have HRES := Lib.hid hres
 have HP := Lib.hid hp
 clear hr hts hG hn hat hres hp hb HL b5
 go_enter Tryd.func30, Tryd.ntmps30
 go_wp2_with fail
 refine (lex_run.calls _ 29 n _ HR.out).mono ?_
 rintro e w1 ⟨rfl, hd⟩
 obtain ⟨nd, rfl⟩ := hd.out
 clear hd
 go_wp2_with fail
 refine (pint_ok _ HTS.out v HP.out _).mono ?_
 rintro e w2 ⟨rfl, hb2⟩
 have hbk := blk_below (blk_drewN (blk_new w (.cells #[.int .i64 0, .string ⟨#[]⟩, .int .i64 0, .int .i64 0, .int .u64 0, .string ⟨#[]⟩, .int .i64 0] 39)) nd) hb2
 have HB2 := Lib.hid (below_step (pw_below_drewN (below_alloc (Below.refl w.heap.size w) (.cells #[.int .i64 0, .string ⟨#[]⟩, .int .i64 0, .int .i64 0, .int .u64 0, .string ⟨#[]⟩, .int .i64 0] 39)) nd) hb2)
 have c0 : w2.cell? ⟨w.heap.size, 0, none⟩ = some (.int .i64 0) := (blk_cell hbk 0).trans rfl
 have f0 := blk_frozen hbk 0
 have c1 : w2.cell? ⟨w.heap.size, 1, none⟩ = some (.string ⟨#[]⟩) := (blk_cell hbk 1).trans rfl
 have f1 := blk_frozen hbk 1
 have c2 : w2.cell? ⟨w.heap.size, 2, none⟩ = some (.int .i64 0) := (blk_cell hbk 2).trans rfl
 have f2 := blk_frozen hbk 2
 have c3 : w2.cell? ⟨w.heap.size, 3, none⟩ = some (.int .i64 0) := (blk_cell hbk 3).trans rfl
 have f3 := blk_frozen hbk 3
 have c4 : w2.cell? ⟨w.heap.size, 4, none⟩ = some (.int .u64 0) := (blk_cell hbk 4).trans rfl
 have f4 := blk_frozen hbk 4
 have c5 : w2.cell? ⟨w.heap.size, 5, none⟩ = some (.string ⟨#[]⟩) := (blk_cell hbk 5).trans rfl
 have f5 := blk_frozen hbk 5
 have c6 : w2.cell? ⟨w.heap.size, 6, none⟩ = some (.int .i64 0) := (blk_cell hbk 6).trans rfl
 have f6 := blk_frozen hbk 6
 have HBK := Lib.hid hbk
 clear hbk hb2
 go_wp2_with (go_at_call 27; refine (HLL.out _).mono ?_; rintro e w3 ⟨rfl, rfl⟩)
 refine bodyPost_ret (results_ct rfl _ _ w.heap.size 39 #[.int .i64 3, .string (s.extract 0 n), .int .i64 2, .int .i64 v, .int .u64 0, .string ⟨#[]⟩, .int .i64 0] (0, 0) _ rfl (tok_set HBK.out (.int .i64 3) (.string (s.extract 0 n)) (.int .i64 2) (.int .i64 v) (.int .u64 0) (.string ⟨#[]⟩) (.int .i64 0)) Tryd.underlying39 rfl (by kernel_rfl)) rfl ⟨?_, ?_⟩
 ·rw [HRES.out]; rfl
 ·exact tok_below HB2.out _ _ _ _ _ _ _
set_option maxRecDepth 100000 in
set_option maxHeartbeats 4000000 in
theorem num_0_endd (s : ByteArray) (hs : s.size ≤ 1000) (h0 : 0 < s.size) (hat : numAt s = 0) (hm : (((s[0]'h0).toNat : Int) == 45) = false) (w : World) (hG : GL w) (n : Nat) (hn : numN s = n) (hle : 0 + n ≤ s.size) (hr : lex_run.f s 29 = some (n : Int)) (v : Int) (hp : Lib.parseIntB 64 (s.extract 0 n).data.toList = .ok v) (b0 : ((n : Int) == 0) = false) (h1 : 0 < s.size) (b1 : (((s[0]'h1).toNat : Int) == 48) = false) (b4 : (s.extract n s.size).toList.isEmpty = true) (b4e : (s.extract n s.size).toList = []) (hb : numBad s 0 n = false) :
  Calls Tryd.prog 30 #[.string s] w fun e w' => e = .returned (tokV (numR s)) ∧ Below w.heap.size w w' := by
 have h0i : (0 : Int) < (s.size : Int) := by omega
 have HR := Lib.hid hr
 have hts : (s.extract 0 n).size ≤ 281474976710656 := by simp; omega
 have HTS := Lib.hid hts
 have HG := Lib.hid hG
 rw [Nat.zero_add] at hle
 have h1i : (0 : Int) < (s.size : Int) := by omega
 have hres : numR s = (3, (s.extract 0 n), 2, v, 0, ⟨#[]⟩, 0, (n : Int)) := by
  unfold numR
  rw [hat, hn]
  rw [Nat.zero_add]
  rw [hp]
  simp only [hb, Bool.false_eq_true, if_false]
 have HE4 := Lib.hid b4e
 clear b4e
 have HRES := Lib.hid hres
 have HP := Lib.hid hp
 clear hr hts hG hn hat hres hp hb
 go_enter Tryd.func30, Tryd.ntmps30
 go_wp2_with fail
 refine (lex_run.calls _ 29 n _ HR.out).mono ?_
 rintro e w1 ⟨rfl, hd⟩
 obtain ⟨nd, rfl⟩ := hd.out
 clear hd
 go_wp2_with fail
 refine (pint_ok _ HTS.out v HP.out _).mono ?_
 rintro e w2 ⟨rfl, hb2⟩
 have hbk := blk_below (blk_drewN (blk_new w (.cells #[.int .i64 0, .string ⟨#[]⟩, .int .i64 0, .int .i64 0, .int .u64 0, .string ⟨#[]⟩, .int .i64 0] 39)) nd) hb2
 have HB2 := Lib.hid (below_step (pw_below_drewN (below_alloc (Below.refl w.heap.size w) (.cells #[.int .i64 0, .string ⟨#[]⟩, .int .i64 0, .int .i64 0, .int .u64 0, .string ⟨#[]⟩, .int .i64 0] 39)) nd) hb2)
 have c0 : w2.cell? ⟨w.heap.size, 0, none⟩ = some (.int .i64 0) := (blk_cell hbk 0).trans rfl
 have f0 := blk_frozen hbk 0
 have c1 : w2.cell? ⟨w.heap.size, 1, none⟩ = some (.string ⟨#[]⟩) := (blk_cell hbk 1).trans rfl
 have f1 := blk_frozen hbk 1
 have c2 : w2.cell? ⟨w.heap.size, 2, none⟩ = some (.int .i64 0) := (blk_cell hbk 2).trans rfl
 have f2 := blk_frozen hbk 2
 have c3 : w2.cell? ⟨w.heap.size, 3, none⟩ = some (.int .i64 0) := (blk_cell hbk 3).trans rfl
 have f3 := blk_frozen hbk 3
 have c4 : w2.cell? ⟨w.heap.size, 4, none⟩ = some (.int .u64 0) := (blk_cell hbk 4).trans rfl
 have f4 := blk_frozen hbk 4
 have c5 : w2.cell? ⟨w.heap.size, 5, none⟩ = some (.string ⟨#[]⟩) := (blk_cell hbk 5).trans rfl
 have f5 := blk_frozen hbk 5
 have c6 : w2.cell? ⟨w.heap.size, 6, none⟩ = some (.int .i64 0) := (blk_cell hbk 6).trans rfl
 have f6 := blk_frozen hbk 6
 have HBK := Lib.hid hbk
 clear hbk hb2
 go_wp2
 refine bodyPost_ret (results_ct rfl _ _ w.heap.size 39 #[.int .i64 3, .string (s.extract 0 n), .int .i64 2, .int .i64 v, .int .u64 0, .string ⟨#[]⟩, .int .i64 0] (0, 0) _ rfl (tok_set HBK.out (.int .i64 3) (.string (s.extract 0 n)) (.int .i64 2) (.int .i64 v) (.int .u64 0) (.string ⟨#[]⟩) (.int .i64 0)) Tryd.underlying39 rfl (by kernel_rfl)) rfl ⟨?_, ?_⟩
 ·rw [HRES.out]; rfl
 ·exact tok_below HB2.out _ _ _ _ _ _ _
set_option maxRecDepth 100000 in
set_option maxHeartbeats 4000000 in
theorem num_0_lowd (s : ByteArray) (hs : s.size ≤ 1000) (h0 : 0 < s.size) (hat : numAt s = 0) (hm : (((s[0]'h0).toNat : Int) == 45) = false) (w : World) (hG : GL w) (n : Nat) (hn : numN s = n) (hle : 0 + n ≤ s.size) (hr : lex_run.f s 29 = some (n : Int)) (v : Int) (hp : Lib.parseIntB 64 (s.extract 0 n).data.toList = .ok v) (b0 : ((n : Int) == 0) = false) (h1 : 0 < s.size) (b1 : (((s[0]'h1).toNat : Int) == 48) = false) (hr1 : 0 < (s.extract n s.size).size) (b4 : (s.extract n s.size).toList.isEmpty = false) (b5 : isLow ((s.extract n s.size)[0]'hr1) = true) (hb : numBad s 0 n = true) :
  Calls Tryd.prog 30 #[.string s] w fun e w' => e = .returned (tokV (numR s)) ∧ Below w.heap.size w w' := by
 have h0i : (0 : Int) < (s.size : Int) := by omega
 have HR := Lib.hid hr
 have hts : (s.extract 0 n).size ≤ 281474976710656 := by simp; omega
 have HTS := Lib.hid hts
 have HG := Lib.hid hG
 rw [Nat.zero_add] at hle
 have h1i : (0 : Int) < (s.size : Int) := by omega
 have hri : (0 : Int) < ((s.extract n s.size).size : Int) := by omega
 have hrn : 0 < s.size - n := by rw [ByteArray.size_extract] at hr1; omega
 have HL := low_calls ((s.extract n s.size)[0]'hr1)
 rw [b5] at HL
 have HLL := Lib.hid HL
 have hres : numR s = tokNone := by
  unfold numR
  rw [hat, hn]
  rw [Nat.zero_add]
  rw [hp]
  simp only [hb, if_true]
 have HRES := Lib.hid hres
 have HP := Lib.hid hp
 clear hr hts hG hn hat hres hp hb HL b5
 go_enter Tryd.func30, Tryd.ntmps30
 go_wp2_with fail
 refine (lex_run.calls _ 29 n _ HR.out).mono ?_
 rintro e w1 ⟨rfl, hd⟩
 obtain ⟨nd, rfl⟩ := hd.out
 clear hd
 go_wp2_with fail
 refine (pint_ok _ HTS.out v HP.out _).mono ?_
 rintro e w2 ⟨rfl, hb2⟩
 have hbk := blk_below (blk_drewN (blk_new w (.cells #[.int .i64 0, .string ⟨#[]⟩, .int .i64 0, .int .i64 0, .int .u64 0, .string ⟨#[]⟩, .int .i64 0] 39)) nd) hb2
 have HB2 := Lib.hid (below_step (pw_below_drewN (below_alloc (Below.refl w.heap.size w) (.cells #[.int .i64 0, .string ⟨#[]⟩, .int .i64 0, .int .i64 0, .int .u64 0, .string ⟨#[]⟩, .int .i64 0] 39)) nd) hb2)
 have c0 : w2.cell? ⟨w.heap.size, 0, none⟩ = some (.int .i64 0) := (blk_cell hbk 0).trans rfl
 have f0 := blk_frozen hbk 0
 have c1 : w2.cell? ⟨w.heap.size, 1, none⟩ = some (.string ⟨#[]⟩) := (blk_cell hbk 1).trans rfl
 have f1 := blk_frozen hbk 1
 have c2 : w2.cell? ⟨w.heap.size, 2, none⟩ = some (.int .i64 0) := (blk_cell hbk 2).trans rfl
 have f2 := blk_frozen hbk 2
 have c3 : w2.cell? ⟨w.heap.size, 3, none⟩ = some (.int .i64 0) := (blk_cell hbk 3).trans rfl
 have f3 := blk_frozen hbk 3
 have c4 : w2.cell? ⟨w.heap.size, 4, none⟩ = some (.int .u64 0) := (blk_cell hbk 4).trans rfl
 have f4 := blk_frozen hbk 4
 have c5 : w2.cell? ⟨w.heap.size, 5, none⟩ = some (.string ⟨#[]⟩) := (blk_cell hbk 5).trans rfl
 have f5 := blk_frozen hbk 5
 have c6 : w2.cell? ⟨w.heap.size, 6, none⟩ = some (.int .i64 0) := (blk_cell hbk 6).trans rfl
 have f6 := blk_frozen hbk 6
 have HBK := Lib.hid hbk
 clear hbk hb2
 go_wp2_with (go_at_call 27; refine (HLL.out _).mono ?_; rintro e w3 ⟨rfl, rfl⟩)
 refine bodyPost_ret (results_ct rfl _ _ w.heap.size 39 #[.int .i64 0, .string ⟨#[]⟩, .int .i64 0, .int .i64 0, .int .u64 0, .string ⟨#[]⟩, .int .i64 0] (0, 0) _ rfl (tok_set HBK.out (.int .i64 0) (.string ⟨#[]⟩) (.int .i64 0) (.int .i64 0) (.int .u64 0) (.string ⟨#[]⟩) (.int .i64 0)) Tryd.underlying39 rfl (by kernel_rfl)) rfl ⟨?_, ?_⟩
 ·rw [HRES.out]; rfl
 ·exact tok_below HB2.out _ _ _ _ _ _ _
set_option maxRecDepth 100000 in
set_option maxHeartbeats 4000000 in
theorem num_0_undd (s : ByteArray) (hs : s.size ≤ 1000) (h0 : 0 < s.size) (hat : numAt s = 0) (hm : (((s[0]'h0).toNat : Int) == 45) = false) (w : World) (hG : GL w) (n : Nat) (hn : numN s = n) (hle : 0 + n ≤ s.size) (hr : lex_run.f s 29 = some (n : Int)) (v : Int) (hp : Lib.parseIntB 64 (s.extract 0 n).data.toList = .ok v) (b0 : ((n : Int) == 0) = false) (h1 : 0 < s.size) (b1 : (((s[0]'h1).toNat : Int) == 48) = false) (hr1 : 0 < (s.extract n s.size).size) (b4 : (s.extract n s.size).toList.isEmpty = false) (b5 : isLow ((s.extract n s.size)[0]'hr1) = false) (b6 : ((((s.extract n s.size)[0]'hr1).toNat : Int) == 95) = true) (hb : numBad s 0 n = true) :
  Calls Tryd.prog 30 #[.string s] w fun e w' => e = .returned (tokV (numR s)) ∧ Below w.heap.size w w' := by
 have h0i : (0 : Int) < (s.size : Int) := by omega
 have HR := Lib.hid hr
 have hts : (s.extract 0 n).size ≤ 281474976710656 := by simp; omega
 have HTS := Lib.hid hts
 have HG := Lib.hid hG
 rw [Nat.zero_add] at hle
 have h1i : (0 : Int) < (s.size : Int) := by omega
 have hri : (0 : Int) < ((s.extract n s.size).size : Int) := by omega
 have hrn : 0 < s.size - n := by rw [ByteArray.size_extract] at hr1; omega
 have HL := low_calls ((s.extract n s.size)[0]'hr1)
 rw [b5] at HL
 have HLL := Lib.hid HL
 have hres : numR s = tokNone := by
  unfold numR
  rw [hat, hn]
  rw [Nat.zero_add]
  rw [hp]
  simp only [hb, if_true]
 have HRES := Lib.hid hres
 have HP := Lib.hid hp
 clear hr hts hG hn hat hres hp hb HL b5
 go_enter Tryd.func30, Tryd.ntmps30
 go_wp2_with fail
 refine (lex_run.calls _ 29 n _ HR.out).mono ?_
 rintro e w1 ⟨rfl, hd⟩
 obtain ⟨nd, rfl⟩ := hd.out
 clear hd
 go_wp2_with fail
 refine (pint_ok _ HTS.out v HP.out _).mono ?_
 rintro e w2 ⟨rfl, hb2⟩
 have hbk := blk_below (blk_drewN (blk_new w (.cells #[.int .i64 0, .string ⟨#[]⟩, .int .i64 0, .int .i64 0, .int .u64 0, .string ⟨#[]⟩, .int .i64 0] 39)) nd) hb2
 have HB2 := Lib.hid (below_step (pw_below_drewN (below_alloc (Below.refl w.heap.size w) (.cells #[.int .i64 0, .string ⟨#[]⟩, .int .i64 0, .int .i64 0, .int .u64 0, .string ⟨#[]⟩, .int .i64 0] 39)) nd) hb2)
 have c0 : w2.cell? ⟨w.heap.size, 0, none⟩ = some (.int .i64 0) := (blk_cell hbk 0).trans rfl
 have f0 := blk_frozen hbk 0
 have c1 : w2.cell? ⟨w.heap.size, 1, none⟩ = some (.string ⟨#[]⟩) := (blk_cell hbk 1).trans rfl
 have f1 := blk_frozen hbk 1
 have c2 : w2.cell? ⟨w.heap.size, 2, none⟩ = some (.int .i64 0) := (blk_cell hbk 2).trans rfl
 have f2 := blk_frozen hbk 2
 have c3 : w2.cell? ⟨w.heap.size, 3, none⟩ = some (.int .i64 0) := (blk_cell hbk 3).trans rfl
 have f3 := blk_frozen hbk 3
 have c4 : w2.cell? ⟨w.heap.size, 4, none⟩ = some (.int .u64 0) := (blk_cell hbk 4).trans rfl
 have f4 := blk_frozen hbk 4
 have c5 : w2.cell? ⟨w.heap.size, 5, none⟩ = some (.string ⟨#[]⟩) := (blk_cell hbk 5).trans rfl
 have f5 := blk_frozen hbk 5
 have c6 : w2.cell? ⟨w.heap.size, 6, none⟩ = some (.int .i64 0) := (blk_cell hbk 6).trans rfl
 have f6 := blk_frozen hbk 6
 have HBK := Lib.hid hbk
 clear hbk hb2
 go_wp2_with (go_at_call 27; refine (HLL.out _).mono ?_; rintro e w3 ⟨rfl, rfl⟩)
 refine bodyPost_ret (results_ct rfl _ _ w.heap.size 39 #[.int .i64 0, .string ⟨#[]⟩, .int .i64 0, .int .i64 0, .int .u64 0, .string ⟨#[]⟩, .int .i64 0] (0, 0) _ rfl (tok_set HBK.out (.int .i64 0) (.string ⟨#[]⟩) (.int .i64 0) (.int .i64 0) (.int .u64 0) (.string ⟨#[]⟩) (.int .i64 0)) Tryd.underlying39 rfl (by kernel_rfl)) rfl ⟨?_, ?_⟩
 ·rw [HRES.out]; rfl
 ·exact tok_below HB2.out _ _ _ _ _ _ _
set_option maxRecDepth 100000 in
set_option maxHeartbeats 4000000 in
theorem num_0_yesd (s : ByteArray) (hs : s.size ≤ 1000) (h0 : 0 < s.size) (hat : numAt s = 0) (hm : (((s[0]'h0).toNat : Int) == 45) = false) (w : World) (hG : GL w) (n : Nat) (hn : numN s = n) (hle : 0 + n ≤ s.size) (hr : lex_run.f s 29 = some (n : Int)) (v : Int) (hp : Lib.parseIntB 64 (s.extract 0 n).data.toList = .ok v) (b0 : ((n : Int) == 0) = false) (h1 : 0 < s.size) (b1 : (((s[0]'h1).toNat : Int) == 48) = false) (hr1 : 0 < (s.extract n s.size).size) (b4 : (s.extract n s.size).toList.isEmpty = false) (b5 : isLow ((s.extract n s.size)[0]'hr1) = false) (b6 : ((((s.extract n s.size)[0]'hr1).toNat : Int) == 95) = false) (hb : numBad s 0 n = false) :
  Calls Tryd.prog 30 #[.string s] w fun e w' => e = .returned (tokV (numR s)) ∧ Below w.heap.size w w' := by
 have h0i : (0 : Int) < (s.size : Int) := by omega
 have HR := Lib.hid hr
 have hts : (s.extract 0 n).size ≤ 281474976710656 := by simp; omega
 have HTS := Lib.hid hts
 have HG := Lib.hid hG
 rw [Nat.zero_add] at hle
 have h1i : (0 : Int) < (s.size : Int) := by omega
 have hri : (0 : Int) < ((s.extract n s.size).size : Int) := by omega
 have hrn : 0 < s.size - n := by rw [ByteArray.size_extract] at hr1; omega
 have HL := low_calls ((s.extract n s.size)[0]'hr1)
 rw [b5] at HL
 have HLL := Lib.hid HL
 have hres : numR s = (3, (s.extract 0 n), 2, v, 0, ⟨#[]⟩, 0, (n : Int)) := by
  unfold numR
  rw [hat, hn]
  rw [Nat.zero_add]
  rw [hp]
  simp only [hb, Bool.false_eq_true, if_false]
 have HRES := Lib.hid hres
 have HP := Lib.hid hp
 clear hr hts hG hn hat hres hp hb HL b5
 go_enter Tryd.func30, Tryd.ntmps30
 go_wp2_with fail
 refine (lex_run.calls _ 29 n _ HR.out).mono ?_
 rintro e w1 ⟨rfl, hd⟩
 obtain ⟨nd, rfl⟩ := hd.out
 clear hd
 go_wp2_with fail
 refine (pint_ok _ HTS.out v HP.out _).mono ?_
 rintro e w2 ⟨rfl, hb2⟩
 have hbk := blk_below (blk_drewN (blk_new w (.cells #[.int .i64 0, .string ⟨#[]⟩, .int .i64 0, .int .i64 0, .int .u64 0, .string ⟨#[]⟩, .int .i64 0] 39)) nd) hb2
 have HB2 := Lib.hid (below_step (pw_below_drewN (below_alloc (Below.refl w.heap.size w) (.cells #[.int .i64 0, .string ⟨#[]⟩, .int .i64 0, .int .i64 0, .int .u64 0, .string ⟨#[]⟩, .int .i64 0] 39)) nd) hb2)
 have c0 : w2.cell? ⟨w.heap.size, 0, none⟩ = some (.int .i64 0) := (blk_cell hbk 0).trans rfl
 have f0 := blk_frozen hbk 0
 have c1 : w2.cell? ⟨w.heap.size, 1, none⟩ = some (.string ⟨#[]⟩) := (blk_cell hbk 1).trans rfl
 have f1 := blk_frozen hbk 1
 have c2 : w2.cell? ⟨w.heap.size, 2, none⟩ = some (.int .i64 0) := (blk_cell hbk 2).trans rfl
 have f2 := blk_frozen hbk 2
 have c3 : w2.cell? ⟨w.heap.size, 3, none⟩ = some (.int .i64 0) := (blk_cell hbk 3).trans rfl
 have f3 := blk_frozen hbk 3
 have c4 : w2.cell? ⟨w.heap.size, 4, none⟩ = some (.int .u64 0) := (blk_cell hbk 4).trans rfl
 have f4 := blk_frozen hbk 4
 have c5 : w2.cell? ⟨w.heap.size, 5, none⟩ = some (.string ⟨#[]⟩) := (blk_cell hbk 5).trans rfl
 have f5 := blk_frozen hbk 5
 have c6 : w2.cell? ⟨w.heap.size, 6, none⟩ = some (.int .i64 0) := (blk_cell hbk 6).trans rfl
 have f6 := blk_frozen hbk 6
 have HBK := Lib.hid hbk
 clear hbk hb2
 go_wp2_with (go_at_call 27; refine (HLL.out _).mono ?_; rintro e w3 ⟨rfl, rfl⟩)
 refine bodyPost_ret (results_ct rfl _ _ w.heap.size 39 #[.int .i64 3, .string (s.extract 0 n), .int .i64 2, .int .i64 v, .int .u64 0, .string ⟨#[]⟩, .int .i64 0] (0, 0) _ rfl (tok_set HBK.out (.int .i64 3) (.string (s.extract 0 n)) (.int .i64 2) (.int .i64 v) (.int .u64 0) (.string ⟨#[]⟩) (.int .i64 0)) Tryd.underlying39 rfl (by kernel_rfl)) rfl ⟨?_, ?_⟩
 ·rw [HRES.out]; rfl
 ·exact tok_below HB2.out _ _ _ _ _ _ _
set_option maxRecDepth 100000 in
set_option maxHeartbeats 4000000 in
theorem num_1_bad1 (s : ByteArray) (hs : s.size ≤ 1000) (h0 : 0 < s.size) (hat : numAt s = 1) (hm : (((s[0]'h0).toNat : Int) == 45) = true) (w : World) (hG : GL w) (n : Nat) (hn : numN s = n) (hle : 1 + n ≤ s.size) (hr : lex_run.f (s.extract 1 s.size) 29 = some (n : Int)) (hp : ∀ v, Lib.parseIntB 64 (s.extract 0 (1 + n)).data.toList ≠ .ok v) (b0 : ((n : Int) == 0) = true) :
  Calls Tryd.prog 30 #[.string s] w fun e w' => e = .returned (tokV (numR s)) ∧ Below w.heap.size w w' := by
 have h0i : (0 : Int) < (s.size : Int) := by omega
 have HR := Lib.hid hr
 have hts : (s.extract 0 (1 + n)).size ≤ 281474976710656 := by simp; omega
 have HTS := Lib.hid hts
 have HG := Lib.hid hG
 have hres : numR s = tokNone := by
  unfold numR
  rw [hat, hn]
  split
  ·rename_i v hv
   exact absurd hv (hp v)
  ·rfl
 have HRES := Lib.hid hres
 have HP := Lib.hid hp
 clear hr hts hG hn hat hres hp
 go_enter Tryd.func30, Tryd.ntmps30
 go_wp2_with fail
 refine (lex_run.calls _ 29 n _ HR.out).mono ?_
 rintro e w1 ⟨rfl, hd⟩
 obtain ⟨nd, rfl⟩ := hd.out
 clear hd
 go_wp2_with fail
 refine (pint_bad _ HTS.out HP.out _ (HG.out.of_below (pw_below_drewN (below_alloc (Below.refl _ _) _) _))).mono ?_
 rintro e w2 ⟨v, te, pe, rfl, hb2⟩
 have hbk := blk_below (blk_drewN (blk_new w (.cells #[.int .i64 0, .string ⟨#[]⟩, .int .i64 0, .int .i64 0, .int .u64 0, .string ⟨#[]⟩, .int .i64 0] 39)) nd) hb2
 have HB2 := Lib.hid (below_step (pw_below_drewN (below_alloc (Below.refl w.heap.size w) (.cells #[.int .i64 0, .string ⟨#[]⟩, .int .i64 0, .int .i64 0, .int .u64 0, .string ⟨#[]⟩, .int .i64 0] 39)) nd) hb2)
 have c0 : w2.cell? ⟨w.heap.size, 0, none⟩ = some (.int .i64 0) := (blk_cell hbk 0).trans rfl
 have f0 := blk_frozen hbk 0
 have c1 : w2.cell? ⟨w.heap.size, 1, none⟩ = some (.string ⟨#[]⟩) := (blk_cell hbk 1).trans rfl
 have f1 := blk_frozen hbk 1
 have c2 : w2.cell? ⟨w.heap.size, 2, none⟩ = some (.int .i64 0) := (blk_cell hbk 2).trans rfl
 have f2 := blk_frozen hbk 2
 have c3 : w2.cell? ⟨w.heap.size, 3, none⟩ = some (.int .i64 0) := (blk_cell hbk 3).trans rfl
 have f3 := blk_frozen hbk 3
 have c4 : w2.cell? ⟨w.heap.size, 4, none⟩ = some (.int .u64 0) := (blk_cell hbk 4).trans rfl
 have f4 := blk_frozen hbk 4
 have c5 : w2.cell? ⟨w.heap.size, 5, none⟩ = some (.string ⟨#[]⟩) := (blk_cell hbk 5).trans rfl
 have f5 := blk_frozen hbk 5
 have c6 : w2.cell? ⟨w.heap.size, 6, none⟩ = some (.int .i64 0) := (blk_cell hbk 6).trans rfl
 have f6 := blk_frozen hbk 6
 have HBK := Lib.hid hbk
 clear hbk hb2
 go_wp2
 refine bodyPost_ret (results_ct rfl _ _ w.heap.size 39 #[.int .i64 0, .string ⟨#[]⟩, .int .i64 0, .int .i64 0, .int .u64 0, .string ⟨#[]⟩, .int .i64 0] (0, 0) _ rfl (tok_set HBK.out (.int .i64 0) (.string ⟨#[]⟩) (.int .i64 0) (.int .i64 0) (.int .u64 0) (.string ⟨#[]⟩) (.int .i64 0)) Tryd.underlying39 rfl (by kernel_rfl)) rfl ⟨?_, ?_⟩
 ·rw [HRES.out]; rfl
 ·exact tok_below HB2.out _ _ _ _ _ _ _
set_option maxRecDepth 100000 in
set_option maxHeartbeats 4000000 in
theorem num_1_bad0 (s : ByteArray) (hs : s.size ≤ 1000) (h0 : 0 < s.size) (hat : numAt s = 1) (hm : (((s[0]'h0).toNat : Int) == 45) = true) (w : World) (hG : GL w) (n : Nat) (hn : numN s = n) (hle : 1 + n ≤ s.size) (hr : lex_run.f (s.extract 1 s.size) 29 = some (n : Int)) (hp : ∀ v, Lib.parseIntB 64 (s.extract 0 (1 + n)).data.toList ≠ .ok v) (b0 : ((n : Int) == 0) = false) :
  Calls Tryd.prog 30 #[.string s] w fun e w' => e = .returned (tokV (numR s)) ∧ Below w.heap.size w w' := by
 have h0i : (0 : Int) < (s.size : Int) := by omega
 have HR := Lib.hid hr
 have hts : (s.extract 0 (1 + n)).size ≤ 281474976710656 := by simp; omega
 have HTS := Lib.hid hts
 have HG := Lib.hid hG
 have hres : numR s = tokNone := by
  unfold numR
  rw [hat, hn]
  split
  ·rename_i v hv
   exact absurd hv (hp v)
  ·rfl
 have HRES := Lib.hid hres
 have HP := Lib.hid hp
 clear hr hts hG hn hat hres hp
 go_enter Tryd.func30, Tryd.ntmps30
 go_wp2_with fail
 refine (lex_run.calls _ 29 n _ HR.out).mono ?_
 rintro e w1 ⟨rfl, hd⟩
 obtain ⟨nd, rfl⟩ := hd.out
 clear hd
 go_wp2_with fail
 refine (pint_bad _ HTS.out HP.out _ (HG.out.of_below (pw_below_drewN (below_alloc (Below.refl _ _) _) _))).mono ?_
 rintro e w2 ⟨v, te, pe, rfl, hb2⟩
 have hbk := blk_below (blk_drewN (blk_new w (.cells #[.int .i64 0, .string ⟨#[]⟩, .int .i64 0, .int .i64 0, .int .u64 0, .string ⟨#[]⟩, .int .i64 0] 39)) nd) hb2
 have HB2 := Lib.hid (below_step (pw_below_drewN (below_alloc (Below.refl w.heap.size w) (.cells #[.int .i64 0, .string ⟨#[]⟩, .int .i64 0, .int .i64 0, .int .u64 0, .string ⟨#[]⟩, .int .i64 0] 39)) nd) hb2)
 have c0 : w2.cell? ⟨w.heap.size, 0, none⟩ = some (.int .i64 0) := (blk_cell hbk 0).trans rfl
 have f0 := blk_frozen hbk 0
 have c1 : w2.cell? ⟨w.heap.size, 1, none⟩ = some (.string ⟨#[]⟩) := (blk_cell hbk 1).trans rfl
 have f1 := blk_frozen hbk 1
 have c2 : w2.cell? ⟨w.heap.size, 2, none⟩ = some (.int .i64 0) := (blk_cell hbk 2).trans rfl
 have f2 := blk_frozen hbk 2
 have c3 : w2.cell? ⟨w.heap.size, 3, none⟩ = some (.int .i64 0) := (blk_cell hbk 3).trans rfl
 have f3 := blk_frozen hbk 3
 have c4 : w2.cell? ⟨w.heap.size, 4, none⟩ = some (.int .u64 0) := (blk_cell hbk 4).trans rfl
 have f4 := blk_frozen hbk 4
 have c5 : w2.cell? ⟨w.heap.size, 5, none⟩ = some (.string ⟨#[]⟩) := (blk_cell hbk 5).trans rfl
 have f5 := blk_frozen hbk 5
 have c6 : w2.cell? ⟨w.heap.size, 6, none⟩ = some (.int .i64 0) := (blk_cell hbk 6).trans rfl
 have f6 := blk_frozen hbk 6
 have HBK := Lib.hid hbk
 clear hbk hb2
 go_wp2
 refine bodyPost_ret (results_ct rfl _ _ w.heap.size 39 #[.int .i64 0, .string ⟨#[]⟩, .int .i64 0, .int .i64 0, .int .u64 0, .string ⟨#[]⟩, .int .i64 0] (0, 0) _ rfl (tok_set HBK.out (.int .i64 0) (.string ⟨#[]⟩) (.int .i64 0) (.int .i64 0) (.int .u64 0) (.string ⟨#[]⟩) (.int .i64 0)) Tryd.underlying39 rfl (by kernel_rfl)) rfl ⟨?_, ?_⟩
 ·rw [HRES.out]; rfl
 ·exact tok_below HB2.out _ _ _ _ _ _ _
set_option maxRecDepth 100000 in
set_option maxHeartbeats 4000000 in
theorem num_1_none (s : ByteArray) (hs : s.size ≤ 1000) (h0 : 0 < s.size) (hat : numAt s = 1) (hm : (((s[0]'h0).toNat : Int) == 45) = true) (w : World) (hG : GL w) (n : Nat) (hn : numN s = n) (hle : 1 + n ≤ s.size) (hr : lex_run.f (s.extract 1 s.size) 29 = some (n : Int)) (v : Int) (hp : Lib.parseIntB 64 (s.extract 0 (1 + n)).data.toList = .ok v) (b0 : ((n : Int) == 0) = true) (hb : numBad s 1 n = true) :
  Calls Tryd.prog 30 #[.string s] w fun e w' => e = .returned (tokV (numR s)) ∧ Below w.heap.size w w' := by
 have h0i : (0 : Int) < (s.size : Int) := by omega
 have HR := Lib.hid hr
 have hts : (s.extract 0 (1 + n)).size ≤ 281474976710656 := by simp; omega
 have HTS := Lib.hid hts
 have HG := Lib.hid hG
 have hres : numR s = tokNone := by
  unfold numR
  rw [hat, hn]
  rw [hp]
  simp only [hb, if_true]
 have HRES := Lib.hid hres
 have HP := Lib.hid hp
 clear hr hts hG hn hat hres hp hb
 go_enter Tryd.func30, Tryd.ntmps30
 go_wp2_with fail
 refine (lex_run.calls _ 29 n _ HR.out).mono ?_
 rintro e w1 ⟨rfl, hd⟩
 obtain ⟨nd, rfl⟩ := hd.out
 clear hd
 go_wp2_with fail
 refine (pint_ok _ HTS.out v HP.out _).mono ?_
 rintro e w2 ⟨rfl, hb2⟩
 have hbk := blk_below (blk_drewN (blk_new w (.cells #[.int .i64 0, .string ⟨#[]⟩, .int .i64 0, .int .i64 0, .int .u64 0, .string ⟨#[]⟩, .int .i64 0] 39)) nd) hb2
 have HB2 := Lib.hid (below_step (pw_below_drewN (below_alloc (Below.refl w.heap.size w) (.cells #[.int .i64 0, .string ⟨#[]⟩, .int .i64 0, .int .i64 0, .int .u64 0, .string ⟨#[]⟩, .int .i64 0] 39)) nd) hb2)
 have c0 : w2.cell? ⟨w.heap.size, 0, none⟩ = some (.int .i64 0) := (blk_cell hbk 0).trans rfl
 have f0 := blk_frozen hbk 0
 have c1 : w2.cell? ⟨w.heap.size, 1, none⟩ = some (.string ⟨#[]⟩) := (blk_cell hbk 1).trans rfl
 have f1 := blk_frozen hbk 1
 have c2 : w2.cell? ⟨w.heap.size, 2, none⟩ = some (.int .i64 0) := (blk_cell hbk 2).trans rfl
 have f2 := blk_frozen hbk 2
 have c3 : w2.cell? ⟨w.heap.size, 3, none⟩ = some (.int .i64 0) := (blk_cell hbk 3).trans rfl
 have f3 := blk_frozen hbk 3
 have c4 : w2.cell? ⟨w.heap.size, 4, none⟩ = some (.int .u64 0) := (blk_cell hbk 4).trans rfl
 have f4 := blk_frozen hbk 4
 have c5 : w2.cell? ⟨w.heap.size, 5, none⟩ = some (.string ⟨#[]⟩) := (blk_cell hbk 5).trans rfl
 have f5 := blk_frozen hbk 5
 have c6 : w2.cell? ⟨w.heap.size, 6, none⟩ = some (.int .i64 0) := (blk_cell hbk 6).trans rfl
 have f6 := blk_frozen hbk 6
 have HBK := Lib.hid hbk
 clear hbk hb2
 go_wp2
 refine bodyPost_ret (results_ct rfl _ _ w.heap.size 39 #[.int .i64 0, .string ⟨#[]⟩, .int .i64 0, .int .i64 0, .int .u64 0, .string ⟨#[]⟩, .int .i64 0] (0, 0) _ rfl (tok_set HBK.out (.int .i64 0) (.string ⟨#[]⟩) (.int .i64 0) (.int .i64 0) (.int .u64 0) (.string ⟨#[]⟩) (.int .i64 0)) Tryd.underlying39 rfl (by kernel_rfl)) rfl ⟨?_, ?_⟩
 ·rw [HRES.out]; rfl
 ·exact tok_below HB2.out _ _ _ _ _ _ _
set_option maxRecDepth 100000 in
set_option maxHeartbeats 4000000 in
theorem num_1_nought (s : ByteArray) (hs : s.size ≤ 1000) (h0 : 0 < s.size) (hat : numAt s = 1) (hm : (((s[0]'h0).toNat : Int) == 45) = true) (w : World) (hG : GL w) (n : Nat) (hn : numN s = n) (hle : 1 + n ≤ s.size) (hr : lex_run.f (s.extract 1 s.size) 29 = some (n : Int)) (v : Int) (hp : Lib.parseIntB 64 (s.extract 0 (1 + n)).data.toList = .ok v) (b0 : ((n : Int) == 0) = false) (h1 : 1 < s.size) (b1 : (((s[1]'h1).toNat : Int) == 48) = true) (b2 : decide ((1 : Int) < (n : Int)) = true) (hb : numBad s 1 n = true) :
  Calls Tryd.prog 30 #[.string s] w fun e w' => e = .returned (tokV (numR s)) ∧ Below w.heap.size w w' := by
 have h0i : (0 : Int) < (s.size : Int) := by omega
 have HR := Lib.hid hr
 have hts : (s.extract 0 (1 + n)).size ≤ 281474976710656 := by simp; omega
 have HTS := Lib.hid hts
 have HG := Lib.hid hG
 have h1i : (1 : Int) < (s.size : Int) := by omega
 have hres : numR s = tokNone := by
  unfold numR
  rw [hat, hn]
  rw [hp]
  simp only [hb, if_true]
 have HRES := Lib.hid hres
 have HP := Lib.hid hp
 clear hr hts hG hn hat hres hp hb
 go_enter Tryd.func30, Tryd.ntmps30
 go_wp2_with fail
 refine (lex_run.calls _ 29 n _ HR.out).mono ?_
 rintro e w1 ⟨rfl, hd⟩
 obtain ⟨nd, rfl⟩ := hd.out
 clear hd
 go_wp2_with fail
 refine (pint_ok _ HTS.out v HP.out _).mono ?_
 rintro e w2 ⟨rfl, hb2⟩
 have hbk := blk_below (blk_drewN (blk_new w (.cells #[.int .i64 0, .string ⟨#[]⟩, .int .i64 0, .int .i64 0, .int .u64 0, .string ⟨#[]⟩, .int .i64 0] 39)) nd) hb2
 have HB2 := Lib.hid (below_step (pw_below_drewN (below_alloc (Below.refl w.heap.size w) (.cells #[.int .i64 0, .string ⟨#[]⟩, .int .i64 0, .int .i64 0, .int .u64 0, .string ⟨#[]⟩, .int .i64 0] 39)) nd) hb2)
 have c0 : w2.cell? ⟨w.heap.size, 0, none⟩ = some (.int .i64 0) := (blk_cell hbk 0).trans rfl
 have f0 := blk_frozen hbk 0
 have c1 : w2.cell? ⟨w.heap.size, 1, none⟩ = some (.string ⟨#[]⟩) := (blk_cell hbk 1).trans rfl
 have f1 := blk_frozen hbk 1
 have c2 : w2.cell? ⟨w.heap.size, 2, none⟩ = some (.int .i64 0) := (blk_cell hbk 2).trans rfl
 have f2 := blk_frozen hbk 2
 have c3 : w2.cell? ⟨w.heap.size, 3, none⟩ = some (.int .i64 0) := (blk_cell hbk 3).trans rfl
 have f3 := blk_frozen hbk 3
 have c4 : w2.cell? ⟨w.heap.size, 4, none⟩ = some (.int .u64 0) := (blk_cell hbk 4).trans rfl
 have f4 := blk_frozen hbk 4
 have c5 : w2.cell? ⟨w.heap.size, 5, none⟩ = some (.string ⟨#[]⟩) := (blk_cell hbk 5).trans rfl
 have f5 := blk_frozen hbk 5
 have c6 : w2.cell? ⟨w.heap.size, 6, none⟩ = some (.int .i64 0) := (blk_cell hbk 6).trans rfl
 have f6 := blk_frozen hbk 6
 have HBK := Lib.hid hbk
 clear hbk hb2
 go_wp2
 refine bodyPost_ret (results_ct rfl _ _ w.heap.size 39 #[.int .i64 0, .string ⟨#[]⟩, .int .i64 0, .int .i64 0, .int .u64 0, .string ⟨#[]⟩, .int .i64 0] (0, 0) _ rfl (tok_set HBK.out (.int .i64 0) (.string ⟨#[]⟩) (.int .i64 0) (.int .i64 0) (.int .u64 0) (.string ⟨#[]⟩) (.int .i64 0)) Tryd.underlying39 rfl (by kernel_rfl)) rfl ⟨?_, ?_⟩
 ·rw [HRES.out]; rfl
 ·exact tok_below HB2.out _ _ _ _ _ _ _
set_option maxRecDepth 100000 in
set_option maxHeartbeats 4000000 in
theorem num_1_minus (s : ByteArray) (hs : s.size ≤ 1000) (h0 : 0 < s.size) (hat : numAt s = 1) (hm : (((s[0]'h0).toNat : Int) == 45) = true) (w : World) (hG : GL w) (n : Nat) (hn : numN s = n) (hle : 1 + n ≤ s.size) (hr : lex_run.f (s.extract 1 s.size) 29 = some (n : Int)) (v : Int) (hp : Lib.parseIntB 64 (s.extract 0 (1 + n)).data.toList = .ok v) (b0 : ((n : Int) == 0) = false) (h1 : 1 < s.size) (b1 : (((s[1]'h1).toNat : Int) == 48) = true) (b2 : decide ((1 : Int) < (n : Int)) = false) (hb : numBad s 1 n = true) :
  Calls Tryd.prog 30 #[.string s] w fun e w' => e = .returned (tokV (numR s)) ∧ Below w.heap.size w w' := by
 have h0i : (0 : Int) < (s.size : Int) := by omega
 have HR := Lib.hid hr
 have hts : (s.extract 0 (1 + n)).size ≤ 281474976710656 := by simp; omega
 have HTS := Lib.hid hts
 have HG := Lib.hid hG
 have h1i : (1 : Int) < (s.size : Int) := by omega
 have hres : numR s = tokNone := by
  unfold numR
  rw [hat, hn]
  rw [hp]
  simp only [hb, if_true]
 have HRES := Lib.hid hres
 have HP := Lib.hid hp
 clear hr hts hG hn hat hres hp hb
 go_enter Tryd.func30, Tryd.ntmps30
 go_wp2_with fail
 refine (lex_run.calls _ 29 n _ HR.out).mono ?_
 rintro e w1 ⟨rfl, hd⟩
 obtain ⟨nd, rfl⟩ := hd.out
 clear hd
 go_wp2_with fail
 refine (pint_ok _ HTS.out v HP.out _).mono ?_
 rintro e w2 ⟨rfl, hb2⟩
 have hbk := blk_below (blk_drewN (blk_new w (.cells #[.int .i64 0, .string ⟨#[]⟩, .int .i64 0, .int .i64 0, .int .u64 0, .string ⟨#[]⟩, .int .i64 0] 39)) nd) hb2
 have HB2 := Lib.hid (below_step (pw_below_drewN (below_alloc (Below.refl w.heap.size w) (.cells #[.int .i64 0, .string ⟨#[]⟩, .int .i64 0, .int .i64 0, .int .u64 0, .string ⟨#[]⟩, .int .i64 0] 39)) nd) hb2)
 have c0 : w2.cell? ⟨w.heap.size, 0, none⟩ = some (.int .i64 0) := (blk_cell hbk 0).trans rfl
 have f0 := blk_frozen hbk 0
 have c1 : w2.cell? ⟨w.heap.size, 1, none⟩ = some (.string ⟨#[]⟩) := (blk_cell hbk 1).trans rfl
 have f1 := blk_frozen hbk 1
 have c2 : w2.cell? ⟨w.heap.size, 2, none⟩ = some (.int .i64 0) := (blk_cell hbk 2).trans rfl
 have f2 := blk_frozen hbk 2
 have c3 : w2.cell? ⟨w.heap.size, 3, none⟩ = some (.int .i64 0) := (blk_cell hbk 3).trans rfl
 have f3 := blk_frozen hbk 3
 have c4 : w2.cell? ⟨w.heap.size, 4, none⟩ = some (.int .u64 0) := (blk_cell hbk 4).trans rfl
 have f4 := blk_frozen hbk 4
 have c5 : w2.cell? ⟨w.heap.size, 5, none⟩ = some (.string ⟨#[]⟩) := (blk_cell hbk 5).trans rfl
 have f5 := blk_frozen hbk 5
 have c6 : w2.cell? ⟨w.heap.size, 6, none⟩ = some (.int .i64 0) := (blk_cell hbk 6).trans rfl
 have f6 := blk_frozen hbk 6
 have HBK := Lib.hid hbk
 clear hbk hb2
 go_wp2
 refine bodyPost_ret (results_ct rfl _ _ w.heap.size 39 #[.int .i64 0, .string ⟨#[]⟩, .int .i64 0, .int .i64 0, .int .u64 0, .string ⟨#[]⟩, .int .i64 0] (0, 0) _ rfl (tok_set HBK.out (.int .i64 0) (.string ⟨#[]⟩) (.int .i64 0) (.int .i64 0) (.int .u64 0) (.string ⟨#[]⟩) (.int .i64 0)) Tryd.underlying39 rfl (by kernel_rfl)) rfl ⟨?_, ?_⟩
 ·rw [HRES.out]; rfl
 ·exact tok_below HB2.out _ _ _ _ _ _ _
set_option maxRecDepth 100000 in
set_option maxHeartbeats 4000000 in
theorem num_1_endd (s : ByteArray) (hs : s.size ≤ 1000) (h0 : 0 < s.size) (hat : numAt s = 1) (hm : (((s[0]'h0).toNat : Int) == 45) = true) (w : World) (hG : GL w) (n : Nat) (hn : numN s = n) (hle : 1 + n ≤ s.size) (hr : lex_run.f (s.extract 1 s.size) 29 = some (n : Int)) (v : Int) (hp : Lib.parseIntB 64 (s.extract 0 (1 + n)).data.toList = .ok v) (b0 : ((n : Int) == 0) = false) (h1 : 1 < s.size) (b1 : (((s[1]'h1).toNat : Int) == 48) = false) (b4 : (s.extract (1 + n) s.size).toList.isEmpty = true) (b4e : (s.extract (1 + n) s.size).toList = []) (hb : numBad s 1 n = false) :
  Calls Tryd.prog 30 #[.string s] w fun e w' => e = .returned (tokV (numR s)) ∧ Below w.heap.size w w' := by
 have h0i : (0 : Int) < (s.size : Int) := by omega
 have HR := Lib.hid hr
 have hts : (s.extract 0 (1 + n)).size ≤ 281474976710656 := by simp; omega
 have HTS := Lib.hid hts
 have HG := Lib.hid hG
 have h1i : (1 : Int) < (s.size : Int) := by omega
 have hres : numR s = (3, (s.extract 0 (1 + n)), 2, v, 0, ⟨#[]⟩, 0, ((1 + n : Nat) : Int)) := by
  unfold numR
  rw [hat, hn]
  rw [hp]
  simp only [hb, Bool.false_eq_true, if_false]
 have HE4 := Lib.hid b4e
 clear b4e
 have HRES := Lib.hid hres
 have HP := Lib.hid hp
 clear hr hts hG hn hat hres hp hb
 go_enter Tryd.func30, Tryd.ntmps30
 go_wp2_with fail
 refine (lex_run.calls _ 29 n _ HR.out).mono ?_
 rintro e w1 ⟨rfl, hd⟩
 obtain ⟨nd, rfl⟩ := hd.out
 clear hd
 go_wp2_with fail
 refine (pint_ok _ HTS.out v HP.out _).mono ?_
 rintro e w2 ⟨rfl, hb2⟩
 have hbk := blk_below (blk_drewN (blk_new w (.cells #[.int .i64 0, .string ⟨#[]⟩, .int .i64 0, .int .i64 0, .int .u64 0, .string ⟨#[]⟩, .int .i64 0] 39)) nd) hb2
 have HB2 := Lib.hid (below_step (pw_below_drewN (below_alloc (Below.refl w.heap.size w) (.cells #[.int .i64 0, .string ⟨#[]⟩, .int .i64 0, .int .i64 0, .int .u64 0, .string ⟨#[]⟩, .int .i64 0] 39)) nd) hb2)
 have c0 : w2.cell? ⟨w.heap.size, 0, none⟩ = some (.int .i64 0) := (blk_cell hbk 0).trans rfl
 have f0 := blk_frozen hbk 0
 have c1 : w2.cell? ⟨w.heap.size, 1, none⟩ = some (.string ⟨#[]⟩) := (blk_cell hbk 1).trans rfl
 have f1 := blk_frozen hbk 1
 have c2 : w2.cell? ⟨w.heap.size, 2, none⟩ = some (.int .i64 0) := (blk_cell hbk 2).trans rfl
 have f2 := blk_frozen hbk 2
 have c3 : w2.cell? ⟨w.heap.size, 3, none⟩ = some (.int .i64 0) := (blk_cell hbk 3).trans rfl
 have f3 := blk_frozen hbk 3
 have c4 : w2.cell? ⟨w.heap.size, 4, none⟩ = some (.int .u64 0) := (blk_cell hbk 4).trans rfl
 have f4 := blk_frozen hbk 4
 have c5 : w2.cell? ⟨w.heap.size, 5, none⟩ = some (.string ⟨#[]⟩) := (blk_cell hbk 5).trans rfl
 have f5 := blk_frozen hbk 5
 have c6 : w2.cell? ⟨w.heap.size, 6, none⟩ = some (.int .i64 0) := (blk_cell hbk 6).trans rfl
 have f6 := blk_frozen hbk 6
 have HBK := Lib.hid hbk
 clear hbk hb2
 go_wp2
 refine bodyPost_ret (results_ct rfl _ _ w.heap.size 39 #[.int .i64 3, .string (s.extract 0 (1 + n)), .int .i64 2, .int .i64 v, .int .u64 0, .string ⟨#[]⟩, .int .i64 0] (0, 0) _ rfl (tok_set HBK.out (.int .i64 3) (.string (s.extract 0 (1 + n))) (.int .i64 2) (.int .i64 v) (.int .u64 0) (.string ⟨#[]⟩) (.int .i64 0)) Tryd.underlying39 rfl (by kernel_rfl)) rfl ⟨?_, ?_⟩
 ·rw [HRES.out]; rfl
 ·exact tok_below HB2.out _ _ _ _ _ _ _
set_option maxRecDepth 100000 in
set_option maxHeartbeats 4000000 in
theorem num_1_lowd (s : ByteArray) (hs : s.size ≤ 1000) (h0 : 0 < s.size) (hat : numAt s = 1) (hm : (((s[0]'h0).toNat : Int) == 45) = true) (w : World) (hG : GL w) (n : Nat) (hn : numN s = n) (hle : 1 + n ≤ s.size) (hr : lex_run.f (s.extract 1 s.size) 29 = some (n : Int)) (v : Int) (hp : Lib.parseIntB 64 (s.extract 0 (1 + n)).data.toList = .ok v) (b0 : ((n : Int) == 0) = false) (h1 : 1 < s.size) (b1 : (((s[1]'h1).toNat : Int) == 48) = false) (hr1 : 0 < (s.extract (1 + n) s.size).size) (b4 : (s.extract (1 + n) s.size).toList.isEmpty = false) (b5 : isLow ((s.extract (1 + n) s.size)[0]'hr1) = true) (hb : numBad s 1 n = true) :
  Calls Tryd.prog 30 #[.string s] w fun e w' => e = .returned (tokV (numR s)) ∧ Below w.heap.size w w' := by
 have h0i : (0 : Int) < (s.size : Int) := by omega
 have HR := Lib.hid hr
 have hts : (s.extract 0 (1 + n)).size ≤ 281474976710656 := by simp; omega
 have HTS := Lib.hid hts
 have HG := Lib.hid hG
 have h1i : (1 : Int) < (s.size : Int) := by omega
 have hri : (0 : Int) < ((s.extract (1 + n) s.size).size : Int) := by omega
 have hrn : 0 < s.size - (1 + n) := by rw [ByteArray.size_extract] at hr1; omega
 have HL := low_calls ((s.extract (1 + n) s.size)[0]'hr1)
 rw [b5] at HL
 have HLL := Lib.hid HL
 have hres : numR s = tokNone := by
  unfold numR
  rw [hat, hn]
  rw [hp]
  simp only [hb, if_true]
 have HRES := Lib.hid hres
 have HP := Lib.hid hp
 clear hr hts hG hn hat hres hp hb HL b5
 go_enter Tryd.func30, Tryd.ntmps30
 go_wp2_with fail
 refine (lex_run.calls _ 29 n _ HR.out).mono ?_
 rintro e w1 ⟨rfl, hd⟩
 obtain ⟨nd, rfl⟩ := hd.out
 clear hd
 go_wp2_with fail
 refine (pint_ok _ HTS.out v HP.out _).mono ?_
 rintro e w2 ⟨rfl, hb2⟩
 have hbk := blk_below (blk_drewN (blk_new w (.cells #[.int .i64 0, .string ⟨#[]⟩, .int .i64 0, .int .i64 0, .int .u64 0, .string ⟨#[]⟩, .int .i64 0] 39)) nd) hb2
 have HB2 := Lib.hid (below_step (pw_below_drewN (below_alloc (Below.refl w.heap.size w) (.cells #[.int .i64 0, .string ⟨#[]⟩, .int .i64 0, .int .i64 0, .int .u64 0, .string ⟨#[]⟩, .int .i64 0] 39)) nd) hb2)
 have c0 : w2.cell? ⟨w.heap.size, 0, none⟩ = some (.int .i64 0) := (blk_cell hbk 0).trans rfl
 have f0 := blk_frozen hbk 0
 have c1 : w2.cell? ⟨w.heap.size, 1, none⟩ = some (.string ⟨#[]⟩) := (blk_cell hbk 1).trans rfl
 have f1 := blk_frozen hbk 1
 have c2 : w2.cell? ⟨w.heap.size, 2, none⟩ = some (.int .i64 0) := (blk_cell hbk 2).trans rfl
 have f2 := blk_frozen hbk 2
 have c3 : w2.cell? ⟨w.heap.size, 3, none⟩ = some (.int .i64 0) := (blk_cell hbk 3).trans rfl
 have f3 := blk_frozen hbk 3
 have c4 : w2.cell? ⟨w.heap.size, 4, none⟩ = some (.int .u64 0) := (blk_cell hbk 4).trans rfl
 have f4 := blk_frozen hbk 4
 have c5 : w2.cell? ⟨w.heap.size, 5, none⟩ = some (.string ⟨#[]⟩) := (blk_cell hbk 5).trans rfl
 have f5 := blk_frozen hbk 5
 have c6 : w2.cell? ⟨w.heap.size, 6, none⟩ = some (.int .i64 0) := (blk_cell hbk 6).trans rfl
 have f6 := blk_frozen hbk 6
 have HBK := Lib.hid hbk
 clear hbk hb2
 go_wp2_with (go_at_call 27; refine (HLL.out _).mono ?_; rintro e w3 ⟨rfl, rfl⟩)
 refine bodyPost_ret (results_ct rfl _ _ w.heap.size 39 #[.int .i64 0, .string ⟨#[]⟩, .int .i64 0, .int .i64 0, .int .u64 0, .string ⟨#[]⟩, .int .i64 0] (0, 0) _ rfl (tok_set HBK.out (.int .i64 0) (.string ⟨#[]⟩) (.int .i64 0) (.int .i64 0) (.int .u64 0) (.string ⟨#[]⟩) (.int .i64 0)) Tryd.underlying39 rfl (by kernel_rfl)) rfl ⟨?_, ?_⟩
 ·rw [HRES.out]; rfl
 ·exact tok_below HB2.out _ _ _ _ _ _ _
set_option maxRecDepth 100000 in
set_option maxHeartbeats 4000000 in
theorem num_1_undd (s : ByteArray) (hs : s.size ≤ 1000) (h0 : 0 < s.size) (hat : numAt s = 1) (hm : (((s[0]'h0).toNat : Int) == 45) = true) (w : World) (hG : GL w) (n : Nat) (hn : numN s = n) (hle : 1 + n ≤ s.size) (hr : lex_run.f (s.extract 1 s.size) 29 = some (n : Int)) (v : Int) (hp : Lib.parseIntB 64 (s.extract 0 (1 + n)).data.toList = .ok v) (b0 : ((n : Int) == 0) = false) (h1 : 1 < s.size) (b1 : (((s[1]'h1).toNat : Int) == 48) = false) (hr1 : 0 < (s.extract (1 + n) s.size).size) (b4 : (s.extract (1 + n) s.size).toList.isEmpty = false) (b5 : isLow ((s.extract (1 + n) s.size)[0]'hr1) = false) (b6 : ((((s.extract (1 + n) s.size)[0]'hr1).toNat : Int) == 95) = true) (hb : numBad s 1 n = true) :
  Calls Tryd.prog 30 #[.string s] w fun e w' => e = .returned (tokV (numR s)) ∧ Below w.heap.size w w' := by
 have h0i : (0 : Int) < (s.size : Int) := by omega
 have HR := Lib.hid hr
 have hts : (s.extract 0 (1 + n)).size ≤ 281474976710656 := by simp; omega
 have HTS := Lib.hid hts
 have HG := Lib.hid hG
 have h1i : (1 : Int) < (s.size : Int) := by omega
 have hri : (0 : Int) < ((s.extract (1 + n) s.size).size : Int) := by omega
 have hrn : 0 < s.size - (1 + n) := by rw [ByteArray.size_extract] at hr1; omega
 have HL := low_calls ((s.extract (1 + n) s.size)[0]'hr1)
 rw [b5] at HL
 have HLL := Lib.hid HL
 have hres : numR s = tokNone := by
  unfold numR
  rw [hat, hn]
  rw [hp]
  simp only [hb, if_true]
 have HRES := Lib.hid hres
 have HP := Lib.hid hp
 clear hr hts hG hn hat hres hp hb HL b5
 go_enter Tryd.func30, Tryd.ntmps30
 go_wp2_with fail
 refine (lex_run.calls _ 29 n _ HR.out).mono ?_
 rintro e w1 ⟨rfl, hd⟩
 obtain ⟨nd, rfl⟩ := hd.out
 clear hd
 go_wp2_with fail
 refine (pint_ok _ HTS.out v HP.out _).mono ?_
 rintro e w2 ⟨rfl, hb2⟩
 have hbk := blk_below (blk_drewN (blk_new w (.cells #[.int .i64 0, .string ⟨#[]⟩, .int .i64 0, .int .i64 0, .int .u64 0, .string ⟨#[]⟩, .int .i64 0] 39)) nd) hb2
 have HB2 := Lib.hid (below_step (pw_below_drewN (below_alloc (Below.refl w.heap.size w) (.cells #[.int .i64 0, .string ⟨#[]⟩, .int .i64 0, .int .i64 0, .int .u64 0, .string ⟨#[]⟩, .int .i64 0] 39)) nd) hb2)
 have c0 : w2.cell? ⟨w.heap.size, 0, none⟩ = some (.int .i64 0) := (blk_cell hbk 0).trans rfl
 have f0 := blk_frozen hbk 0
 have c1 : w2.cell? ⟨w.heap.size, 1, none⟩ = some (.string ⟨#[]⟩) := (blk_cell hbk 1).trans rfl
 have f1 := blk_frozen hbk 1
 have c2 : w2.cell? ⟨w.heap.size, 2, none⟩ = some (.int .i64 0) := (blk_cell hbk 2).trans rfl
 have f2 := blk_frozen hbk 2
 have c3 : w2.cell? ⟨w.heap.size, 3, none⟩ = some (.int .i64 0) := (blk_cell hbk 3).trans rfl
 have f3 := blk_frozen hbk 3
 have c4 : w2.cell? ⟨w.heap.size, 4, none⟩ = some (.int .u64 0) := (blk_cell hbk 4).trans rfl
 have f4 := blk_frozen hbk 4
 have c5 : w2.cell? ⟨w.heap.size, 5, none⟩ = some (.string ⟨#[]⟩) := (blk_cell hbk 5).trans rfl
 have f5 := blk_frozen hbk 5
 have c6 : w2.cell? ⟨w.heap.size, 6, none⟩ = some (.int .i64 0) := (blk_cell hbk 6).trans rfl
 have f6 := blk_frozen hbk 6
 have HBK := Lib.hid hbk
 clear hbk hb2
 go_wp2_with (go_at_call 27; refine (HLL.out _).mono ?_; rintro e w3 ⟨rfl, rfl⟩)
 refine bodyPost_ret (results_ct rfl _ _ w.heap.size 39 #[.int .i64 0, .string ⟨#[]⟩, .int .i64 0, .int .i64 0, .int .u64 0, .string ⟨#[]⟩, .int .i64 0] (0, 0) _ rfl (tok_set HBK.out (.int .i64 0) (.string ⟨#[]⟩) (.int .i64 0) (.int .i64 0) (.int .u64 0) (.string ⟨#[]⟩) (.int .i64 0)) Tryd.underlying39 rfl (by kernel_rfl)) rfl ⟨?_, ?_⟩
 ·rw [HRES.out]; rfl
 ·exact tok_below HB2.out _ _ _ _ _ _ _
set_option maxRecDepth 100000 in
set_option maxHeartbeats 4000000 in
theorem num_1_yesd (s : ByteArray) (hs : s.size ≤ 1000) (h0 : 0 < s.size) (hat : numAt s = 1) (hm : (((s[0]'h0).toNat : Int) == 45) = true) (w : World) (hG : GL w) (n : Nat) (hn : numN s = n) (hle : 1 + n ≤ s.size) (hr : lex_run.f (s.extract 1 s.size) 29 = some (n : Int)) (v : Int) (hp : Lib.parseIntB 64 (s.extract 0 (1 + n)).data.toList = .ok v) (b0 : ((n : Int) == 0) = false) (h1 : 1 < s.size) (b1 : (((s[1]'h1).toNat : Int) == 48) = false) (hr1 : 0 < (s.extract (1 + n) s.size).size) (b4 : (s.extract (1 + n) s.size).toList.isEmpty = false) (b5 : isLow ((s.extract (1 + n) s.size)[0]'hr1) = false) (b6 : ((((s.extract (1 + n) s.size)[0]'hr1).toNat : Int) == 95) = false) (hb : numBad s 1 n = false) :
  Calls Tryd.prog 30 #[.string s] w fun e w' => e = .returned (tokV (numR s)) ∧ Below w.heap.size w w' := by
 have h0i : (0 : Int) < (s.size : Int) := by omega
 have HR := Lib.hid hr
 have hts : (s.extract 0 (1 + n)).size ≤ 281474976710656 := by simp; omega
 have HTS := Lib.hid hts
 have HG := Lib.hid hG
 have h1i : (1 : Int) < (s.size : Int) := by omega
 have hri : (0 : Int) < ((s.extract (1 + n) s.size).size : Int) := by omega
 have hrn : 0 < s.size - (1 + n) := by rw [ByteArray.size_extract] at hr1; omega
 have HL := low_calls ((s.extract (1 + n) s.size)[0]'hr1)
 rw [b5] at HL
 have HLL := Lib.hid HL
 have hres : numR s = (3, (s.extract 0 (1 + n)), 2, v, 0, ⟨#[]⟩, 0, ((1 + n : Nat) : Int)) := by
  unfold numR
  rw [hat, hn]
  rw [hp]
  simp only [hb, Bool.false_eq_true, if_false]
 have HRES := Lib.hid hres
 have HP := Lib.hid hp
 clear hr hts hG hn hat hres hp hb HL b5
 go_enter Tryd.func30, Tryd.ntmps30
 go_wp2_with fail
 refine (lex_run.calls _ 29 n _ HR.out).mono ?_
 rintro e w1 ⟨rfl, hd⟩
 obtain ⟨nd, rfl⟩ := hd.out
 clear hd
 go_wp2_with fail
 refine (pint_ok _ HTS.out v HP.out _).mono ?_
 rintro e w2 ⟨rfl, hb2⟩
 have hbk := blk_below (blk_drewN (blk_new w (.cells #[.int .i64 0, .string ⟨#[]⟩, .int .i64 0, .int .i64 0, .int .u64 0, .string ⟨#[]⟩, .int .i64 0] 39)) nd) hb2
 have HB2 := Lib.hid (below_step (pw_below_drewN (below_alloc (Below.refl w.heap.size w) (.cells #[.int .i64 0, .string ⟨#[]⟩, .int .i64 0, .int .i64 0, .int .u64 0, .string ⟨#[]⟩, .int .i64 0] 39)) nd) hb2)
 have c0 : w2.cell? ⟨w.heap.size, 0, none⟩ = some (.int .i64 0) := (blk_cell hbk 0).trans rfl
 have f0 := blk_frozen hbk 0
 have c1 : w2.cell? ⟨w.heap.size, 1, none⟩ = some (.string ⟨#[]⟩) := (blk_cell hbk 1).trans rfl
 have f1 := blk_frozen hbk 1
 have c2 : w2.cell? ⟨w.heap.size, 2, none⟩ = some (.int .i64 0) := (blk_cell hbk 2).trans rfl
 have f2 := blk_frozen hbk 2
 have c3 : w2.cell? ⟨w.heap.size, 3, none⟩ = some (.int .i64 0) := (blk_cell hbk 3).trans rfl
 have f3 := blk_frozen hbk 3
 have c4 : w2.cell? ⟨w.heap.size, 4, none⟩ = some (.int .u64 0) := (blk_cell hbk 4).trans rfl
 have f4 := blk_frozen hbk 4
 have c5 : w2.cell? ⟨w.heap.size, 5, none⟩ = some (.string ⟨#[]⟩) := (blk_cell hbk 5).trans rfl
 have f5 := blk_frozen hbk 5
 have c6 : w2.cell? ⟨w.heap.size, 6, none⟩ = some (.int .i64 0) := (blk_cell hbk 6).trans rfl
 have f6 := blk_frozen hbk 6
 have HBK := Lib.hid hbk
 clear hbk hb2
 go_wp2_with (go_at_call 27; refine (HLL.out _).mono ?_; rintro e w3 ⟨rfl, rfl⟩)
 refine bodyPost_ret (results_ct rfl _ _ w.heap.size 39 #[.int .i64 3, .string (s.extract 0 (1 + n)), .int .i64 2, .int .i64 v, .int .u64 0, .string ⟨#[]⟩, .int .i64 0] (0, 0) _ rfl (tok_set HBK.out (.int .i64 3) (.string (s.extract 0 (1 + n))) (.int .i64 2) (.int .i64 v) (.int .u64 0) (.string ⟨#[]⟩) (.int .i64 0)) Tryd.underlying39 rfl (by kernel_rfl)) rfl ⟨?_, ?_⟩
 ·rw [HRES.out]; rfl
 ·exact tok_below HB2.out _ _ _ _ _ _ _
theorem ext_ne {s : ByteArray} {k : Nat} (h : k < s.size) : (s.extract k s.size).toList.isEmpty = false := by
 rw [← decide_eq_emptyBytes]
 refine decide_eq_false (fun e => ?_)
 have h2 : (s.extract k s.size).size = 0 := by rw [e]; rfl
 rw [ext_size] at h2
 omega
theorem ext_isE {s : ByteArray} {k : Nat} (h : s.size ≤ k) : (s.extract k s.size).toList.isEmpty = true := by
 have h2 : (s.extract k s.size).size = 0 := by rw [ext_size]; omega
 have h3 : s.extract k s.size = ByteArray.empty := ByteArray.ext (Array.eq_empty_of_size_eq_zero h2)
 rw [← decide_eq_emptyBytes]
 exact decide_eq_true h3
theorem ext_e {s : ByteArray} {k : Nat} (h : s.size ≤ k) : (s.extract k s.size).toList = [] := List.isEmpty_iff.1 (ext_isE h)
theorem rest0 {s : ByteArray} {k : Nat} (h : k < s.size) (h1 : 0 < (s.extract k s.size).size) : (s.extract k s.size)[0]'h1 = byteAt s k := by
 rw [byteAt_eq _ 0 h1, ext_at s k h]
theorem b_is {x : UInt8} {k : Nat} (hk : k < 256) (h : x = UInt8.ofNat k) : ((x.toNat : Int) == (k : Int)) = true := by rw [b_eq hk, h]; simp
theorem b_isnt {x : UInt8} {k : Nat} (hk : k < 256) (h : x ≠ UInt8.ofNat k) : ((x.toNat : Int) == (k : Int)) = false := by rw [b_eq hk]; exact beq_eq_false_iff_ne.2 h
def lex_number.f (a0 : ByteArray) : Option (Int × ByteArray × Int × Int × Int × ByteArray × Int × Int) := if 0 < a0.size ∧ a0.size ≤ 1000 then some (numR a0) else none
set_option maxHeartbeats 1000000 in
theorem number_all (s : ByteArray) (hs : s.size ≤ 1000) (h0 : 0 < s.size) (w : World) (hG : GL w) :
  Calls Tryd.prog 30 #[.string s] w fun e w' => e = .returned (tokV (numR s)) ∧ Below w.heap.size w w' := by
 by_cases hm : byteAt s 0 = 45
 ·have hat : numAt s = 1 := by unfold numAt; rw [if_pos hm]
  have hm' : (((s[0]'h0).toNat : Int) == 45) = true := by rw [byteAt_eq s 0 h0]; exact b_is (by decide) hm
  have hle := numN_le s (by omega)
  rw [hat] at hle
  obtain ⟨n, hn⟩ : ∃ n, numN s = n := ⟨_, rfl⟩
  rw [hn] at hle
  have hr : lex_run.f (s.extract 1 s.size) 29 = some (n : Int) := by
   have h2 : headLen isDig (s.extract 1 s.size) = n := by rw [← hn, numN, hat]
   have h3 : (s.extract 1 s.size).size ≤ 9223372036854775807 := by rw [ext_size]; omega
   unfold lex_run.f
   rw [if_pos h3]
   simp [kindOf, h2]
  cases hp : Lib.parseIntB 64 (s.extract 0 (1 + n)).data.toList with
  | range =>
   by_cases hz : n = 0
   ·exact num_1_bad1 s hs h0 hat hm' w hG n hn hle hr (fun v hv => by rw [hp] at hv; cases hv) (beq_iff_eq.2 (by omega))
   ·exact num_1_bad0 s hs h0 hat hm' w hG n hn hle hr (fun v hv => by rw [hp] at hv; cases hv) (beq_eq_false_iff_ne.2 (by omega))
  | ok v =>
   by_cases hz : n = 0
   ·exact num_1_none s hs h0 hat hm' w hG n hn hle hr v hp (beq_iff_eq.2 (by omega)) (by simp [numBad, hz])
   ·have b0 : ((n : Int) == 0) = false := beq_eq_false_iff_ne.2 (by omega)
    have z0 : (n == 0) = false := beq_eq_false_iff_ne.2 hz
    have h1 : 1 < s.size := by omega
    by_cases h48 : byteAt s 1 = 48
    ·have b1 : (((s[1]'h1).toNat : Int) == 48) = true := by rw [byteAt_eq s 1 h1]; exact b_is (by decide) h48
     by_cases hn1 : 1 < n
     ·exact num_1_nought s hs h0 hat hm' w hG n hn hle hr v hp b0 h1 b1 (decide_eq_true (by omega)) (by simp [numBad, h48, hn1])
     ·exact num_1_minus s hs h0 hat hm' w hG n hn hle hr v hp b0 h1 b1 (decide_eq_false (by omega)) (by simp [numBad, h48])
    ·have b1 : (((s[1]'h1).toNat : Int) == 48) = false := by rw [byteAt_eq s 1 h1]; exact b_isnt (by decide) h48
     have q1 : (byteAt s 1 == 48 && (decide (1 < n) || (1 : Nat) == 1)) = false := by rw [beq_eq_false_iff_ne.2 h48]; rfl
     by_cases hk : 1 + n < s.size
     ·have hr1 : 0 < (s.extract (1 + n) s.size).size := by rw [ext_size]; omega
      have b4 := ext_ne hk
      have e0 := rest0 hk hr1
      cases hl : isLow (byteAt s (1 + n)) with
      | true => exact num_1_lowd s hs h0 hat hm' w hG n hn hle hr v hp b0 h1 b1 hr1 b4 (by rw [e0]; exact hl) (by unfold numBad; rw [z0, q1, decide_eq_true hk]; simp [hl])
      | false =>
       by_cases hu : byteAt s (1 + n) = 95
       ·exact num_1_undd s hs h0 hat hm' w hG n hn hle hr v hp b0 h1 b1 hr1 b4 (by rw [e0]; exact hl) (by rw [e0]; exact b_is (by decide) hu) (by unfold numBad; rw [z0, q1, decide_eq_true hk]; simp [hu])
       ·exact num_1_yesd s hs h0 hat hm' w hG n hn hle hr v hp b0 h1 b1 hr1 b4 (by rw [e0]; exact hl) (by rw [e0]; exact b_isnt (by decide) hu) (by unfold numBad; rw [z0, q1, decide_eq_true hk]; simp [hl, hu])
     ·exact num_1_endd s hs h0 hat hm' w hG n hn hle hr v hp b0 h1 b1 (ext_isE (by omega)) (ext_e (by omega)) (by unfold numBad; rw [z0, q1, decide_eq_false (by omega)]; rfl)
  | _ =>
   by_cases hz : n = 0
   ·exact num_1_bad1 s hs h0 hat hm' w hG n hn hle hr (fun v hv => by rw [hp] at hv; cases hv) (beq_iff_eq.2 (by omega))
   ·exact num_1_bad0 s hs h0 hat hm' w hG n hn hle hr (fun v hv => by rw [hp] at hv; cases hv) (beq_eq_false_iff_ne.2 (by omega))
 ·have hat : numAt s = 0 := by unfold numAt; rw [if_neg hm]
  have hm' : (((s[0]'h0).toNat : Int) == 45) = false := by rw [byteAt_eq s 0 h0]; exact b_isnt (by decide) hm
  have hle := numN_le s (by omega)
  rw [hat] at hle
  obtain ⟨n, hn⟩ : ∃ n, numN s = n := ⟨_, rfl⟩
  rw [hn] at hle
  have hr : lex_run.f s 29 = some (n : Int) := by
   have h2 : headLen isDig s = n := by rw [← hn, numN, hat]; simp
   have h3 : s.size ≤ 9223372036854775807 := by omega
   unfold lex_run.f
   rw [if_pos h3]
   simp [kindOf, h2]
  cases hp : Lib.parseIntB 64 (s.extract 0 (n)).data.toList with
  | range =>
   by_cases hz : n = 0
   ·exact num_0_bad1 s hs h0 hat hm' w hG n hn hle hr (fun v hv => by rw [hp] at hv; cases hv) (beq_iff_eq.2 (by omega))
   ·exact num_0_bad0 s hs h0 hat hm' w hG n hn hle hr (fun v hv => by rw [hp] at hv; cases hv) (beq_eq_false_iff_ne.2 (by omega))
  | ok v =>
   by_cases hz : n = 0
   ·exact num_0_none s hs h0 hat hm' w hG n hn hle hr v hp (beq_iff_eq.2 (by omega)) (by simp [numBad, hz])
   ·have b0 : ((n : Int) == 0) = false := beq_eq_false_iff_ne.2 (by omega)
    have z0 : (n == 0) = false := beq_eq_false_iff_ne.2 hz
    have h1 : 0 < s.size := by omega
    by_cases h48 : byteAt s 0 = 48
    ·have b1 : (((s[0]'h1).toNat : Int) == 48) = true := by rw [byteAt_eq s 0 h1]; exact b_is (by decide) h48
     by_cases hn1 : 1 < n
     ·exact num_0_nought s hs h0 hat hm' w hG n hn hle hr v hp b0 h1 b1 (decide_eq_true (by omega)) (by simp [numBad, h48, hn1])
     ·have d1 : decide ((1 : Int) < (n : Int)) = false := decide_eq_false (by omega)
      have q1 : (byteAt s 0 == 48 && (decide (1 < n) || (0 : Nat) == 1)) = false := by rw [decide_eq_false hn1]; simp
      by_cases hk : n < s.size
      ·have hr1 : 0 < (s.extract (n) s.size).size := by rw [ext_size]; omega
       have hk0 : 0 + n < s.size := by omega
       have b4 := ext_ne hk
       have e0 := rest0 hk hr1
       cases hl : isLow (byteAt s (n)) with
       | true => exact num_0_lowz s hs h0 hat hm' w hG n hn hle hr v hp b0 h1 b1 d1 hr1 b4 (by rw [e0]; exact hl) (by unfold numBad; rw [z0, q1, decide_eq_true hk0]; simp [hl])
       | false =>
        by_cases hu : byteAt s (n) = 95
        ·exact num_0_undz s hs h0 hat hm' w hG n hn hle hr v hp b0 h1 b1 d1 hr1 b4 (by rw [e0]; exact hl) (by rw [e0]; exact b_is (by decide) hu) (by unfold numBad; rw [z0, q1, decide_eq_true hk0]; simp [hu])
        ·exact num_0_yesz s hs h0 hat hm' w hG n hn hle hr v hp b0 h1 b1 d1 hr1 b4 (by rw [e0]; exact hl) (by rw [e0]; exact b_isnt (by decide) hu) (by unfold numBad; rw [z0, q1, decide_eq_true hk0]; simp [hl, hu])
      ·exact num_0_endz s hs h0 hat hm' w hG n hn hle hr v hp b0 h1 b1 d1 (ext_isE (by omega)) (ext_e (by omega)) (by unfold numBad; rw [z0, q1, decide_eq_false (by omega)]; rfl)
    ·have b1 : (((s[0]'h1).toNat : Int) == 48) = false := by rw [byteAt_eq s 0 h1]; exact b_isnt (by decide) h48
     have q1 : (byteAt s 0 == 48 && (decide (1 < n) || (0 : Nat) == 1)) = false := by rw [beq_eq_false_iff_ne.2 h48]; rfl
     by_cases hk : n < s.size
     ·have hr1 : 0 < (s.extract (n) s.size).size := by rw [ext_size]; omega
      have hk0 : 0 + n < s.size := by omega
      have b4 := ext_ne hk
      have e0 := rest0 hk hr1
      cases hl : isLow (byteAt s (n)) with
      | true => exact num_0_lowd s hs h0 hat hm' w hG n hn hle hr v hp b0 h1 b1 hr1 b4 (by rw [e0]; exact hl) (by unfold numBad; rw [z0, q1, decide_eq_true hk0]; simp [hl])
      | false =>
       by_cases hu : byteAt s (n) = 95
       ·exact num_0_undd s hs h0 hat hm' w hG n hn hle hr v hp b0 h1 b1 hr1 b4 (by rw [e0]; exact hl) (by rw [e0]; exact b_is (by decide) hu) (by unfold numBad; rw [z0, q1, decide_eq_true hk0]; simp [hu])
       ·exact num_0_yesd s hs h0 hat hm' w hG n hn hle hr v hp b0 h1 b1 hr1 b4 (by rw [e0]; exact hl) (by rw [e0]; exact b_isnt (by decide) hu) (by unfold numBad; rw [z0, q1, decide_eq_true hk0]; simp [hl, hu])
     ·exact num_0_endd s hs h0 hat hm' w hG n hn hle hr v hp b0 h1 b1 (ext_isE (by omega)) (ext_e (by omega)) (by unfold numBad; rw [z0, q1, decide_eq_false (by omega)]; rfl)
  | _ =>
   by_cases hz : n = 0
   ·exact num_0_bad1 s hs h0 hat hm' w hG n hn hle hr (fun v hv => by rw [hp] at hv; cases hv) (beq_iff_eq.2 (by omega))
   ·exact num_0_bad0 s hs h0 hat hm' w hG n hn hle hr (fun v hv => by rw [hp] at hv; cases hv) (beq_eq_false_iff_ne.2 (by omega))
theorem lex_number.calls (a0 : ByteArray) (r1 : Int) (r2 : ByteArray) (r3 : Int) (r4 : Int) (r5 : Int) (r6 : ByteArray) (r7 : Int) (r8 : Int) (w : World) (h : lex_number.f a0 = some (r1, r2, r3, r4, r5, r6, r7, r8)) (hG : GL w) :
  Calls Tryd.prog 30 #[.string a0] w fun e w' => e = .returned (.tuple #[.agg #[.int .i64 r1, .string r2, .int .i64 r3, .int .i64 r4, .int .u64 r5, .string r6, .int .i64 r7], .int .i64 r8]) ∧ Below w.heap.size w w' := by
 unfold lex_number.f at h
 split at h
 ·rename_i hb
  have hx := Option.some.inj h
  have hc := number_all a0 hb.2 hb.1 w hG
  rw [hx] at hc
  exact hc
 ·cases h
end Go.Proofs.YtjehfmimbbdnkaaDoor
