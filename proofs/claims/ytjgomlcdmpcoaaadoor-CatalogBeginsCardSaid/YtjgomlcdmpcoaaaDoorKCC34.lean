/- Own texts of this session, packed by its program wip/pp/pack.py: lemmas and walks of functions. -/
import Derived.Test.YtjgomlcdmpcoaaaDoorKCC3
namespace Go.Proofs.YtjgomlcdmpcoaaaDoor.D
open Go.RowKit Go.Proofs.YtjgomlcdmpcoaaaDoorW.PrintWords Go.Proofs.YtjgomlcdmpcoaaaDoorW.PrintLast Go.Proofs.YtjgomlcdmpcoaaaDoorW.PrintMore
attribute [local go_sem] max2_int min2_int max_two min_two max_three min_three max_four min_four
set_option linter.unusedVariables false
set_option linter.unusedSimpArgs false
mutual
def falseworklaw17_Great.j0 : Nat → Bool → Int → ByteArray → ByteArray → List ByteArray → List (S73) → List (S132) → List (S134) → Bool → Int → List Int → Option (Bool)
 | 0, _, _, _, _, _, _, _, _, _, _, _ => none
 | k + 1, x47, x419000, x419001, x419002, x419003, x419004, x419005, x419006, x419007, x419008, x419009 => if x47 = true then (some true) else (falseworklaw17_Great.l0 k 0 0 x419000 x419001 x419002 x419003 x419004 x419005 x419006 x419007 x419008 x419009)
def falseworklaw17_Great.j2 : Nat → Int → Int → ByteArray → ByteArray → List ByteArray → List (S73) → List (S132) → List (S134) → Bool → Int → List Int → Option (Bool)
 | 0, _, _, _, _, _, _, _, _, _, _, _ => none
 | k + 1, x3, x419000, x419001, x419002, x419003, x419004, x419005, x419006, x419007, x419008, x419009 => falseworklaw17_Great.l1 k x3 0 x419000 x419001 x419002 x419003 x419004 x419005 x419006 x419007 x419008 x419009
def falseworklaw17_Great.j4 : Nat → Int → Int → ByteArray → ByteArray → List ByteArray → List (S73) → List (S132) → List (S134) → Bool → Int → List Int → Option (Bool)
 | 0, _, _, _, _, _, _, _, _, _, _, _ => none
 | k + 1, x3, x419000, x419001, x419002, x419003, x419004, x419005, x419006, x419007, x419008, x419009 => falseworklaw17_Great.l2 k x3 0 x419000 x419001 x419002 x419003 x419004 x419005 x419006 x419007 x419008 x419009
def falseworklaw17_Great.j6 : Nat → Int → Int → ByteArray → ByteArray → List ByteArray → List (S73) → List (S132) → List (S134) → Bool → Int → List Int → Option (Bool)
 | 0, _, _, _, _, _, _, _, _, _, _, _ => none
 | k + 1, x3, x419000, x419001, x419002, x419003, x419004, x419005, x419006, x419007, x419008, x419009 => falseworklaw17_Great.l3 k x3 0 x419000 x419001 x419002 x419003 x419004 x419005 x419006 x419007 x419008 x419009
def falseworklaw17_Great.l3 : Nat → Int → Int → Int → ByteArray → ByteArray → List ByteArray → List (S73) → List (S132) → List (S134) → Bool → Int → List Int → Option (Bool)
 | 0, _, _, _, _, _, _, _, _, _, _, _, _ => none
 | k + 1, x3, x7, x419000, x419001, x419002, x419003, x419004, x419005, x419006, x419007, x419008, x419009 => if x7 < (x419006.length : Int) then (if x3 ≤ 5000 then (if 0 ≤ x7 then (falseworklaw17_Great.l3 k (wrap64 ((wrap64 (x3 + (mn (((rd_T134 x419006 x7).f0).size : Int) 5001))) + (mn (((rd_T134 x419006 x7).f2.f3).size : Int) 5001))) (wrap64 (x7 + 1)) x419000 x419001 x419002 x419003 x419004 x419005 x419006 x419007 x419008 x419009) else (none)) else (some (decide (x3 > 5000)))) else (some (decide (x3 > 5000)))
def falseworklaw17_Great.l2 : Nat → Int → Int → Int → ByteArray → ByteArray → List ByteArray → List (S73) → List (S132) → List (S134) → Bool → Int → List Int → Option (Bool)
 | 0, _, _, _, _, _, _, _, _, _, _, _, _ => none
 | k + 1, x3, x6, x419000, x419001, x419002, x419003, x419004, x419005, x419006, x419007, x419008, x419009 => if x6 < (x419005.length : Int) then (if x3 ≤ 5000 then (if 0 ≤ x6 then (falseworklaw17_Great.l2 k (wrap64 ((wrap64 (x3 + (mn (((rd_T132 x419005 x6).f0).size : Int) 5001))) + (mn (((rd_T132 x419005 x6).f2.f3).size : Int) 5001))) (wrap64 (x6 + 1)) x419000 x419001 x419002 x419003 x419004 x419005 x419006 x419007 x419008 x419009) else (none)) else (falseworklaw17_Great.j6 k x3 x419000 x419001 x419002 x419003 x419004 x419005 x419006 x419007 x419008 x419009)) else (falseworklaw17_Great.j6 k x3 x419000 x419001 x419002 x419003 x419004 x419005 x419006 x419007 x419008 x419009)
def falseworklaw17_Great.l1 : Nat → Int → Int → Int → ByteArray → ByteArray → List ByteArray → List (S73) → List (S132) → List (S134) → Bool → Int → List Int → Option (Bool)
 | 0, _, _, _, _, _, _, _, _, _, _, _, _ => none
 | k + 1, x3, x5, x419000, x419001, x419002, x419003, x419004, x419005, x419006, x419007, x419008, x419009 => if x5 < (x419004.length : Int) then (if x3 ≤ 5000 then (if 0 ≤ x5 then (falseworklaw17_Great.l1 k (wrap64 (x3 + (mn (((rd_T73 x419004 x5).f3).size : Int) 5001))) (wrap64 (x5 + 1)) x419000 x419001 x419002 x419003 x419004 x419005 x419006 x419007 x419008 x419009) else (none)) else (falseworklaw17_Great.j4 k x3 x419000 x419001 x419002 x419003 x419004 x419005 x419006 x419007 x419008 x419009)) else (falseworklaw17_Great.j4 k x3 x419000 x419001 x419002 x419003 x419004 x419005 x419006 x419007 x419008 x419009)
def falseworklaw17_Great.l0 : Nat → Int → Int → Int → ByteArray → ByteArray → List ByteArray → List (S73) → List (S132) → List (S134) → Bool → Int → List Int → Option (Bool)
 | 0, _, _, _, _, _, _, _, _, _, _, _, _ => none
 | k + 1, x3, x4, x419000, x419001, x419002, x419003, x419004, x419005, x419006, x419007, x419008, x419009 => if x4 < (x419003.length : Int) then (if x3 ≤ 5000 then (if 0 ≤ x4 then (falseworklaw17_Great.l0 k (wrap64 (x3 + (mn ((rdOf ByteArray.empty x419003 x4).size : Int) 5001))) (wrap64 (x4 + 1)) x419000 x419001 x419002 x419003 x419004 x419005 x419006 x419007 x419008 x419009) else (none)) else (falseworklaw17_Great.j2 k x3 x419000 x419001 x419002 x419003 x419004 x419005 x419006 x419007 x419008 x419009)) else (falseworklaw17_Great.j2 k x3 x419000 x419001 x419002 x419003 x419004 x419005 x419006 x419007 x419008 x419009)
end
def falseworklaw17_Great.f (k : Nat) (a0_0 : Int) (a0_1 : ByteArray) (a0_2 : ByteArray) (l0_3 : List ByteArray) (l0_4 : List (S73)) (l0_5 : List (S132)) (l0_6 : List (S134)) (a0_7 : Bool) (a0_8 : Int) (l0_9 : List Int) : Option (Bool) := if (a0_1.size : Int) > 1000 then (falseworklaw17_Great.j0 k true a0_0 a0_1 a0_2 l0_3 l0_4 l0_5 l0_6 a0_7 a0_8 l0_9) else (if (a0_2.size : Int) > 1000 then (falseworklaw17_Great.j0 k true a0_0 a0_1 a0_2 l0_3 l0_4 l0_5 l0_6 a0_7 a0_8 l0_9) else (if (l0_3.length : Int) > 100 then (falseworklaw17_Great.j0 k true a0_0 a0_1 a0_2 l0_3 l0_4 l0_5 l0_6 a0_7 a0_8 l0_9) else (if (l0_4.length : Int) > 100 then (falseworklaw17_Great.j0 k true a0_0 a0_1 a0_2 l0_3 l0_4 l0_5 l0_6 a0_7 a0_8 l0_9) else (if (l0_5.length : Int) > 100 then (falseworklaw17_Great.j0 k true a0_0 a0_1 a0_2 l0_3 l0_4 l0_5 l0_6 a0_7 a0_8 l0_9) else (if (l0_6.length : Int) > 100 then (falseworklaw17_Great.j0 k true a0_0 a0_1 a0_2 l0_3 l0_4 l0_5 l0_6 a0_7 a0_8 l0_9) else (falseworklaw17_Great.j0 k (decide ((l0_9.length : Int) > 100)) a0_0 a0_1 a0_2 l0_3 l0_4 l0_5 l0_6 a0_7 a0_8 l0_9))))))
theorem falseworklaw17_Great.mono_l : ∀ k, (∀ y0 y1 y2 y3 y4 y5 y6 y7 y8 y9 y10, LeO (falseworklaw17_Great.j0 k y0 y1 y2 y3 y4 y5 y6 y7 y8 y9 y10) (falseworklaw17_Great.j0 (k + 1) y0 y1 y2 y3 y4 y5 y6 y7 y8 y9 y10)) ∧ (∀ y0 y1 y2 y3 y4 y5 y6 y7 y8 y9 y10, LeO (falseworklaw17_Great.j2 k y0 y1 y2 y3 y4 y5 y6 y7 y8 y9 y10) (falseworklaw17_Great.j2 (k + 1) y0 y1 y2 y3 y4 y5 y6 y7 y8 y9 y10)) ∧ (∀ y0 y1 y2 y3 y4 y5 y6 y7 y8 y9 y10, LeO (falseworklaw17_Great.j4 k y0 y1 y2 y3 y4 y5 y6 y7 y8 y9 y10) (falseworklaw17_Great.j4 (k + 1) y0 y1 y2 y3 y4 y5 y6 y7 y8 y9 y10)) ∧ (∀ y0 y1 y2 y3 y4 y5 y6 y7 y8 y9 y10, LeO (falseworklaw17_Great.j6 k y0 y1 y2 y3 y4 y5 y6 y7 y8 y9 y10) (falseworklaw17_Great.j6 (k + 1) y0 y1 y2 y3 y4 y5 y6 y7 y8 y9 y10)) ∧ (∀ y0 y1 y2 y3 y4 y5 y6 y7 y8 y9 y10 y11, LeO (falseworklaw17_Great.l3 k y0 y1 y2 y3 y4 y5 y6 y7 y8 y9 y10 y11) (falseworklaw17_Great.l3 (k + 1) y0 y1 y2 y3 y4 y5 y6 y7 y8 y9 y10 y11)) ∧ (∀ y0 y1 y2 y3 y4 y5 y6 y7 y8 y9 y10 y11, LeO (falseworklaw17_Great.l2 k y0 y1 y2 y3 y4 y5 y6 y7 y8 y9 y10 y11) (falseworklaw17_Great.l2 (k + 1) y0 y1 y2 y3 y4 y5 y6 y7 y8 y9 y10 y11)) ∧ (∀ y0 y1 y2 y3 y4 y5 y6 y7 y8 y9 y10 y11, LeO (falseworklaw17_Great.l1 k y0 y1 y2 y3 y4 y5 y6 y7 y8 y9 y10 y11) (falseworklaw17_Great.l1 (k + 1) y0 y1 y2 y3 y4 y5 y6 y7 y8 y9 y10 y11)) ∧ (∀ y0 y1 y2 y3 y4 y5 y6 y7 y8 y9 y10 y11, LeO (falseworklaw17_Great.l0 k y0 y1 y2 y3 y4 y5 y6 y7 y8 y9 y10 y11) (falseworklaw17_Great.l0 (k + 1) y0 y1 y2 y3 y4 y5 y6 y7 y8 y9 y10 y11))
 | 0 => ⟨fun _ _ _ _ _ _ _ _ _ _ _ r h => by simp [falseworklaw17_Great.j0] at h, fun _ _ _ _ _ _ _ _ _ _ _ r h => by simp [falseworklaw17_Great.j2] at h, fun _ _ _ _ _ _ _ _ _ _ _ r h => by simp [falseworklaw17_Great.j4] at h, fun _ _ _ _ _ _ _ _ _ _ _ r h => by simp [falseworklaw17_Great.j6] at h, fun _ _ _ _ _ _ _ _ _ _ _ _ r h => by simp [falseworklaw17_Great.l3] at h, fun _ _ _ _ _ _ _ _ _ _ _ _ r h => by simp [falseworklaw17_Great.l2] at h, fun _ _ _ _ _ _ _ _ _ _ _ _ r h => by simp [falseworklaw17_Great.l1] at h, fun _ _ _ _ _ _ _ _ _ _ _ _ r h => by simp [falseworklaw17_Great.l0] at h⟩
 | k + 1 => by
  obtain ⟨ih0, ih1, ih2, ih3, ih4, ih5, ih6, ih7⟩ := falseworklaw17_Great.mono_l k
  refine ⟨?_, ?_, ?_, ?_, ?_, ?_, ?_, ?_⟩
  ·intro y0 y1 y2 y3 y4 y5 y6 y7 y8 y9 y10
   unfold falseworklaw17_Great.j0
   repeat' first
   | (with_reducible exact ih0 _ _ _ _ _ _ _ _ _ _ _)
   | (with_reducible exact ih1 _ _ _ _ _ _ _ _ _ _ _)
   | (with_reducible exact ih2 _ _ _ _ _ _ _ _ _ _ _)
   | (with_reducible exact ih3 _ _ _ _ _ _ _ _ _ _ _)
   | (with_reducible exact ih4 _ _ _ _ _ _ _ _ _ _ _ _)
   | (with_reducible exact ih5 _ _ _ _ _ _ _ _ _ _ _ _)
   | (with_reducible exact ih6 _ _ _ _ _ _ _ _ _ _ _ _)
   | (with_reducible exact ih7 _ _ _ _ _ _ _ _ _ _ _ _)
   | (with_reducible exact LeO.refl _)
   | (with_reducible exact LeO.none _)
   | (with_reducible refine LeO.ite ?_ ?_)
   | (with_reducible refine LeO.bind ?_ (fun _ => ?_))
   | exact ih0 _ _ _ _ _ _ _ _ _ _ _
   | exact ih1 _ _ _ _ _ _ _ _ _ _ _
   | exact ih2 _ _ _ _ _ _ _ _ _ _ _
   | exact ih3 _ _ _ _ _ _ _ _ _ _ _
   | exact ih4 _ _ _ _ _ _ _ _ _ _ _ _
   | exact ih5 _ _ _ _ _ _ _ _ _ _ _ _
   | exact ih6 _ _ _ _ _ _ _ _ _ _ _ _
   | exact ih7 _ _ _ _ _ _ _ _ _ _ _ _
   | exact LeO.none _
   | refine LeO.ite ?_ ?_
   | refine LeO.bind ?_ (fun _ => ?_)
  ·intro y0 y1 y2 y3 y4 y5 y6 y7 y8 y9 y10
   unfold falseworklaw17_Great.j2
   repeat' first
   | (with_reducible exact ih0 _ _ _ _ _ _ _ _ _ _ _)
   | (with_reducible exact ih1 _ _ _ _ _ _ _ _ _ _ _)
   | (with_reducible exact ih2 _ _ _ _ _ _ _ _ _ _ _)
   | (with_reducible exact ih3 _ _ _ _ _ _ _ _ _ _ _)
   | (with_reducible exact ih4 _ _ _ _ _ _ _ _ _ _ _ _)
   | (with_reducible exact ih5 _ _ _ _ _ _ _ _ _ _ _ _)
   | (with_reducible exact ih6 _ _ _ _ _ _ _ _ _ _ _ _)
   | (with_reducible exact ih7 _ _ _ _ _ _ _ _ _ _ _ _)
   | (with_reducible exact LeO.refl _)
   | (with_reducible exact LeO.none _)
   | (with_reducible refine LeO.ite ?_ ?_)
   | (with_reducible refine LeO.bind ?_ (fun _ => ?_))
   | exact ih0 _ _ _ _ _ _ _ _ _ _ _
   | exact ih1 _ _ _ _ _ _ _ _ _ _ _
   | exact ih2 _ _ _ _ _ _ _ _ _ _ _
   | exact ih3 _ _ _ _ _ _ _ _ _ _ _
   | exact ih4 _ _ _ _ _ _ _ _ _ _ _ _
   | exact ih5 _ _ _ _ _ _ _ _ _ _ _ _
   | exact ih6 _ _ _ _ _ _ _ _ _ _ _ _
   | exact ih7 _ _ _ _ _ _ _ _ _ _ _ _
   | exact LeO.none _
   | refine LeO.ite ?_ ?_
   | refine LeO.bind ?_ (fun _ => ?_)
  ·intro y0 y1 y2 y3 y4 y5 y6 y7 y8 y9 y10
   unfold falseworklaw17_Great.j4
   repeat' first
   | (with_reducible exact ih0 _ _ _ _ _ _ _ _ _ _ _)
   | (with_reducible exact ih1 _ _ _ _ _ _ _ _ _ _ _)
   | (with_reducible exact ih2 _ _ _ _ _ _ _ _ _ _ _)
   | (with_reducible exact ih3 _ _ _ _ _ _ _ _ _ _ _)
   | (with_reducible exact ih4 _ _ _ _ _ _ _ _ _ _ _ _)
   | (with_reducible exact ih5 _ _ _ _ _ _ _ _ _ _ _ _)
   | (with_reducible exact ih6 _ _ _ _ _ _ _ _ _ _ _ _)
   | (with_reducible exact ih7 _ _ _ _ _ _ _ _ _ _ _ _)
   | (with_reducible exact LeO.refl _)
   | (with_reducible exact LeO.none _)
   | (with_reducible refine LeO.ite ?_ ?_)
   | (with_reducible refine LeO.bind ?_ (fun _ => ?_))
   | exact ih0 _ _ _ _ _ _ _ _ _ _ _
   | exact ih1 _ _ _ _ _ _ _ _ _ _ _
   | exact ih2 _ _ _ _ _ _ _ _ _ _ _
   | exact ih3 _ _ _ _ _ _ _ _ _ _ _
   | exact ih4 _ _ _ _ _ _ _ _ _ _ _ _
   | exact ih5 _ _ _ _ _ _ _ _ _ _ _ _
   | exact ih6 _ _ _ _ _ _ _ _ _ _ _ _
   | exact ih7 _ _ _ _ _ _ _ _ _ _ _ _
   | exact LeO.none _
   | refine LeO.ite ?_ ?_
   | refine LeO.bind ?_ (fun _ => ?_)
  ·intro y0 y1 y2 y3 y4 y5 y6 y7 y8 y9 y10
   unfold falseworklaw17_Great.j6
   repeat' first
   | (with_reducible exact ih0 _ _ _ _ _ _ _ _ _ _ _)
   | (with_reducible exact ih1 _ _ _ _ _ _ _ _ _ _ _)
   | (with_reducible exact ih2 _ _ _ _ _ _ _ _ _ _ _)
   | (with_reducible exact ih3 _ _ _ _ _ _ _ _ _ _ _)
   | (with_reducible exact ih4 _ _ _ _ _ _ _ _ _ _ _ _)
   | (with_reducible exact ih5 _ _ _ _ _ _ _ _ _ _ _ _)
   | (with_reducible exact ih6 _ _ _ _ _ _ _ _ _ _ _ _)
   | (with_reducible exact ih7 _ _ _ _ _ _ _ _ _ _ _ _)
   | (with_reducible exact LeO.refl _)
   | (with_reducible exact LeO.none _)
   | (with_reducible refine LeO.ite ?_ ?_)
   | (with_reducible refine LeO.bind ?_ (fun _ => ?_))
   | exact ih0 _ _ _ _ _ _ _ _ _ _ _
   | exact ih1 _ _ _ _ _ _ _ _ _ _ _
   | exact ih2 _ _ _ _ _ _ _ _ _ _ _
   | exact ih3 _ _ _ _ _ _ _ _ _ _ _
   | exact ih4 _ _ _ _ _ _ _ _ _ _ _ _
   | exact ih5 _ _ _ _ _ _ _ _ _ _ _ _
   | exact ih6 _ _ _ _ _ _ _ _ _ _ _ _
   | exact ih7 _ _ _ _ _ _ _ _ _ _ _ _
   | exact LeO.none _
   | refine LeO.ite ?_ ?_
   | refine LeO.bind ?_ (fun _ => ?_)
  ·intro y0 y1 y2 y3 y4 y5 y6 y7 y8 y9 y10 y11
   unfold falseworklaw17_Great.l3
   repeat' first
   | (with_reducible exact ih0 _ _ _ _ _ _ _ _ _ _ _)
   | (with_reducible exact ih1 _ _ _ _ _ _ _ _ _ _ _)
   | (with_reducible exact ih2 _ _ _ _ _ _ _ _ _ _ _)
   | (with_reducible exact ih3 _ _ _ _ _ _ _ _ _ _ _)
   | (with_reducible exact ih4 _ _ _ _ _ _ _ _ _ _ _ _)
   | (with_reducible exact ih5 _ _ _ _ _ _ _ _ _ _ _ _)
   | (with_reducible exact ih6 _ _ _ _ _ _ _ _ _ _ _ _)
   | (with_reducible exact ih7 _ _ _ _ _ _ _ _ _ _ _ _)
   | (with_reducible exact LeO.refl _)
   | (with_reducible exact LeO.none _)
   | (with_reducible refine LeO.ite ?_ ?_)
   | (with_reducible refine LeO.bind ?_ (fun _ => ?_))
   | exact ih0 _ _ _ _ _ _ _ _ _ _ _
   | exact ih1 _ _ _ _ _ _ _ _ _ _ _
   | exact ih2 _ _ _ _ _ _ _ _ _ _ _
   | exact ih3 _ _ _ _ _ _ _ _ _ _ _
   | exact ih4 _ _ _ _ _ _ _ _ _ _ _ _
   | exact ih5 _ _ _ _ _ _ _ _ _ _ _ _
   | exact ih6 _ _ _ _ _ _ _ _ _ _ _ _
   | exact ih7 _ _ _ _ _ _ _ _ _ _ _ _
   | exact LeO.none _
   | refine LeO.ite ?_ ?_
   | refine LeO.bind ?_ (fun _ => ?_)
  ·intro y0 y1 y2 y3 y4 y5 y6 y7 y8 y9 y10 y11
   unfold falseworklaw17_Great.l2
   repeat' first
   | (with_reducible exact ih0 _ _ _ _ _ _ _ _ _ _ _)
   | (with_reducible exact ih1 _ _ _ _ _ _ _ _ _ _ _)
   | (with_reducible exact ih2 _ _ _ _ _ _ _ _ _ _ _)
   | (with_reducible exact ih3 _ _ _ _ _ _ _ _ _ _ _)
   | (with_reducible exact ih4 _ _ _ _ _ _ _ _ _ _ _ _)
   | (with_reducible exact ih5 _ _ _ _ _ _ _ _ _ _ _ _)
   | (with_reducible exact ih6 _ _ _ _ _ _ _ _ _ _ _ _)
   | (with_reducible exact ih7 _ _ _ _ _ _ _ _ _ _ _ _)
   | (with_reducible exact LeO.refl _)
   | (with_reducible exact LeO.none _)
   | (with_reducible refine LeO.ite ?_ ?_)
   | (with_reducible refine LeO.bind ?_ (fun _ => ?_))
   | exact ih0 _ _ _ _ _ _ _ _ _ _ _
   | exact ih1 _ _ _ _ _ _ _ _ _ _ _
   | exact ih2 _ _ _ _ _ _ _ _ _ _ _
   | exact ih3 _ _ _ _ _ _ _ _ _ _ _
   | exact ih4 _ _ _ _ _ _ _ _ _ _ _ _
   | exact ih5 _ _ _ _ _ _ _ _ _ _ _ _
   | exact ih6 _ _ _ _ _ _ _ _ _ _ _ _
   | exact ih7 _ _ _ _ _ _ _ _ _ _ _ _
   | exact LeO.none _
   | refine LeO.ite ?_ ?_
   | refine LeO.bind ?_ (fun _ => ?_)
  ·intro y0 y1 y2 y3 y4 y5 y6 y7 y8 y9 y10 y11
   unfold falseworklaw17_Great.l1
   repeat' first
   | (with_reducible exact ih0 _ _ _ _ _ _ _ _ _ _ _)
   | (with_reducible exact ih1 _ _ _ _ _ _ _ _ _ _ _)
   | (with_reducible exact ih2 _ _ _ _ _ _ _ _ _ _ _)
   | (with_reducible exact ih3 _ _ _ _ _ _ _ _ _ _ _)
   | (with_reducible exact ih4 _ _ _ _ _ _ _ _ _ _ _ _)
   | (with_reducible exact ih5 _ _ _ _ _ _ _ _ _ _ _ _)
   | (with_reducible exact ih6 _ _ _ _ _ _ _ _ _ _ _ _)
   | (with_reducible exact ih7 _ _ _ _ _ _ _ _ _ _ _ _)
   | (with_reducible exact LeO.refl _)
   | (with_reducible exact LeO.none _)
   | (with_reducible refine LeO.ite ?_ ?_)
   | (with_reducible refine LeO.bind ?_ (fun _ => ?_))
   | exact ih0 _ _ _ _ _ _ _ _ _ _ _
   | exact ih1 _ _ _ _ _ _ _ _ _ _ _
   | exact ih2 _ _ _ _ _ _ _ _ _ _ _
   | exact ih3 _ _ _ _ _ _ _ _ _ _ _
   | exact ih4 _ _ _ _ _ _ _ _ _ _ _ _
   | exact ih5 _ _ _ _ _ _ _ _ _ _ _ _
   | exact ih6 _ _ _ _ _ _ _ _ _ _ _ _
   | exact ih7 _ _ _ _ _ _ _ _ _ _ _ _
   | exact LeO.none _
   | refine LeO.ite ?_ ?_
   | refine LeO.bind ?_ (fun _ => ?_)
  ·intro y0 y1 y2 y3 y4 y5 y6 y7 y8 y9 y10 y11
   unfold falseworklaw17_Great.l0
   repeat' first
   | (with_reducible exact ih0 _ _ _ _ _ _ _ _ _ _ _)
   | (with_reducible exact ih1 _ _ _ _ _ _ _ _ _ _ _)
   | (with_reducible exact ih2 _ _ _ _ _ _ _ _ _ _ _)
   | (with_reducible exact ih3 _ _ _ _ _ _ _ _ _ _ _)
   | (with_reducible exact ih4 _ _ _ _ _ _ _ _ _ _ _ _)
   | (with_reducible exact ih5 _ _ _ _ _ _ _ _ _ _ _ _)
   | (with_reducible exact ih6 _ _ _ _ _ _ _ _ _ _ _ _)
   | (with_reducible exact ih7 _ _ _ _ _ _ _ _ _ _ _ _)
   | (with_reducible exact LeO.refl _)
   | (with_reducible exact LeO.none _)
   | (with_reducible refine LeO.ite ?_ ?_)
   | (with_reducible refine LeO.bind ?_ (fun _ => ?_))
   | exact ih0 _ _ _ _ _ _ _ _ _ _ _
   | exact ih1 _ _ _ _ _ _ _ _ _ _ _
   | exact ih2 _ _ _ _ _ _ _ _ _ _ _
   | exact ih3 _ _ _ _ _ _ _ _ _ _ _
   | exact ih4 _ _ _ _ _ _ _ _ _ _ _ _
   | exact ih5 _ _ _ _ _ _ _ _ _ _ _ _
   | exact ih6 _ _ _ _ _ _ _ _ _ _ _ _
   | exact ih7 _ _ _ _ _ _ _ _ _ _ _ _
   | exact LeO.none _
   | refine LeO.ite ?_ ?_
   | refine LeO.bind ?_ (fun _ => ?_)
theorem falseworklaw17_Great.mono : ∀ a0 a1 a2 a3 a4 a5 a6 a7 a8 a9 k, LeO (falseworklaw17_Great.f k a0 a1 a2 a3 a4 a5 a6 a7 a8 a9) (falseworklaw17_Great.f (k + 1) a0 a1 a2 a3 a4 a5 a6 a7 a8 a9) := by
 intro a0 a1 a2 a3 a4 a5 a6 a7 a8 a9 k
 obtain ⟨ih0, ih1, ih2, ih3, ih4, ih5, ih6, ih7⟩ := falseworklaw17_Great.mono_l k
 unfold falseworklaw17_Great.f
 repeat' first
   | (with_reducible exact ih0 _ _ _ _ _ _ _ _ _ _ _)
   | (with_reducible exact ih1 _ _ _ _ _ _ _ _ _ _ _)
   | (with_reducible exact ih2 _ _ _ _ _ _ _ _ _ _ _)
   | (with_reducible exact ih3 _ _ _ _ _ _ _ _ _ _ _)
   | (with_reducible exact ih4 _ _ _ _ _ _ _ _ _ _ _ _)
   | (with_reducible exact ih5 _ _ _ _ _ _ _ _ _ _ _ _)
   | (with_reducible exact ih6 _ _ _ _ _ _ _ _ _ _ _ _)
   | (with_reducible exact ih7 _ _ _ _ _ _ _ _ _ _ _ _)
   | (with_reducible exact LeO.refl _)
   | (with_reducible exact LeO.none _)
   | (with_reducible refine LeO.ite ?_ ?_)
   | (with_reducible refine LeO.bind ?_ (fun _ => ?_))
   | exact ih0 _ _ _ _ _ _ _ _ _ _ _
   | exact ih1 _ _ _ _ _ _ _ _ _ _ _
   | exact ih2 _ _ _ _ _ _ _ _ _ _ _
   | exact ih3 _ _ _ _ _ _ _ _ _ _ _
   | exact ih4 _ _ _ _ _ _ _ _ _ _ _ _
   | exact ih5 _ _ _ _ _ _ _ _ _ _ _ _
   | exact ih6 _ _ _ _ _ _ _ _ _ _ _ _
   | exact ih7 _ _ _ _ _ _ _ _ _ _ _ _
   | exact LeO.none _
   | refine LeO.ite ?_ ?_
   | refine LeO.bind ?_ (fun _ => ?_)
set_option maxHeartbeats 8000000 in
set_option maxRecDepth 100000 in
theorem falseworklaw17_Great.calls (k : Nat) (a0_0 : Int) (a0_1 : ByteArray) (a0_2 : ByteArray) (A0_3 : Option Addr) (c0_3 : Nat) (l0_3 : List ByteArray) (A0_4 : Option Addr) (c0_4 : Nat) (l0_4 : List (S73)) (A0_5 : Option Addr) (c0_5 : Nat) (l0_5 : List (S132)) (A0_6 : Option Addr) (c0_6 : Nat) (l0_6 : List (S134)) (a0_7 : Bool) (a0_8 : Int) (A0_9 : Option Addr) (c0_9 : Nat) (l0_9 : List Int) (r : Bool) (w : World) (hr0_3 : Kd.C Kd.string w A0_3 l0_3.length l0_3) (hc0_3 : l0_3.length ≤ c0_3) (hr0_4 : Kd.C k73 w A0_4 l0_4.length l0_4) (hc0_4 : l0_4.length ≤ c0_4) (hr0_5 : Kd.C k132 w A0_5 l0_5.length l0_5) (hc0_5 : l0_5.length ≤ c0_5) (hr0_6 : Kd.C k134 w A0_6 l0_6.length l0_6) (hc0_6 : l0_6.length ≤ c0_6) (hr0_9 : Kd.C (Kd.int .i64) w A0_9 l0_9.length l0_9) (hc0_9 : l0_9.length ≤ c0_9) (h : falseworklaw17_Great.f k a0_0 a0_1 a0_2 l0_3 l0_4 l0_5 l0_6 a0_7 a0_8 l0_9 = some r) :
  Calls Tryd.prog 46 #[.agg #[.int .i64 a0_0, .string a0_1, .string a0_2, .slice A0_3 l0_3.length c0_3, .slice A0_4 l0_4.length c0_4, .slice A0_5 l0_5.length c0_5, .slice A0_6 l0_6.length c0_6, .bool a0_7, .int .i64 a0_8, .slice A0_9 l0_9.length c0_9]] w fun e w' => e = .returned (.bool r) ∧ Below w.heap.size w w' := by
 have hu45 := Tryd.underlying45
 have HR0_3 := Aside0.mk hr0_3; have HC0_3 := Aside0.mk hc0_3; clear hr0_3 hc0_3; have HR0_4 := Aside0.mk hr0_4; have HC0_4 := Aside0.mk hc0_4; clear hr0_4 hc0_4; have HR0_5 := Aside0.mk hr0_5; have HC0_5 := Aside0.mk hc0_5
 clear hr0_5 hc0_5; have HR0_6 := Aside0.mk hr0_6; have HC0_6 := Aside0.mk hc0_6; clear hr0_6 hc0_6; have HR0_9 := Aside0.mk hr0_9; have HC0_9 := Aside0.mk hc0_9; clear hr0_9 hc0_9; have HB := Aside0.mk (Below.refl w.heap.size w)
 have H : (if (a0_1.size : Int) > 1000 then (falseworklaw17_Great.j0 k true a0_0 a0_1 a0_2 l0_3 l0_4 l0_5 l0_6 a0_7 a0_8 l0_9) else (if (a0_2.size : Int) > 1000 then (falseworklaw17_Great.j0 k true a0_0 a0_1 a0_2 l0_3 l0_4 l0_5 l0_6 a0_7 a0_8 l0_9) else (if (l0_3.length : Int) > 100 then (falseworklaw17_Great.j0 k true a0_0 a0_1 a0_2 l0_3 l0_4 l0_5 l0_6 a0_7 a0_8 l0_9) else (if (l0_4.length : Int) > 100 then (falseworklaw17_Great.j0 k true a0_0 a0_1 a0_2 l0_3 l0_4 l0_5 l0_6 a0_7 a0_8 l0_9) else (if (l0_5.length : Int) > 100 then (falseworklaw17_Great.j0 k true a0_0 a0_1 a0_2 l0_3 l0_4 l0_5 l0_6 a0_7 a0_8 l0_9) else (if (l0_6.length : Int) > 100 then (falseworklaw17_Great.j0 k true a0_0 a0_1 a0_2 l0_3 l0_4 l0_5 l0_6 a0_7 a0_8 l0_9) else (falseworklaw17_Great.j0 k (decide ((l0_9.length : Int) > 100)) a0_0 a0_1 a0_2 l0_3 l0_4 l0_5 l0_6 a0_7 a0_8 l0_9))))))) = some r := h
 clear h; have HC2 := Aside0.mk H; clear H; go_enter Tryd.func46, Tryd.ntmps46
 go_upto_region 1 with (first | ((with_reducible refine gate_dst (N := 1) rfl ?_); (try (refine gate_guard (by rfl) ?_; dsimp only)); refine box_event ?hg (N := 1) ?hd (cs := #[.int .i64 a0_0, .string a0_1, .string a0_2, .slice A0_3 l0_3.length c0_3, .slice A0_4 l0_4.length c0_4, .slice A0_5 l0_5.length c0_5, .slice A0_6 l0_6.length c0_6, .bool a0_7, .int .i64 a0_8, .slice A0_9 l0_9.length c0_9]) (t := 45) ?hr ?_; (case hd => rfl); (case hg => rfl); (case hr => first | (go_simp; done) | (go_simp; rfl)); intro gb418 hg w3 hbox hb; have n0_ := Aside0.mk (below_step (by repeat (first | (with_reducible first | exact HB.out | apply below_alloc | apply pw_below_drewN | apply below_drew1) | exact HB.out)) hb); have n1_ := Aside0.mk (hbox); have n2_ := Aside0.mk ((by rw [hg]; exact (below_size (by repeat (first | (with_reducible first | exact HB.out | apply below_alloc | apply pw_below_drewN | apply below_drew1) | exact HB.out))) : w.heap.size ≤ gb418)); have n3_ := Aside0.mk ((by rw [hg]; exact (below_size (by repeat (first | (with_reducible first | exact HB.out | apply below_alloc | apply pw_below_drewN | apply below_drew1) | exact HB.out))) : w.heap.size ≤ gb418)); clear HB; have HB := n0_; have BK418 := n1_; have GW418 := n2_; have GE418 := n3_; clear n0_ n1_ n2_ n3_; clear hb hbox hg))
 repeat (go_quiet (first | ((with_reducible refine gate_dst (N := 1) rfl ?_); (try (refine gate_guard (by rfl) ?_; dsimp only)); refine box_event ?hg (N := 1) ?hd (cs := #[.int .i64 a0_0, .string a0_1, .string a0_2, .slice A0_3 l0_3.length c0_3, .slice A0_4 l0_4.length c0_4, .slice A0_5 l0_5.length c0_5, .slice A0_6 l0_6.length c0_6, .bool a0_7, .int .i64 a0_8, .slice A0_9 l0_9.length c0_9]) (t := 45) ?hr ?_; (case hd => rfl); (case hg => rfl); (case hr => first | (go_simp; done) | (go_simp; rfl)); intro gb418 hg w3 hbox hb; have n0_ := Aside0.mk (below_step (by repeat (first | (with_reducible first | exact HB.out | apply below_alloc | apply pw_below_drewN | apply below_drew1) | exact HB.out)) hb); have n1_ := Aside0.mk (hbox); have n2_ := Aside0.mk ((by rw [hg]; exact (below_size (by repeat (first | (with_reducible first | exact HB.out | apply below_alloc | apply pw_below_drewN | apply below_drew1) | exact HB.out))) : w.heap.size ≤ gb418)); have n3_ := Aside0.mk ((by rw [hg]; exact (below_size (by repeat (first | (with_reducible first | exact HB.out | apply below_alloc | apply pw_below_drewN | apply below_drew1) | exact HB.out))) : w.heap.size ≤ gb418)); clear HB; have HB := n0_; have BK418 := n1_; have GW418 := n2_; have GE418 := n3_; clear n0_ n1_ n2_ n3_; clear hb hbox hg)); go_upto_region 1 with (first | ((with_reducible refine gate_dst (N := 1) rfl ?_); (try (refine gate_guard (by rfl) ?_; dsimp only)); refine box_event ?hg (N := 1) ?hd (cs := #[.int .i64 a0_0, .string a0_1, .string a0_2, .slice A0_3 l0_3.length c0_3, .slice A0_4 l0_4.length c0_4, .slice A0_5 l0_5.length c0_5, .slice A0_6 l0_6.length c0_6, .bool a0_7, .int .i64 a0_8, .slice A0_9 l0_9.length c0_9]) (t := 45) ?hr ?_; (case hd => rfl); (case hg => rfl); (case hr => first | (go_simp; done) | (go_simp; rfl)); intro gb418 hg w3 hbox hb; have n0_ := Aside0.mk (below_step (by repeat (first | (with_reducible first | exact HB.out | apply below_alloc | apply pw_below_drewN | apply below_drew1) | exact HB.out)) hb); have n1_ := Aside0.mk (hbox); have n2_ := Aside0.mk ((by rw [hg]; exact (below_size (by repeat (first | (with_reducible first | exact HB.out | apply below_alloc | apply pw_below_drewN | apply below_drew1) | exact HB.out))) : w.heap.size ≤ gb418)); have n3_ := Aside0.mk ((by rw [hg]; exact (below_size (by repeat (first | (with_reducible first | exact HB.out | apply below_alloc | apply pw_below_drewN | apply below_drew1) | exact HB.out))) : w.heap.size ≤ gb418)); clear HB; have HB := n0_; have BK418 := n1_; have GW418 := n2_; have GE418 := n3_; clear n0_ n1_ n2_ n3_; clear hb hbox hg)))
 (try simp only [Act.put, List.setIfInBounds_toArray, List.set_cons_zero, List.set_cons_succ])
 go_cut [47] (fun v47 wc => ∃ (kq : Nat) (x47_1 : Bool), v47 = .bool x47_1 ∧ Aside0 (falseworklaw17_Great.j0 kq x47_1 a0_0 a0_1 a0_2 l0_3 l0_4 l0_5 l0_6 a0_7 a0_8 l0_9 = some r) ∧ Aside0 (kq ≤ k) ∧ Aside0 (wc.heap[gb418]? = some (.cells #[.int .i64 a0_0, .string a0_1, .string a0_2, (.slice A0_3 l0_3.length c0_3), (.slice A0_4 l0_4.length c0_4), (.slice A0_5 l0_5.length c0_5), (.slice A0_6 l0_6.length c0_6), .bool a0_7, .int .i64 a0_8, (.slice A0_9 l0_9.length c0_9)] 45 (0, 0))) ∧ Aside0 (Below w.heap.size w wc))
 case first =>
  have H := HC2.out; clear HC2; by_cases c4 : (a0_1.size : Int) > 1000
  ·rw [if_pos c4] at H
   have c4b0 : decide (1000 < (a0_1.size : Int)) = true := decide_eq_true c4
   have c4b1 : decide (1000 < a0_1.size) = true := decide_eq_true (by omega)
   clear c4
   (first | rw [c4b0] | (simp only [i64_w, i32_w]; rw [c4b0]) | skip)
   have H' := Aside0.mk H; clear H; have hcz5_0 : w3.cell? ⟨gb418, 0, none⟩ = some (.int .i64 a0_0) := (pwC BK418.out 0).trans rfl
   have hcz5_1 : w3.cell? ⟨gb418, 1, none⟩ = some (.string a0_1) := (pwC BK418.out 1).trans rfl
   have hcz5_2 : w3.cell? ⟨gb418, 2, none⟩ = some (.string a0_2) := (pwC BK418.out 2).trans rfl
   have hcz5_3 : w3.cell? ⟨gb418, 3, none⟩ = some (.slice A0_3 l0_3.length c0_3) := (pwC BK418.out 3).trans rfl
   have hcz5_4 : w3.cell? ⟨gb418, 4, none⟩ = some (.slice A0_4 l0_4.length c0_4) := (pwC BK418.out 4).trans rfl
   have hcz5_5 : w3.cell? ⟨gb418, 5, none⟩ = some (.slice A0_5 l0_5.length c0_5) := (pwC BK418.out 5).trans rfl
   have hcz5_6 : w3.cell? ⟨gb418, 6, none⟩ = some (.slice A0_6 l0_6.length c0_6) := (pwC BK418.out 6).trans rfl
   have hcz5_7 : w3.cell? ⟨gb418, 7, none⟩ = some (.bool a0_7) := (pwC BK418.out 7).trans rfl
   have hcz5_8 : w3.cell? ⟨gb418, 8, none⟩ = some (.int .i64 a0_8) := (pwC BK418.out 8).trans rfl
   have hcz5_9 : w3.cell? ⟨gb418, 9, none⟩ = some (.slice A0_9 l0_9.length c0_9) := (pwC BK418.out 9).trans rfl
   have hfz5_0 := blk_frozen BK418.out 0
   have hfz5_1 := blk_frozen BK418.out 1
   have hfz5_2 := blk_frozen BK418.out 2
   have hfz5_3 := blk_frozen BK418.out 3
   have hfz5_4 := blk_frozen BK418.out 4
   have hfz5_5 := blk_frozen BK418.out 5
   have hfz5_6 := blk_frozen BK418.out 6
   have hfz5_7 := blk_frozen BK418.out 7
   have hfz5_8 := blk_frozen BK418.out 8
   have hfz5_9 := blk_frozen BK418.out 9
   go_wp2
   repeat (go_quiet (fail); try go_wp2)
   go_meet
   case rel => exact ⟨_, (true), (by first | rfl | (simp; done) | (simp [*]; done)), H', ⟨by first | omega | exact Nat.le_refl _⟩, ⟨by (with_reducible repeat (first | refine blk_drewN ?_ _ | refine blk_drew ?_ | refine blk_alloc ?_ _)); exact BK418.out⟩, ⟨by repeat (first | (with_reducible first | exact HB.out | apply below_alloc | apply pw_below_drewN | apply below_drew1 | refine below_set ?_ GE418.out) | exact HB.out)⟩⟩
  ·rw [if_neg c4] at H
   have c4b0 : decide (1000 < (a0_1.size : Int)) = false := decide_eq_false c4
   have c4b1 : decide (1000 < a0_1.size) = false := decide_eq_false (by omega)
   clear c4
   (first | rw [c4b0] | (simp only [i64_w, i32_w]; rw [c4b0]) | skip)
   by_cases c6 : (a0_2.size : Int) > 1000
   ·rw [if_pos c6] at H
    have c6b0 : decide (1000 < (a0_2.size : Int)) = true := decide_eq_true c6
    have c6b1 : decide (1000 < a0_2.size) = true := decide_eq_true (by omega)
    clear c6; have H' := Aside0.mk H; clear H; have hcz7_0 : w3.cell? ⟨gb418, 0, none⟩ = some (.int .i64 a0_0) := (pwC BK418.out 0).trans rfl
    have hcz7_1 : w3.cell? ⟨gb418, 1, none⟩ = some (.string a0_1) := (pwC BK418.out 1).trans rfl
    have hcz7_2 : w3.cell? ⟨gb418, 2, none⟩ = some (.string a0_2) := (pwC BK418.out 2).trans rfl
    have hcz7_3 : w3.cell? ⟨gb418, 3, none⟩ = some (.slice A0_3 l0_3.length c0_3) := (pwC BK418.out 3).trans rfl
    have hcz7_4 : w3.cell? ⟨gb418, 4, none⟩ = some (.slice A0_4 l0_4.length c0_4) := (pwC BK418.out 4).trans rfl
    have hcz7_5 : w3.cell? ⟨gb418, 5, none⟩ = some (.slice A0_5 l0_5.length c0_5) := (pwC BK418.out 5).trans rfl
    have hcz7_6 : w3.cell? ⟨gb418, 6, none⟩ = some (.slice A0_6 l0_6.length c0_6) := (pwC BK418.out 6).trans rfl
    have hcz7_7 : w3.cell? ⟨gb418, 7, none⟩ = some (.bool a0_7) := (pwC BK418.out 7).trans rfl
    have hcz7_8 : w3.cell? ⟨gb418, 8, none⟩ = some (.int .i64 a0_8) := (pwC BK418.out 8).trans rfl
    have hcz7_9 : w3.cell? ⟨gb418, 9, none⟩ = some (.slice A0_9 l0_9.length c0_9) := (pwC BK418.out 9).trans rfl
    have hfz7_0 := blk_frozen BK418.out 0
    have hfz7_1 := blk_frozen BK418.out 1
    have hfz7_2 := blk_frozen BK418.out 2
    have hfz7_3 := blk_frozen BK418.out 3
    have hfz7_4 := blk_frozen BK418.out 4
    have hfz7_5 := blk_frozen BK418.out 5
    have hfz7_6 := blk_frozen BK418.out 6
    have hfz7_7 := blk_frozen BK418.out 7
    have hfz7_8 := blk_frozen BK418.out 8
    have hfz7_9 := blk_frozen BK418.out 9
    go_wp2
    repeat (go_quiet (fail); try go_wp2)
    go_meet
    case rel => exact ⟨_, (true), (by first | rfl | (simp; done) | (simp [*]; done)), H', ⟨by first | omega | exact Nat.le_refl _⟩, ⟨by (with_reducible repeat (first | refine blk_drewN ?_ _ | refine blk_drew ?_ | refine blk_alloc ?_ _)); exact BK418.out⟩, ⟨by repeat (first | (with_reducible first | exact HB.out | apply below_alloc | apply pw_below_drewN | apply below_drew1 | refine below_set ?_ GE418.out) | exact HB.out)⟩⟩
   ·rw [if_neg c6] at H
    have c6b0 : decide (1000 < (a0_2.size : Int)) = false := decide_eq_false c6
    have c6b1 : decide (1000 < a0_2.size) = false := decide_eq_false (by omega)
    clear c6; by_cases c8 : (l0_3.length : Int) > 100
    ·rw [if_pos c8] at H
     have c8b0 : decide (100 < (l0_3.length : Int)) = true := decide_eq_true c8
     have c8b1 : decide (100 < l0_3.length) = true := decide_eq_true (by omega)
     clear c8; have H' := Aside0.mk H; clear H; have hcz9_0 : w3.cell? ⟨gb418, 0, none⟩ = some (.int .i64 a0_0) := (pwC BK418.out 0).trans rfl
     have hcz9_1 : w3.cell? ⟨gb418, 1, none⟩ = some (.string a0_1) := (pwC BK418.out 1).trans rfl
     have hcz9_2 : w3.cell? ⟨gb418, 2, none⟩ = some (.string a0_2) := (pwC BK418.out 2).trans rfl
     have hcz9_3 : w3.cell? ⟨gb418, 3, none⟩ = some (.slice A0_3 l0_3.length c0_3) := (pwC BK418.out 3).trans rfl
     have hcz9_4 : w3.cell? ⟨gb418, 4, none⟩ = some (.slice A0_4 l0_4.length c0_4) := (pwC BK418.out 4).trans rfl
     have hcz9_5 : w3.cell? ⟨gb418, 5, none⟩ = some (.slice A0_5 l0_5.length c0_5) := (pwC BK418.out 5).trans rfl
     have hcz9_6 : w3.cell? ⟨gb418, 6, none⟩ = some (.slice A0_6 l0_6.length c0_6) := (pwC BK418.out 6).trans rfl
     have hcz9_7 : w3.cell? ⟨gb418, 7, none⟩ = some (.bool a0_7) := (pwC BK418.out 7).trans rfl
     have hcz9_8 : w3.cell? ⟨gb418, 8, none⟩ = some (.int .i64 a0_8) := (pwC BK418.out 8).trans rfl
     have hcz9_9 : w3.cell? ⟨gb418, 9, none⟩ = some (.slice A0_9 l0_9.length c0_9) := (pwC BK418.out 9).trans rfl
     have hfz9_0 := blk_frozen BK418.out 0
     have hfz9_1 := blk_frozen BK418.out 1
     have hfz9_2 := blk_frozen BK418.out 2
     have hfz9_3 := blk_frozen BK418.out 3
     have hfz9_4 := blk_frozen BK418.out 4
     have hfz9_5 := blk_frozen BK418.out 5
     have hfz9_6 := blk_frozen BK418.out 6
     have hfz9_7 := blk_frozen BK418.out 7
     have hfz9_8 := blk_frozen BK418.out 8
     have hfz9_9 := blk_frozen BK418.out 9
     go_wp2
     repeat (go_quiet (fail); try go_wp2)
     go_meet
     case rel => exact ⟨_, (true), (by first | rfl | (simp; done) | (simp [*]; done)), H', ⟨by first | omega | exact Nat.le_refl _⟩, ⟨by (with_reducible repeat (first | refine blk_drewN ?_ _ | refine blk_drew ?_ | refine blk_alloc ?_ _)); exact BK418.out⟩, ⟨by repeat (first | (with_reducible first | exact HB.out | apply below_alloc | apply pw_below_drewN | apply below_drew1 | refine below_set ?_ GE418.out) | exact HB.out)⟩⟩
    ·rw [if_neg c8] at H
     have c8b0 : decide (100 < (l0_3.length : Int)) = false := decide_eq_false c8
     have c8b1 : decide (100 < l0_3.length) = false := decide_eq_false (by omega)
     clear c8; by_cases c10 : (l0_4.length : Int) > 100
     ·rw [if_pos c10] at H
      have c10b0 : decide (100 < (l0_4.length : Int)) = true := decide_eq_true c10
      have c10b1 : decide (100 < l0_4.length) = true := decide_eq_true (by omega)
      clear c10; have H' := Aside0.mk H; clear H; have hcz11_0 : w3.cell? ⟨gb418, 0, none⟩ = some (.int .i64 a0_0) := (pwC BK418.out 0).trans rfl
      have hcz11_1 : w3.cell? ⟨gb418, 1, none⟩ = some (.string a0_1) := (pwC BK418.out 1).trans rfl
      have hcz11_2 : w3.cell? ⟨gb418, 2, none⟩ = some (.string a0_2) := (pwC BK418.out 2).trans rfl
      have hcz11_3 : w3.cell? ⟨gb418, 3, none⟩ = some (.slice A0_3 l0_3.length c0_3) := (pwC BK418.out 3).trans rfl
      have hcz11_4 : w3.cell? ⟨gb418, 4, none⟩ = some (.slice A0_4 l0_4.length c0_4) := (pwC BK418.out 4).trans rfl
      have hcz11_5 : w3.cell? ⟨gb418, 5, none⟩ = some (.slice A0_5 l0_5.length c0_5) := (pwC BK418.out 5).trans rfl
      have hcz11_6 : w3.cell? ⟨gb418, 6, none⟩ = some (.slice A0_6 l0_6.length c0_6) := (pwC BK418.out 6).trans rfl
      have hcz11_7 : w3.cell? ⟨gb418, 7, none⟩ = some (.bool a0_7) := (pwC BK418.out 7).trans rfl
      have hcz11_8 : w3.cell? ⟨gb418, 8, none⟩ = some (.int .i64 a0_8) := (pwC BK418.out 8).trans rfl
      have hcz11_9 : w3.cell? ⟨gb418, 9, none⟩ = some (.slice A0_9 l0_9.length c0_9) := (pwC BK418.out 9).trans rfl
      have hfz11_0 := blk_frozen BK418.out 0
      have hfz11_1 := blk_frozen BK418.out 1
      have hfz11_2 := blk_frozen BK418.out 2
      have hfz11_3 := blk_frozen BK418.out 3
      have hfz11_4 := blk_frozen BK418.out 4
      have hfz11_5 := blk_frozen BK418.out 5
      have hfz11_6 := blk_frozen BK418.out 6
      have hfz11_7 := blk_frozen BK418.out 7
      have hfz11_8 := blk_frozen BK418.out 8
      have hfz11_9 := blk_frozen BK418.out 9
      go_wp2
      repeat (go_quiet (fail); try go_wp2)
      go_meet
      case rel => exact ⟨_, (true), (by first | rfl | (simp; done) | (simp [*]; done)), H', ⟨by first | omega | exact Nat.le_refl _⟩, ⟨by (with_reducible repeat (first | refine blk_drewN ?_ _ | refine blk_drew ?_ | refine blk_alloc ?_ _)); exact BK418.out⟩, ⟨by repeat (first | (with_reducible first | exact HB.out | apply below_alloc | apply pw_below_drewN | apply below_drew1 | refine below_set ?_ GE418.out) | exact HB.out)⟩⟩
     ·rw [if_neg c10] at H
      have c10b0 : decide (100 < (l0_4.length : Int)) = false := decide_eq_false c10
      have c10b1 : decide (100 < l0_4.length) = false := decide_eq_false (by omega)
      clear c10; by_cases c12 : (l0_5.length : Int) > 100
      ·rw [if_pos c12] at H
       have c12b0 : decide (100 < (l0_5.length : Int)) = true := decide_eq_true c12
       have c12b1 : decide (100 < l0_5.length) = true := decide_eq_true (by omega)
       clear c12; have H' := Aside0.mk H; clear H; have hcz13_0 : w3.cell? ⟨gb418, 0, none⟩ = some (.int .i64 a0_0) := (pwC BK418.out 0).trans rfl
       have hcz13_1 : w3.cell? ⟨gb418, 1, none⟩ = some (.string a0_1) := (pwC BK418.out 1).trans rfl
       have hcz13_2 : w3.cell? ⟨gb418, 2, none⟩ = some (.string a0_2) := (pwC BK418.out 2).trans rfl
       have hcz13_3 : w3.cell? ⟨gb418, 3, none⟩ = some (.slice A0_3 l0_3.length c0_3) := (pwC BK418.out 3).trans rfl
       have hcz13_4 : w3.cell? ⟨gb418, 4, none⟩ = some (.slice A0_4 l0_4.length c0_4) := (pwC BK418.out 4).trans rfl
       have hcz13_5 : w3.cell? ⟨gb418, 5, none⟩ = some (.slice A0_5 l0_5.length c0_5) := (pwC BK418.out 5).trans rfl
       have hcz13_6 : w3.cell? ⟨gb418, 6, none⟩ = some (.slice A0_6 l0_6.length c0_6) := (pwC BK418.out 6).trans rfl
       have hcz13_7 : w3.cell? ⟨gb418, 7, none⟩ = some (.bool a0_7) := (pwC BK418.out 7).trans rfl
       have hcz13_8 : w3.cell? ⟨gb418, 8, none⟩ = some (.int .i64 a0_8) := (pwC BK418.out 8).trans rfl
       have hcz13_9 : w3.cell? ⟨gb418, 9, none⟩ = some (.slice A0_9 l0_9.length c0_9) := (pwC BK418.out 9).trans rfl
       have hfz13_0 := blk_frozen BK418.out 0
       have hfz13_1 := blk_frozen BK418.out 1
       have hfz13_2 := blk_frozen BK418.out 2
       have hfz13_3 := blk_frozen BK418.out 3
       have hfz13_4 := blk_frozen BK418.out 4
       have hfz13_5 := blk_frozen BK418.out 5
       have hfz13_6 := blk_frozen BK418.out 6
       have hfz13_7 := blk_frozen BK418.out 7
       have hfz13_8 := blk_frozen BK418.out 8
       have hfz13_9 := blk_frozen BK418.out 9
       go_wp2
       repeat (go_quiet (fail); try go_wp2)
       go_meet
       case rel => exact ⟨_, (true), (by first | rfl | (simp; done) | (simp [*]; done)), H', ⟨by first | omega | exact Nat.le_refl _⟩, ⟨by (with_reducible repeat (first | refine blk_drewN ?_ _ | refine blk_drew ?_ | refine blk_alloc ?_ _)); exact BK418.out⟩, ⟨by repeat (first | (with_reducible first | exact HB.out | apply below_alloc | apply pw_below_drewN | apply below_drew1 | refine below_set ?_ GE418.out) | exact HB.out)⟩⟩
      ·rw [if_neg c12] at H
       have c12b0 : decide (100 < (l0_5.length : Int)) = false := decide_eq_false c12
       have c12b1 : decide (100 < l0_5.length) = false := decide_eq_false (by omega)
       clear c12; by_cases c14 : (l0_6.length : Int) > 100
       ·rw [if_pos c14] at H
        have c14b0 : decide (100 < (l0_6.length : Int)) = true := decide_eq_true c14
        have c14b1 : decide (100 < l0_6.length) = true := decide_eq_true (by omega)
        clear c14; have H' := Aside0.mk H; clear H; have hcz15_0 : w3.cell? ⟨gb418, 0, none⟩ = some (.int .i64 a0_0) := (pwC BK418.out 0).trans rfl
        have hcz15_1 : w3.cell? ⟨gb418, 1, none⟩ = some (.string a0_1) := (pwC BK418.out 1).trans rfl
        have hcz15_2 : w3.cell? ⟨gb418, 2, none⟩ = some (.string a0_2) := (pwC BK418.out 2).trans rfl
        have hcz15_3 : w3.cell? ⟨gb418, 3, none⟩ = some (.slice A0_3 l0_3.length c0_3) := (pwC BK418.out 3).trans rfl
        have hcz15_4 : w3.cell? ⟨gb418, 4, none⟩ = some (.slice A0_4 l0_4.length c0_4) := (pwC BK418.out 4).trans rfl
        have hcz15_5 : w3.cell? ⟨gb418, 5, none⟩ = some (.slice A0_5 l0_5.length c0_5) := (pwC BK418.out 5).trans rfl
        have hcz15_6 : w3.cell? ⟨gb418, 6, none⟩ = some (.slice A0_6 l0_6.length c0_6) := (pwC BK418.out 6).trans rfl
        have hcz15_7 : w3.cell? ⟨gb418, 7, none⟩ = some (.bool a0_7) := (pwC BK418.out 7).trans rfl
        have hcz15_8 : w3.cell? ⟨gb418, 8, none⟩ = some (.int .i64 a0_8) := (pwC BK418.out 8).trans rfl
        have hcz15_9 : w3.cell? ⟨gb418, 9, none⟩ = some (.slice A0_9 l0_9.length c0_9) := (pwC BK418.out 9).trans rfl
        have hfz15_0 := blk_frozen BK418.out 0
        have hfz15_1 := blk_frozen BK418.out 1
        have hfz15_2 := blk_frozen BK418.out 2
        have hfz15_3 := blk_frozen BK418.out 3
        have hfz15_4 := blk_frozen BK418.out 4
        have hfz15_5 := blk_frozen BK418.out 5
        have hfz15_6 := blk_frozen BK418.out 6
        have hfz15_7 := blk_frozen BK418.out 7
        have hfz15_8 := blk_frozen BK418.out 8
        have hfz15_9 := blk_frozen BK418.out 9
        go_wp2
        repeat (go_quiet (fail); try go_wp2)
        go_meet
        case rel => exact ⟨_, (true), (by first | rfl | (simp; done) | (simp [*]; done)), H', ⟨by first | omega | exact Nat.le_refl _⟩, ⟨by (with_reducible repeat (first | refine blk_drewN ?_ _ | refine blk_drew ?_ | refine blk_alloc ?_ _)); exact BK418.out⟩, ⟨by repeat (first | (with_reducible first | exact HB.out | apply below_alloc | apply pw_below_drewN | apply below_drew1 | refine below_set ?_ GE418.out) | exact HB.out)⟩⟩
       ·rw [if_neg c14] at H
        have c14b0 : decide (100 < (l0_6.length : Int)) = false := decide_eq_false c14
        have c14b1 : decide (100 < l0_6.length) = false := decide_eq_false (by omega)
        clear c14; have H' := Aside0.mk H; clear H; have hcz16_0 : w3.cell? ⟨gb418, 0, none⟩ = some (.int .i64 a0_0) := (pwC BK418.out 0).trans rfl
        have hcz16_1 : w3.cell? ⟨gb418, 1, none⟩ = some (.string a0_1) := (pwC BK418.out 1).trans rfl
        have hcz16_2 : w3.cell? ⟨gb418, 2, none⟩ = some (.string a0_2) := (pwC BK418.out 2).trans rfl
        have hcz16_3 : w3.cell? ⟨gb418, 3, none⟩ = some (.slice A0_3 l0_3.length c0_3) := (pwC BK418.out 3).trans rfl
        have hcz16_4 : w3.cell? ⟨gb418, 4, none⟩ = some (.slice A0_4 l0_4.length c0_4) := (pwC BK418.out 4).trans rfl
        have hcz16_5 : w3.cell? ⟨gb418, 5, none⟩ = some (.slice A0_5 l0_5.length c0_5) := (pwC BK418.out 5).trans rfl
        have hcz16_6 : w3.cell? ⟨gb418, 6, none⟩ = some (.slice A0_6 l0_6.length c0_6) := (pwC BK418.out 6).trans rfl
        have hcz16_7 : w3.cell? ⟨gb418, 7, none⟩ = some (.bool a0_7) := (pwC BK418.out 7).trans rfl
        have hcz16_8 : w3.cell? ⟨gb418, 8, none⟩ = some (.int .i64 a0_8) := (pwC BK418.out 8).trans rfl
        have hcz16_9 : w3.cell? ⟨gb418, 9, none⟩ = some (.slice A0_9 l0_9.length c0_9) := (pwC BK418.out 9).trans rfl
        have hfz16_0 := blk_frozen BK418.out 0
        have hfz16_1 := blk_frozen BK418.out 1
        have hfz16_2 := blk_frozen BK418.out 2
        have hfz16_3 := blk_frozen BK418.out 3
        have hfz16_4 := blk_frozen BK418.out 4
        have hfz16_5 := blk_frozen BK418.out 5
        have hfz16_6 := blk_frozen BK418.out 6
        have hfz16_7 := blk_frozen BK418.out 7
        have hfz16_8 := blk_frozen BK418.out 8
        have hfz16_9 := blk_frozen BK418.out 9
        go_wp2
        repeat (go_quiet (fail); try go_wp2)
        go_meet
        case rel => exact ⟨_, (decide ((l0_9.length : Int) > 100)), (by first | rfl | (simp; done) | (simp [*]; done)), H', ⟨by first | omega | exact Nat.le_refl _⟩, ⟨by (with_reducible repeat (first | refine blk_drewN ?_ _ | refine blk_drew ?_ | refine blk_alloc ?_ _)); exact BK418.out⟩, ⟨by repeat (first | (with_reducible first | exact HB.out | apply below_alloc | apply pw_below_drewN | apply below_drew1 | refine below_set ?_ GE418.out) | exact HB.out)⟩⟩
 case rest =>
  clear HC2; obtain ⟨kq, x47_1, rfl, HA, HJ1, BK418, HB⟩ := hcut
  cases kq with
  | zero => exact absurd HA.out (by simp [falseworklaw17_Great.j0])
  | succ kj1 =>
   have H := HA.out; clear HA; simp only [falseworklaw17_Great.j0] at H
   by_cases c17 : x47_1 = true
   ·subst c17
    have H1 : (some true) = some r := by rw [if_pos rfl] at H; exact H
    clear H; have H := H1; clear H1; obtain rfl := Option.some.inj H; go_wp2
    repeat (go_quiet (fail); try go_wp2)
    go_ret; exact ⟨by first | rfl | (simp [*] <;> rfl), by repeat (first | exact HB.out | exact Below.refl _ _ | apply below_alloc | apply pw_below_drewN | apply below_drew1)⟩
   ·replace c17 := Bool.eq_false_iff.mpr c17
    subst c17; have H1 : (falseworklaw17_Great.l0 kj1 0 0 a0_0 a0_1 a0_2 l0_3 l0_4 l0_5 l0_6 a0_7 a0_8 l0_9) = some r := by rw [if_neg (show ¬ (false = true) by decide)] at H; exact H
    clear H; have H := H1; clear H1; have HC18 := Aside0.mk H; clear H; go_upto_block 0 with (fail)
    repeat (go_quiet (fail); go_upto_block 0 with (fail))
    go_cut [3] (fun v3 wc => ∃ (kq : Nat) (x3_17 : Int), v3 = .int .i64 x3_17 ∧ Aside0 (falseworklaw17_Great.j2 kq x3_17 a0_0 a0_1 a0_2 l0_3 l0_4 l0_5 l0_6 a0_7 a0_8 l0_9 = some r) ∧ Aside0 (kq ≤ kj1) ∧ Aside0 (wc.heap[gb418]? = some (.cells #[.int .i64 a0_0, .string a0_1, .string a0_2, (.slice A0_3 l0_3.length c0_3), (.slice A0_4 l0_4.length c0_4), (.slice A0_5 l0_5.length c0_5), (.slice A0_6 l0_6.length c0_6), .bool a0_7, .int .i64 a0_8, (.slice A0_9 l0_9.length c0_9)] 45 (0, 0))) ∧ Aside0 (Below w.heap.size w wc))
    case first =>
     have H := HC18.out; clear HC18; have H' := Aside0.mk H; clear H; go_wp2
     repeat (go_quiet (fail); try go_wp2)
     go_loopg [3, 4] kj1 (fun kq v3 v4 w' => ∃ (x3_2 : Int) (x4_2 : Int), v3 = .int .i64 x3_2 ∧ v4 = .int .i64 x4_2 ∧ Aside0 (falseworklaw17_Great.l0 kq x3_2 x4_2 a0_0 a0_1 a0_2 l0_3 l0_4 l0_5 l0_6 a0_7 a0_8 l0_9 = some r) ∧ Aside0 (kq ≤ kj1) ∧ Aside0 (w'.heap[gb418]? = some (.cells #[.int .i64 a0_0, .string a0_1, .string a0_2, (.slice A0_3 l0_3.length c0_3), (.slice A0_4 l0_4.length c0_4), (.slice A0_5 l0_5.length c0_5), (.slice A0_6 l0_6.length c0_6), .bool a0_7, .int .i64 a0_8, (.slice A0_9 l0_9.length c0_9)] 45 (0, 0))) ∧ Aside0 (Below w.heap.size w w'))
     case atStart => exact ⟨(0), (0), (by first | rfl | (simp; done) | (simp [*]; done)), (by first | rfl | (simp; done) | (simp [*]; done)), H', ⟨Nat.le_refl _⟩, ⟨by (with_reducible repeat (first | refine blk_drewN ?_ _ | refine blk_drew ?_ | refine blk_alloc ?_ _)); exact BK418.out⟩, ⟨by repeat (first | (with_reducible first | exact HB.out | apply below_alloc | apply pw_below_drewN | apply below_drew1 | refine below_set ?_ GE418.out) | exact HB.out)⟩⟩
     case round =>
      clear H'; obtain ⟨x3_2, x4_2, rfl, rfl, HA, HK2, BK418, HB⟩ := hrel
      cases gk with
      | zero => exact absurd HA.out (by simp [falseworklaw17_Great.l0])
      | succ k2 =>
       have H := HA.out; clear HA; simp only [falseworklaw17_Great.l0] at H
       by_cases c19 : x4_2 < (l0_3.length : Int)
       ·rw [if_pos c19] at H
        have c19b0 : decide (x4_2 < (l0_3.length : Int)) = true := decide_eq_true c19
        clear c19
        (first | rw [c19b0] | (simp only [i64_w, i32_w]; rw [c19b0]) | skip)
        by_cases c20 : x3_2 ≤ 5000
        ·rw [if_pos c20] at H
         have c20b0 : decide (x3_2 ≤ 5000) = true := decide_eq_true c20
         clear c20; by_cases c21 : 0 ≤ x4_2
         ·rw [if_pos c21] at H
          have c21b0 : decide (0 ≤ x4_2) = true := decide_eq_true c21
          clear c21; obtain ⟨ji22, hji22⟩ : ∃ j_ : Int, (mn ((rdOf ByteArray.empty l0_3 x4_2).size : Int) 5001) = j_ := ⟨_, rfl⟩
          replace H : (falseworklaw17_Great.l0 k2 (wrap64 (x3_2 + (ji22))) (wrap64 (x4_2 + 1)) a0_0 a0_1 a0_2 l0_3 l0_4 l0_5 l0_6 a0_7 a0_8 l0_9) = some r := by first | (rw [hji22] at H; exact H) | (simp only [hji22] at H ⊢; exact H)
          have hji22_ : (if 5001 < ((rdOf ByteArray.empty l0_3 x4_2).size : Int) then 5001 else ((rdOf ByteArray.empty l0_3 x4_2).size : Int)) = ji22 := hji22
          have H' := Aside0.mk H; clear H; have hcz23_0 : wr.cell? ⟨gb418, 0, none⟩ = some (.int .i64 a0_0) := (pwC BK418.out 0).trans rfl
          have hcz23_1 : wr.cell? ⟨gb418, 1, none⟩ = some (.string a0_1) := (pwC BK418.out 1).trans rfl
          have hcz23_2 : wr.cell? ⟨gb418, 2, none⟩ = some (.string a0_2) := (pwC BK418.out 2).trans rfl
          have hcz23_3 : wr.cell? ⟨gb418, 3, none⟩ = some (.slice A0_3 l0_3.length c0_3) := (pwC BK418.out 3).trans rfl
          have hcz23_4 : wr.cell? ⟨gb418, 4, none⟩ = some (.slice A0_4 l0_4.length c0_4) := (pwC BK418.out 4).trans rfl
          have hcz23_5 : wr.cell? ⟨gb418, 5, none⟩ = some (.slice A0_5 l0_5.length c0_5) := (pwC BK418.out 5).trans rfl
          have hcz23_6 : wr.cell? ⟨gb418, 6, none⟩ = some (.slice A0_6 l0_6.length c0_6) := (pwC BK418.out 6).trans rfl
          have hcz23_7 : wr.cell? ⟨gb418, 7, none⟩ = some (.bool a0_7) := (pwC BK418.out 7).trans rfl
          have hcz23_8 : wr.cell? ⟨gb418, 8, none⟩ = some (.int .i64 a0_8) := (pwC BK418.out 8).trans rfl
          have hcz23_9 : wr.cell? ⟨gb418, 9, none⟩ = some (.slice A0_9 l0_9.length c0_9) := (pwC BK418.out 9).trans rfl
          have hfz23_0 := blk_frozen BK418.out 0
          have hfz23_1 := blk_frozen BK418.out 1
          have hfz23_2 := blk_frozen BK418.out 2
          have hfz23_3 := blk_frozen BK418.out 3
          have hfz23_4 := blk_frozen BK418.out 4
          have hfz23_5 := blk_frozen BK418.out 5
          have hfz23_6 := blk_frozen BK418.out 6
          have hfz23_7 := blk_frozen BK418.out 7
          have hfz23_8 := blk_frozen BK418.out 8
          have hfz23_9 := blk_frozen BK418.out 9
          have p419 : 0 ≤ (x4_2 : Int) := of_decide_eq_true (by first | (with_reducible assumption) | assumption)
          have q419 : x4_2 < (l0_3.length : Int) := of_decide_eq_true (by first | (with_reducible assumption) | assumption)
          obtain ⟨ad419, e419, hx419_0⟩ := Kd.at_string HR0_3.out x4_2 p419 q419
          cases e419
          replace hx419_0 := (HB.out.cell (World.block_lt_of_cell? w _ hx419_0)).trans hx419_0
          replace p419 := eq_true p419
          replace q419 := eq_true q419
          go_wp2
          repeat (go_quiet (fail); try go_wp2)
          go_roundg k2
          case measure => have := HJ1.out; have := HK2.out; omega
          case rel => exact ⟨(wrap64 (x3_2 + (ji22))), (wrap64 (x4_2 + 1)), (by first | rfl | (simp; done) | (simp only [← hji22] <;> (first | rfl | simp)) | (simp [*]; done)), (by first | rfl | (simp; done) | (simp [*]; done)), H', ⟨by have := HJ1.out; have := HK2.out; omega⟩, ⟨by (with_reducible repeat (first | refine blk_drewN ?_ _ | refine blk_drew ?_ | refine blk_alloc ?_ _)); exact BK418.out⟩, ⟨by repeat (first | (with_reducible first | exact HB.out | apply below_alloc | apply pw_below_drewN | apply below_drew1 | refine below_set ?_ GE418.out) | exact HB.out)⟩⟩
         ·rw [if_neg c21] at H
          exact absurd H (by simp)
        ·rw [if_neg c20] at H
         have c20b0 : decide (x3_2 ≤ 5000) = false := decide_eq_false c20
         clear c20; have H' := Aside0.mk H; clear H; have hcz24_0 : wr.cell? ⟨gb418, 0, none⟩ = some (.int .i64 a0_0) := (pwC BK418.out 0).trans rfl
         have hcz24_1 : wr.cell? ⟨gb418, 1, none⟩ = some (.string a0_1) := (pwC BK418.out 1).trans rfl
         have hcz24_2 : wr.cell? ⟨gb418, 2, none⟩ = some (.string a0_2) := (pwC BK418.out 2).trans rfl
         have hcz24_3 : wr.cell? ⟨gb418, 3, none⟩ = some (.slice A0_3 l0_3.length c0_3) := (pwC BK418.out 3).trans rfl
         have hcz24_4 : wr.cell? ⟨gb418, 4, none⟩ = some (.slice A0_4 l0_4.length c0_4) := (pwC BK418.out 4).trans rfl
         have hcz24_5 : wr.cell? ⟨gb418, 5, none⟩ = some (.slice A0_5 l0_5.length c0_5) := (pwC BK418.out 5).trans rfl
         have hcz24_6 : wr.cell? ⟨gb418, 6, none⟩ = some (.slice A0_6 l0_6.length c0_6) := (pwC BK418.out 6).trans rfl
         have hcz24_7 : wr.cell? ⟨gb418, 7, none⟩ = some (.bool a0_7) := (pwC BK418.out 7).trans rfl
         have hcz24_8 : wr.cell? ⟨gb418, 8, none⟩ = some (.int .i64 a0_8) := (pwC BK418.out 8).trans rfl
         have hcz24_9 : wr.cell? ⟨gb418, 9, none⟩ = some (.slice A0_9 l0_9.length c0_9) := (pwC BK418.out 9).trans rfl
         have hfz24_0 := blk_frozen BK418.out 0
         have hfz24_1 := blk_frozen BK418.out 1
         have hfz24_2 := blk_frozen BK418.out 2
         have hfz24_3 := blk_frozen BK418.out 3
         have hfz24_4 := blk_frozen BK418.out 4
         have hfz24_5 := blk_frozen BK418.out 5
         have hfz24_6 := blk_frozen BK418.out 6
         have hfz24_7 := blk_frozen BK418.out 7
         have hfz24_8 := blk_frozen BK418.out 8
         have hfz24_9 := blk_frozen BK418.out 9
         go_wp2
         repeat (go_quiet (fail); try go_wp2)
         go_meet
         case rel => exact ⟨_, (x3_2), (by first | rfl | (simp; done) | (simp [*]; done)), H', ⟨by have := HJ1.out; have := HK2.out; first | omega | exact Nat.le_refl _⟩, ⟨by (with_reducible repeat (first | refine blk_drewN ?_ _ | refine blk_drew ?_ | refine blk_alloc ?_ _)); exact BK418.out⟩, ⟨by repeat (first | (with_reducible first | exact HB.out | apply below_alloc | apply pw_below_drewN | apply below_drew1 | refine below_set ?_ GE418.out) | exact HB.out)⟩⟩
       ·rw [if_neg c19] at H
        have c19b0 : decide (x4_2 < (l0_3.length : Int)) = false := decide_eq_false c19
        clear c19
        (first | rw [c19b0] | (simp only [i64_w, i32_w]; rw [c19b0]) | skip)
        have H' := Aside0.mk H; clear H; have hcz25_0 : wr.cell? ⟨gb418, 0, none⟩ = some (.int .i64 a0_0) := (pwC BK418.out 0).trans rfl
        have hcz25_1 : wr.cell? ⟨gb418, 1, none⟩ = some (.string a0_1) := (pwC BK418.out 1).trans rfl
        have hcz25_2 : wr.cell? ⟨gb418, 2, none⟩ = some (.string a0_2) := (pwC BK418.out 2).trans rfl
        have hcz25_3 : wr.cell? ⟨gb418, 3, none⟩ = some (.slice A0_3 l0_3.length c0_3) := (pwC BK418.out 3).trans rfl
        have hcz25_4 : wr.cell? ⟨gb418, 4, none⟩ = some (.slice A0_4 l0_4.length c0_4) := (pwC BK418.out 4).trans rfl
        have hcz25_5 : wr.cell? ⟨gb418, 5, none⟩ = some (.slice A0_5 l0_5.length c0_5) := (pwC BK418.out 5).trans rfl
        have hcz25_6 : wr.cell? ⟨gb418, 6, none⟩ = some (.slice A0_6 l0_6.length c0_6) := (pwC BK418.out 6).trans rfl
        have hcz25_7 : wr.cell? ⟨gb418, 7, none⟩ = some (.bool a0_7) := (pwC BK418.out 7).trans rfl
        have hcz25_8 : wr.cell? ⟨gb418, 8, none⟩ = some (.int .i64 a0_8) := (pwC BK418.out 8).trans rfl
        have hcz25_9 : wr.cell? ⟨gb418, 9, none⟩ = some (.slice A0_9 l0_9.length c0_9) := (pwC BK418.out 9).trans rfl
        have hfz25_0 := blk_frozen BK418.out 0
        have hfz25_1 := blk_frozen BK418.out 1
        have hfz25_2 := blk_frozen BK418.out 2
        have hfz25_3 := blk_frozen BK418.out 3
        have hfz25_4 := blk_frozen BK418.out 4
        have hfz25_5 := blk_frozen BK418.out 5
        have hfz25_6 := blk_frozen BK418.out 6
        have hfz25_7 := blk_frozen BK418.out 7
        have hfz25_8 := blk_frozen BK418.out 8
        have hfz25_9 := blk_frozen BK418.out 9
        go_wp2
        repeat (go_quiet (fail); try go_wp2)
        go_meet
        case rel => exact ⟨_, (x3_2), (by first | rfl | (simp; done) | (simp [*]; done)), H', ⟨by have := HJ1.out; have := HK2.out; first | omega | exact Nat.le_refl _⟩, ⟨by (with_reducible repeat (first | refine blk_drewN ?_ _ | refine blk_drew ?_ | refine blk_alloc ?_ _)); exact BK418.out⟩, ⟨by repeat (first | (with_reducible first | exact HB.out | apply below_alloc | apply pw_below_drewN | apply below_drew1 | refine below_set ?_ GE418.out) | exact HB.out)⟩⟩
    case rest =>
     clear HC18; obtain ⟨kq, x3_17, rfl, HA, HJ17, BK418, HB⟩ := hcut
     cases kq with
     | zero => exact absurd HA.out (by simp [falseworklaw17_Great.j2])
     | succ kj17 =>
      have H := HA.out; clear HA; simp only [falseworklaw17_Great.j2] at H
      have HC26 := Aside0.mk H; clear H; go_upto_block 2 with (fail)
      repeat (go_quiet (fail); go_upto_block 2 with (fail))
      go_cut [3] (fun v3 wc => ∃ (kq : Nat) (x3_25 : Int), v3 = .int .i64 x3_25 ∧ Aside0 (falseworklaw17_Great.j4 kq x3_25 a0_0 a0_1 a0_2 l0_3 l0_4 l0_5 l0_6 a0_7 a0_8 l0_9 = some r) ∧ Aside0 (kq ≤ kj17) ∧ Aside0 (wc.heap[gb418]? = some (.cells #[.int .i64 a0_0, .string a0_1, .string a0_2, (.slice A0_3 l0_3.length c0_3), (.slice A0_4 l0_4.length c0_4), (.slice A0_5 l0_5.length c0_5), (.slice A0_6 l0_6.length c0_6), .bool a0_7, .int .i64 a0_8, (.slice A0_9 l0_9.length c0_9)] 45 (0, 0))) ∧ Aside0 (Below w.heap.size w wc))
      case first =>
       have H := HC26.out; clear HC26; have H' := Aside0.mk H; clear H; go_wp2
       repeat (go_quiet (fail); try go_wp2)
       go_loopg [3, 5] kj17 (fun kq v3 v5 w' => ∃ (x3_3 : Int) (x5_3 : Int), v3 = .int .i64 x3_3 ∧ v5 = .int .i64 x5_3 ∧ Aside0 (falseworklaw17_Great.l1 kq x3_3 x5_3 a0_0 a0_1 a0_2 l0_3 l0_4 l0_5 l0_6 a0_7 a0_8 l0_9 = some r) ∧ Aside0 (kq ≤ kj17) ∧ Aside0 (w'.heap[gb418]? = some (.cells #[.int .i64 a0_0, .string a0_1, .string a0_2, (.slice A0_3 l0_3.length c0_3), (.slice A0_4 l0_4.length c0_4), (.slice A0_5 l0_5.length c0_5), (.slice A0_6 l0_6.length c0_6), .bool a0_7, .int .i64 a0_8, (.slice A0_9 l0_9.length c0_9)] 45 (0, 0))) ∧ Aside0 (Below w.heap.size w w'))
       case atStart => exact ⟨(x3_17), (0), (by first | rfl | (simp; done) | (simp [*]; done)), (by first | rfl | (simp; done) | (simp [*]; done)), H', ⟨Nat.le_refl _⟩, ⟨by (with_reducible repeat (first | refine blk_drewN ?_ _ | refine blk_drew ?_ | refine blk_alloc ?_ _)); exact BK418.out⟩, ⟨by repeat (first | (with_reducible first | exact HB.out | apply below_alloc | apply pw_below_drewN | apply below_drew1 | refine below_set ?_ GE418.out) | exact HB.out)⟩⟩
       case round =>
        clear H'; obtain ⟨x3_3, x5_3, rfl, rfl, HA, HK3, BK418, HB⟩ := hrel
        cases gk with
        | zero => exact absurd HA.out (by simp [falseworklaw17_Great.l1])
        | succ k3 =>
         have H := HA.out; clear HA; simp only [falseworklaw17_Great.l1] at H
         by_cases c27 : x5_3 < (l0_4.length : Int)
         ·rw [if_pos c27] at H
          have c27b0 : decide (x5_3 < (l0_4.length : Int)) = true := decide_eq_true c27
          clear c27
          (first | rw [c27b0] | (simp only [i64_w, i32_w]; rw [c27b0]) | skip)
          by_cases c28 : x3_3 ≤ 5000
          ·rw [if_pos c28] at H
           have c28b0 : decide (x3_3 ≤ 5000) = true := decide_eq_true c28
           clear c28; by_cases c29 : 0 ≤ x5_3
           ·rw [if_pos c29] at H
            have c29b0 : decide (0 ≤ x5_3) = true := decide_eq_true c29
            clear c29; obtain ⟨ji30, hji30⟩ : ∃ j_ : Int, (mn (((rd_T73 l0_4 x5_3).f3).size : Int) 5001) = j_ := ⟨_, rfl⟩
            replace H : (falseworklaw17_Great.l1 k3 (wrap64 (x3_3 + (ji30))) (wrap64 (x5_3 + 1)) a0_0 a0_1 a0_2 l0_3 l0_4 l0_5 l0_6 a0_7 a0_8 l0_9) = some r := by first | (rw [hji30] at H; exact H) | (simp only [hji30] at H ⊢; exact H)
            have hji30_ : (if 5001 < (((rd_T73 l0_4 x5_3).f3).size : Int) then 5001 else (((rd_T73 l0_4 x5_3).f3).size : Int)) = ji30 := hji30
            have H' := Aside0.mk H; clear H; have hcz31_0 : wr.cell? ⟨gb418, 0, none⟩ = some (.int .i64 a0_0) := (pwC BK418.out 0).trans rfl
            have hcz31_1 : wr.cell? ⟨gb418, 1, none⟩ = some (.string a0_1) := (pwC BK418.out 1).trans rfl
            have hcz31_2 : wr.cell? ⟨gb418, 2, none⟩ = some (.string a0_2) := (pwC BK418.out 2).trans rfl
            have hcz31_3 : wr.cell? ⟨gb418, 3, none⟩ = some (.slice A0_3 l0_3.length c0_3) := (pwC BK418.out 3).trans rfl
            have hcz31_4 : wr.cell? ⟨gb418, 4, none⟩ = some (.slice A0_4 l0_4.length c0_4) := (pwC BK418.out 4).trans rfl
            have hcz31_5 : wr.cell? ⟨gb418, 5, none⟩ = some (.slice A0_5 l0_5.length c0_5) := (pwC BK418.out 5).trans rfl
            have hcz31_6 : wr.cell? ⟨gb418, 6, none⟩ = some (.slice A0_6 l0_6.length c0_6) := (pwC BK418.out 6).trans rfl
            have hcz31_7 : wr.cell? ⟨gb418, 7, none⟩ = some (.bool a0_7) := (pwC BK418.out 7).trans rfl
            have hcz31_8 : wr.cell? ⟨gb418, 8, none⟩ = some (.int .i64 a0_8) := (pwC BK418.out 8).trans rfl
            have hcz31_9 : wr.cell? ⟨gb418, 9, none⟩ = some (.slice A0_9 l0_9.length c0_9) := (pwC BK418.out 9).trans rfl
            have hfz31_0 := blk_frozen BK418.out 0
            have hfz31_1 := blk_frozen BK418.out 1
            have hfz31_2 := blk_frozen BK418.out 2
            have hfz31_3 := blk_frozen BK418.out 3
            have hfz31_4 := blk_frozen BK418.out 4
            have hfz31_5 := blk_frozen BK418.out 5
            have hfz31_6 := blk_frozen BK418.out 6
            have hfz31_7 := blk_frozen BK418.out 7
            have hfz31_8 := blk_frozen BK418.out 8
            have hfz31_9 := blk_frozen BK418.out 9
            have p420 : 0 ≤ (x5_3 : Int) := of_decide_eq_true (by first | (with_reducible assumption) | assumption)
            have q420 : x5_3 < (l0_4.length : Int) := of_decide_eq_true (by first | (with_reducible assumption) | assumption)
            obtain ⟨ad420, e420, hx420_0, hx420_1, hx420_2, hx420_3⟩ := at_T73 HR0_4.out x5_3 p420 q420
            cases e420
            replace hx420_0 := (HB.out.cell (World.block_lt_of_cell? w _ hx420_0)).trans hx420_0
            replace hx420_1 := (HB.out.cell (World.block_lt_of_cell? w _ hx420_1)).trans hx420_1
            replace hx420_2 := (HB.out.cell (World.block_lt_of_cell? w _ hx420_2)).trans hx420_2
            replace hx420_3 := (HB.out.cell (World.block_lt_of_cell? w _ hx420_3)).trans hx420_3
            replace p420 := eq_true p420
            replace q420 := eq_true q420
            go_wp2
            repeat (go_quiet (fail); try go_wp2)
            go_roundg k3
            case measure => have := HJ1.out; have := HJ17.out; have := HK3.out; omega
            case rel => exact ⟨(wrap64 (x3_3 + (ji30))), (wrap64 (x5_3 + 1)), (by first | rfl | (simp; done) | (simp only [← hji30] <;> (first | rfl | simp)) | (simp [*]; done)), (by first | rfl | (simp; done) | (simp [*]; done)), H', ⟨by have := HJ1.out; have := HJ17.out; have := HK3.out; omega⟩, ⟨by (with_reducible repeat (first | refine blk_drewN ?_ _ | refine blk_drew ?_ | refine blk_alloc ?_ _)); exact BK418.out⟩, ⟨by repeat (first | (with_reducible first | exact HB.out | apply below_alloc | apply pw_below_drewN | apply below_drew1 | refine below_set ?_ GE418.out) | exact HB.out)⟩⟩
           ·rw [if_neg c29] at H
            exact absurd H (by simp)
          ·rw [if_neg c28] at H
           have c28b0 : decide (x3_3 ≤ 5000) = false := decide_eq_false c28
           clear c28; have H' := Aside0.mk H; clear H; have hcz32_0 : wr.cell? ⟨gb418, 0, none⟩ = some (.int .i64 a0_0) := (pwC BK418.out 0).trans rfl
           have hcz32_1 : wr.cell? ⟨gb418, 1, none⟩ = some (.string a0_1) := (pwC BK418.out 1).trans rfl
           have hcz32_2 : wr.cell? ⟨gb418, 2, none⟩ = some (.string a0_2) := (pwC BK418.out 2).trans rfl
           have hcz32_3 : wr.cell? ⟨gb418, 3, none⟩ = some (.slice A0_3 l0_3.length c0_3) := (pwC BK418.out 3).trans rfl
           have hcz32_4 : wr.cell? ⟨gb418, 4, none⟩ = some (.slice A0_4 l0_4.length c0_4) := (pwC BK418.out 4).trans rfl
           have hcz32_5 : wr.cell? ⟨gb418, 5, none⟩ = some (.slice A0_5 l0_5.length c0_5) := (pwC BK418.out 5).trans rfl
           have hcz32_6 : wr.cell? ⟨gb418, 6, none⟩ = some (.slice A0_6 l0_6.length c0_6) := (pwC BK418.out 6).trans rfl
           have hcz32_7 : wr.cell? ⟨gb418, 7, none⟩ = some (.bool a0_7) := (pwC BK418.out 7).trans rfl
           have hcz32_8 : wr.cell? ⟨gb418, 8, none⟩ = some (.int .i64 a0_8) := (pwC BK418.out 8).trans rfl
           have hcz32_9 : wr.cell? ⟨gb418, 9, none⟩ = some (.slice A0_9 l0_9.length c0_9) := (pwC BK418.out 9).trans rfl
           have hfz32_0 := blk_frozen BK418.out 0
           have hfz32_1 := blk_frozen BK418.out 1
           have hfz32_2 := blk_frozen BK418.out 2
           have hfz32_3 := blk_frozen BK418.out 3
           have hfz32_4 := blk_frozen BK418.out 4
           have hfz32_5 := blk_frozen BK418.out 5
           have hfz32_6 := blk_frozen BK418.out 6
           have hfz32_7 := blk_frozen BK418.out 7
           have hfz32_8 := blk_frozen BK418.out 8
           have hfz32_9 := blk_frozen BK418.out 9
           go_wp2
           repeat (go_quiet (fail); try go_wp2)
           go_meet
           case rel => exact ⟨_, (x3_3), (by first | rfl | (simp; done) | (simp [*]; done)), H', ⟨by have := HJ1.out; have := HJ17.out; have := HK3.out; first | omega | exact Nat.le_refl _⟩, ⟨by (with_reducible repeat (first | refine blk_drewN ?_ _ | refine blk_drew ?_ | refine blk_alloc ?_ _)); exact BK418.out⟩, ⟨by repeat (first | (with_reducible first | exact HB.out | apply below_alloc | apply pw_below_drewN | apply below_drew1 | refine below_set ?_ GE418.out) | exact HB.out)⟩⟩
         ·rw [if_neg c27] at H
          have c27b0 : decide (x5_3 < (l0_4.length : Int)) = false := decide_eq_false c27
          clear c27
          (first | rw [c27b0] | (simp only [i64_w, i32_w]; rw [c27b0]) | skip)
          have H' := Aside0.mk H; clear H; have hcz33_0 : wr.cell? ⟨gb418, 0, none⟩ = some (.int .i64 a0_0) := (pwC BK418.out 0).trans rfl
          have hcz33_1 : wr.cell? ⟨gb418, 1, none⟩ = some (.string a0_1) := (pwC BK418.out 1).trans rfl
          have hcz33_2 : wr.cell? ⟨gb418, 2, none⟩ = some (.string a0_2) := (pwC BK418.out 2).trans rfl
          have hcz33_3 : wr.cell? ⟨gb418, 3, none⟩ = some (.slice A0_3 l0_3.length c0_3) := (pwC BK418.out 3).trans rfl
          have hcz33_4 : wr.cell? ⟨gb418, 4, none⟩ = some (.slice A0_4 l0_4.length c0_4) := (pwC BK418.out 4).trans rfl
          have hcz33_5 : wr.cell? ⟨gb418, 5, none⟩ = some (.slice A0_5 l0_5.length c0_5) := (pwC BK418.out 5).trans rfl
          have hcz33_6 : wr.cell? ⟨gb418, 6, none⟩ = some (.slice A0_6 l0_6.length c0_6) := (pwC BK418.out 6).trans rfl
          have hcz33_7 : wr.cell? ⟨gb418, 7, none⟩ = some (.bool a0_7) := (pwC BK418.out 7).trans rfl
          have hcz33_8 : wr.cell? ⟨gb418, 8, none⟩ = some (.int .i64 a0_8) := (pwC BK418.out 8).trans rfl
          have hcz33_9 : wr.cell? ⟨gb418, 9, none⟩ = some (.slice A0_9 l0_9.length c0_9) := (pwC BK418.out 9).trans rfl
          have hfz33_0 := blk_frozen BK418.out 0
          have hfz33_1 := blk_frozen BK418.out 1
          have hfz33_2 := blk_frozen BK418.out 2
          have hfz33_3 := blk_frozen BK418.out 3
          have hfz33_4 := blk_frozen BK418.out 4
          have hfz33_5 := blk_frozen BK418.out 5
          have hfz33_6 := blk_frozen BK418.out 6
          have hfz33_7 := blk_frozen BK418.out 7
          have hfz33_8 := blk_frozen BK418.out 8
          have hfz33_9 := blk_frozen BK418.out 9
          go_wp2
          repeat (go_quiet (fail); try go_wp2)
          go_meet
          case rel => exact ⟨_, (x3_3), (by first | rfl | (simp; done) | (simp [*]; done)), H', ⟨by have := HJ1.out; have := HJ17.out; have := HK3.out; first | omega | exact Nat.le_refl _⟩, ⟨by (with_reducible repeat (first | refine blk_drewN ?_ _ | refine blk_drew ?_ | refine blk_alloc ?_ _)); exact BK418.out⟩, ⟨by repeat (first | (with_reducible first | exact HB.out | apply below_alloc | apply pw_below_drewN | apply below_drew1 | refine below_set ?_ GE418.out) | exact HB.out)⟩⟩
      case rest =>
       clear HC26; obtain ⟨kq, x3_25, rfl, HA, HJ25, BK418, HB⟩ := hcut
       cases kq with
       | zero => exact absurd HA.out (by simp [falseworklaw17_Great.j4])
       | succ kj25 =>
        have H := HA.out; clear HA; simp only [falseworklaw17_Great.j4] at H
        have HC34 := Aside0.mk H; clear H; go_upto_block 4 with (fail)
        repeat (go_quiet (fail); go_upto_block 4 with (fail))
        go_cut [3] (fun v3 wc => ∃ (kq : Nat) (x3_33 : Int), v3 = .int .i64 x3_33 ∧ Aside0 (falseworklaw17_Great.j6 kq x3_33 a0_0 a0_1 a0_2 l0_3 l0_4 l0_5 l0_6 a0_7 a0_8 l0_9 = some r) ∧ Aside0 (kq ≤ kj25) ∧ Aside0 (wc.heap[gb418]? = some (.cells #[.int .i64 a0_0, .string a0_1, .string a0_2, (.slice A0_3 l0_3.length c0_3), (.slice A0_4 l0_4.length c0_4), (.slice A0_5 l0_5.length c0_5), (.slice A0_6 l0_6.length c0_6), .bool a0_7, .int .i64 a0_8, (.slice A0_9 l0_9.length c0_9)] 45 (0, 0))) ∧ Aside0 (Below w.heap.size w wc))
        case first =>
         have H := HC34.out; clear HC34; have H' := Aside0.mk H; clear H; go_wp2
         repeat (go_quiet (fail); try go_wp2)
         go_loopg [3, 6] kj25 (fun kq v3 v6 w' => ∃ (x3_4 : Int) (x6_4 : Int), v3 = .int .i64 x3_4 ∧ v6 = .int .i64 x6_4 ∧ Aside0 (falseworklaw17_Great.l2 kq x3_4 x6_4 a0_0 a0_1 a0_2 l0_3 l0_4 l0_5 l0_6 a0_7 a0_8 l0_9 = some r) ∧ Aside0 (kq ≤ kj25) ∧ Aside0 (w'.heap[gb418]? = some (.cells #[.int .i64 a0_0, .string a0_1, .string a0_2, (.slice A0_3 l0_3.length c0_3), (.slice A0_4 l0_4.length c0_4), (.slice A0_5 l0_5.length c0_5), (.slice A0_6 l0_6.length c0_6), .bool a0_7, .int .i64 a0_8, (.slice A0_9 l0_9.length c0_9)] 45 (0, 0))) ∧ Aside0 (Below w.heap.size w w'))
         case atStart => exact ⟨(x3_25), (0), (by first | rfl | (simp; done) | (simp [*]; done)), (by first | rfl | (simp; done) | (simp [*]; done)), H', ⟨Nat.le_refl _⟩, ⟨by (with_reducible repeat (first | refine blk_drewN ?_ _ | refine blk_drew ?_ | refine blk_alloc ?_ _)); exact BK418.out⟩, ⟨by repeat (first | (with_reducible first | exact HB.out | apply below_alloc | apply pw_below_drewN | apply below_drew1 | refine below_set ?_ GE418.out) | exact HB.out)⟩⟩
         case round =>
          clear H'; obtain ⟨x3_4, x6_4, rfl, rfl, HA, HK4, BK418, HB⟩ := hrel
          cases gk with
          | zero => exact absurd HA.out (by simp [falseworklaw17_Great.l2])
          | succ k4 =>
           have H := HA.out; clear HA; simp only [falseworklaw17_Great.l2] at H
           by_cases c35 : x6_4 < (l0_5.length : Int)
           ·rw [if_pos c35] at H
            have c35b0 : decide (x6_4 < (l0_5.length : Int)) = true := decide_eq_true c35
            clear c35
            (first | rw [c35b0] | (simp only [i64_w, i32_w]; rw [c35b0]) | skip)
            by_cases c36 : x3_4 ≤ 5000
            ·rw [if_pos c36] at H
             have c36b0 : decide (x3_4 ≤ 5000) = true := decide_eq_true c36
             clear c36; by_cases c37 : 0 ≤ x6_4
             ·rw [if_pos c37] at H
              have c37b0 : decide (0 ≤ x6_4) = true := decide_eq_true c37
              clear c37; obtain ⟨ji38, hji38⟩ : ∃ j_ : Int, (mn (((rd_T132 l0_5 x6_4).f0).size : Int) 5001) = j_ := ⟨_, rfl⟩
              replace H : (falseworklaw17_Great.l2 k4 (wrap64 ((wrap64 (x3_4 + (ji38))) + (mn (((rd_T132 l0_5 x6_4).f2.f3).size : Int) 5001))) (wrap64 (x6_4 + 1)) a0_0 a0_1 a0_2 l0_3 l0_4 l0_5 l0_6 a0_7 a0_8 l0_9) = some r := by first | (rw [hji38] at H; exact H) | (simp only [hji38] at H ⊢; exact H)
              have hji38_ : (if 5001 < (((rd_T132 l0_5 x6_4).f0).size : Int) then 5001 else (((rd_T132 l0_5 x6_4).f0).size : Int)) = ji38 := hji38
              obtain ⟨ji39, hji39⟩ : ∃ j_ : Int, (mn (((rd_T132 l0_5 x6_4).f2.f3).size : Int) 5001) = j_ := ⟨_, rfl⟩
              replace H : (falseworklaw17_Great.l2 k4 (wrap64 ((wrap64 (x3_4 + (ji38))) + (ji39))) (wrap64 (x6_4 + 1)) a0_0 a0_1 a0_2 l0_3 l0_4 l0_5 l0_6 a0_7 a0_8 l0_9) = some r := by first | (rw [hji39] at H; exact H) | (simp only [hji39] at H ⊢; exact H)
              have hji39_ : (if 5001 < (((rd_T132 l0_5 x6_4).f2.f3).size : Int) then 5001 else (((rd_T132 l0_5 x6_4).f2.f3).size : Int)) = ji39 := hji39
              have H' := Aside0.mk H; clear H; have hcz40_0 : wr.cell? ⟨gb418, 0, none⟩ = some (.int .i64 a0_0) := (pwC BK418.out 0).trans rfl
              have hcz40_1 : wr.cell? ⟨gb418, 1, none⟩ = some (.string a0_1) := (pwC BK418.out 1).trans rfl
              have hcz40_2 : wr.cell? ⟨gb418, 2, none⟩ = some (.string a0_2) := (pwC BK418.out 2).trans rfl
              have hcz40_3 : wr.cell? ⟨gb418, 3, none⟩ = some (.slice A0_3 l0_3.length c0_3) := (pwC BK418.out 3).trans rfl
              have hcz40_4 : wr.cell? ⟨gb418, 4, none⟩ = some (.slice A0_4 l0_4.length c0_4) := (pwC BK418.out 4).trans rfl
              have hcz40_5 : wr.cell? ⟨gb418, 5, none⟩ = some (.slice A0_5 l0_5.length c0_5) := (pwC BK418.out 5).trans rfl
              have hcz40_6 : wr.cell? ⟨gb418, 6, none⟩ = some (.slice A0_6 l0_6.length c0_6) := (pwC BK418.out 6).trans rfl
              have hcz40_7 : wr.cell? ⟨gb418, 7, none⟩ = some (.bool a0_7) := (pwC BK418.out 7).trans rfl
              have hcz40_8 : wr.cell? ⟨gb418, 8, none⟩ = some (.int .i64 a0_8) := (pwC BK418.out 8).trans rfl
              have hcz40_9 : wr.cell? ⟨gb418, 9, none⟩ = some (.slice A0_9 l0_9.length c0_9) := (pwC BK418.out 9).trans rfl
              have hfz40_0 := blk_frozen BK418.out 0
              have hfz40_1 := blk_frozen BK418.out 1
              have hfz40_2 := blk_frozen BK418.out 2
              have hfz40_3 := blk_frozen BK418.out 3
              have hfz40_4 := blk_frozen BK418.out 4
              have hfz40_5 := blk_frozen BK418.out 5
              have hfz40_6 := blk_frozen BK418.out 6
              have hfz40_7 := blk_frozen BK418.out 7
              have hfz40_8 := blk_frozen BK418.out 8
              have hfz40_9 := blk_frozen BK418.out 9
              have p421 : 0 ≤ (x6_4 : Int) := of_decide_eq_true (by first | (with_reducible assumption) | assumption)
              have q421 : x6_4 < (l0_5.length : Int) := of_decide_eq_true (by first | (with_reducible assumption) | assumption)
              obtain ⟨ad421, e421, hx421_0, hx421_1, hx421_2, hx421_3, hx421_4, hx421_5⟩ := at_T132 HR0_5.out x6_4 p421 q421
              cases e421
              replace hx421_0 := (HB.out.cell (World.block_lt_of_cell? w _ hx421_0)).trans hx421_0
              replace hx421_1 := (HB.out.cell (World.block_lt_of_cell? w _ hx421_1)).trans hx421_1
              replace hx421_2 := (HB.out.cell (World.block_lt_of_cell? w _ hx421_2)).trans hx421_2
              replace hx421_3 := (HB.out.cell (World.block_lt_of_cell? w _ hx421_3)).trans hx421_3
              replace hx421_4 := (HB.out.cell (World.block_lt_of_cell? w _ hx421_4)).trans hx421_4
              replace hx421_5 := (HB.out.cell (World.block_lt_of_cell? w _ hx421_5)).trans hx421_5
              replace p421 := eq_true p421
              replace q421 := eq_true q421
              have p422 : 0 ≤ (x6_4 : Int) := of_decide_eq_true (by first | (with_reducible assumption) | assumption)
              have q422 : x6_4 < (l0_5.length : Int) := of_decide_eq_true (by first | (with_reducible assumption) | assumption)
              obtain ⟨ad422, e422, hx422_0, hx422_1, hx422_2, hx422_3, hx422_4, hx422_5⟩ := at_T132 HR0_5.out x6_4 p422 q422
              obtain rfl : ad421 = ad422 := (by injection e422)
              replace hx422_0 := (HB.out.cell (World.block_lt_of_cell? w _ hx422_0)).trans hx422_0
              replace hx422_1 := (HB.out.cell (World.block_lt_of_cell? w _ hx422_1)).trans hx422_1
              replace hx422_2 := (HB.out.cell (World.block_lt_of_cell? w _ hx422_2)).trans hx422_2
              replace hx422_3 := (HB.out.cell (World.block_lt_of_cell? w _ hx422_3)).trans hx422_3
              replace hx422_4 := (HB.out.cell (World.block_lt_of_cell? w _ hx422_4)).trans hx422_4
              replace hx422_5 := (HB.out.cell (World.block_lt_of_cell? w _ hx422_5)).trans hx422_5
              replace p422 := eq_true p422
              replace q422 := eq_true q422
              go_wp2
              repeat (go_quiet (fail); try go_wp2)
              go_roundg k4
              case measure => have := HJ1.out; have := HJ17.out; have := HJ25.out; have := HK4.out; omega
              case rel => exact ⟨(wrap64 ((wrap64 (x3_4 + (ji38))) + (ji39))), (wrap64 (x6_4 + 1)), (by first | rfl | (simp; done) | (simp only [← hji38, ← hji39] <;> (first | rfl | simp)) | (simp [*]; done)), (by first | rfl | (simp; done) | (simp [*]; done)), H', ⟨by have := HJ1.out; have := HJ17.out; have := HJ25.out; have := HK4.out; omega⟩, ⟨by (with_reducible repeat (first | refine blk_drewN ?_ _ | refine blk_drew ?_ | refine blk_alloc ?_ _)); exact BK418.out⟩, ⟨by repeat (first | (with_reducible first | exact HB.out | apply below_alloc | apply pw_below_drewN | apply below_drew1 | refine below_set ?_ GE418.out) | exact HB.out)⟩⟩
             ·rw [if_neg c37] at H
              exact absurd H (by simp)
            ·rw [if_neg c36] at H
             have c36b0 : decide (x3_4 ≤ 5000) = false := decide_eq_false c36
             clear c36; have H' := Aside0.mk H; clear H; have hcz41_0 : wr.cell? ⟨gb418, 0, none⟩ = some (.int .i64 a0_0) := (pwC BK418.out 0).trans rfl
             have hcz41_1 : wr.cell? ⟨gb418, 1, none⟩ = some (.string a0_1) := (pwC BK418.out 1).trans rfl
             have hcz41_2 : wr.cell? ⟨gb418, 2, none⟩ = some (.string a0_2) := (pwC BK418.out 2).trans rfl
             have hcz41_3 : wr.cell? ⟨gb418, 3, none⟩ = some (.slice A0_3 l0_3.length c0_3) := (pwC BK418.out 3).trans rfl
             have hcz41_4 : wr.cell? ⟨gb418, 4, none⟩ = some (.slice A0_4 l0_4.length c0_4) := (pwC BK418.out 4).trans rfl
             have hcz41_5 : wr.cell? ⟨gb418, 5, none⟩ = some (.slice A0_5 l0_5.length c0_5) := (pwC BK418.out 5).trans rfl
             have hcz41_6 : wr.cell? ⟨gb418, 6, none⟩ = some (.slice A0_6 l0_6.length c0_6) := (pwC BK418.out 6).trans rfl
             have hcz41_7 : wr.cell? ⟨gb418, 7, none⟩ = some (.bool a0_7) := (pwC BK418.out 7).trans rfl
             have hcz41_8 : wr.cell? ⟨gb418, 8, none⟩ = some (.int .i64 a0_8) := (pwC BK418.out 8).trans rfl
             have hcz41_9 : wr.cell? ⟨gb418, 9, none⟩ = some (.slice A0_9 l0_9.length c0_9) := (pwC BK418.out 9).trans rfl
             have hfz41_0 := blk_frozen BK418.out 0
             have hfz41_1 := blk_frozen BK418.out 1
             have hfz41_2 := blk_frozen BK418.out 2
             have hfz41_3 := blk_frozen BK418.out 3
             have hfz41_4 := blk_frozen BK418.out 4
             have hfz41_5 := blk_frozen BK418.out 5
             have hfz41_6 := blk_frozen BK418.out 6
             have hfz41_7 := blk_frozen BK418.out 7
             have hfz41_8 := blk_frozen BK418.out 8
             have hfz41_9 := blk_frozen BK418.out 9
             go_wp2
             repeat (go_quiet (fail); try go_wp2)
             go_meet
             case rel => exact ⟨_, (x3_4), (by first | rfl | (simp; done) | (simp [*]; done)), H', ⟨by have := HJ1.out; have := HJ17.out; have := HJ25.out; have := HK4.out; first | omega | exact Nat.le_refl _⟩, ⟨by (with_reducible repeat (first | refine blk_drewN ?_ _ | refine blk_drew ?_ | refine blk_alloc ?_ _)); exact BK418.out⟩, ⟨by repeat (first | (with_reducible first | exact HB.out | apply below_alloc | apply pw_below_drewN | apply below_drew1 | refine below_set ?_ GE418.out) | exact HB.out)⟩⟩
           ·rw [if_neg c35] at H
            have c35b0 : decide (x6_4 < (l0_5.length : Int)) = false := decide_eq_false c35
            clear c35
            (first | rw [c35b0] | (simp only [i64_w, i32_w]; rw [c35b0]) | skip)
            have H' := Aside0.mk H; clear H; have hcz42_0 : wr.cell? ⟨gb418, 0, none⟩ = some (.int .i64 a0_0) := (pwC BK418.out 0).trans rfl
            have hcz42_1 : wr.cell? ⟨gb418, 1, none⟩ = some (.string a0_1) := (pwC BK418.out 1).trans rfl
            have hcz42_2 : wr.cell? ⟨gb418, 2, none⟩ = some (.string a0_2) := (pwC BK418.out 2).trans rfl
            have hcz42_3 : wr.cell? ⟨gb418, 3, none⟩ = some (.slice A0_3 l0_3.length c0_3) := (pwC BK418.out 3).trans rfl
            have hcz42_4 : wr.cell? ⟨gb418, 4, none⟩ = some (.slice A0_4 l0_4.length c0_4) := (pwC BK418.out 4).trans rfl
            have hcz42_5 : wr.cell? ⟨gb418, 5, none⟩ = some (.slice A0_5 l0_5.length c0_5) := (pwC BK418.out 5).trans rfl
            have hcz42_6 : wr.cell? ⟨gb418, 6, none⟩ = some (.slice A0_6 l0_6.length c0_6) := (pwC BK418.out 6).trans rfl
            have hcz42_7 : wr.cell? ⟨gb418, 7, none⟩ = some (.bool a0_7) := (pwC BK418.out 7).trans rfl
            have hcz42_8 : wr.cell? ⟨gb418, 8, none⟩ = some (.int .i64 a0_8) := (pwC BK418.out 8).trans rfl
            have hcz42_9 : wr.cell? ⟨gb418, 9, none⟩ = some (.slice A0_9 l0_9.length c0_9) := (pwC BK418.out 9).trans rfl
            have hfz42_0 := blk_frozen BK418.out 0
            have hfz42_1 := blk_frozen BK418.out 1
            have hfz42_2 := blk_frozen BK418.out 2
            have hfz42_3 := blk_frozen BK418.out 3
            have hfz42_4 := blk_frozen BK418.out 4
            have hfz42_5 := blk_frozen BK418.out 5
            have hfz42_6 := blk_frozen BK418.out 6
            have hfz42_7 := blk_frozen BK418.out 7
            have hfz42_8 := blk_frozen BK418.out 8
            have hfz42_9 := blk_frozen BK418.out 9
            go_wp2
            repeat (go_quiet (fail); try go_wp2)
            go_meet
            case rel => exact ⟨_, (x3_4), (by first | rfl | (simp; done) | (simp [*]; done)), H', ⟨by have := HJ1.out; have := HJ17.out; have := HJ25.out; have := HK4.out; first | omega | exact Nat.le_refl _⟩, ⟨by (with_reducible repeat (first | refine blk_drewN ?_ _ | refine blk_drew ?_ | refine blk_alloc ?_ _)); exact BK418.out⟩, ⟨by repeat (first | (with_reducible first | exact HB.out | apply below_alloc | apply pw_below_drewN | apply below_drew1 | refine below_set ?_ GE418.out) | exact HB.out)⟩⟩
        case rest =>
         clear HC34; obtain ⟨kq, x3_33, rfl, HA, HJ33, BK418, HB⟩ := hcut
         cases kq with
         | zero => exact absurd HA.out (by simp [falseworklaw17_Great.j6])
         | succ kj33 =>
          have H := HA.out; clear HA; simp only [falseworklaw17_Great.j6] at H
          have H' := Aside0.mk H; clear H; go_wp2
          repeat (go_quiet (fail); try go_wp2)
          go_loopg [3, 7] kj33 (fun kq v3 v7 w' => ∃ (x3_5 : Int) (x7_5 : Int), v3 = .int .i64 x3_5 ∧ v7 = .int .i64 x7_5 ∧ Aside0 (falseworklaw17_Great.l3 kq x3_5 x7_5 a0_0 a0_1 a0_2 l0_3 l0_4 l0_5 l0_6 a0_7 a0_8 l0_9 = some r) ∧ Aside0 (kq ≤ kj33) ∧ Aside0 (w'.heap[gb418]? = some (.cells #[.int .i64 a0_0, .string a0_1, .string a0_2, (.slice A0_3 l0_3.length c0_3), (.slice A0_4 l0_4.length c0_4), (.slice A0_5 l0_5.length c0_5), (.slice A0_6 l0_6.length c0_6), .bool a0_7, .int .i64 a0_8, (.slice A0_9 l0_9.length c0_9)] 45 (0, 0))) ∧ Aside0 (Below w.heap.size w w'))
          case atStart => exact ⟨(x3_33), (0), (by first | rfl | (simp; done) | (simp [*]; done)), (by first | rfl | (simp; done) | (simp [*]; done)), H', ⟨Nat.le_refl _⟩, ⟨by (with_reducible repeat (first | refine blk_drewN ?_ _ | refine blk_drew ?_ | refine blk_alloc ?_ _)); exact BK418.out⟩, ⟨by repeat (first | (with_reducible first | exact HB.out | apply below_alloc | apply pw_below_drewN | apply below_drew1 | refine below_set ?_ GE418.out) | exact HB.out)⟩⟩
          case round =>
           clear H'; obtain ⟨x3_5, x7_5, rfl, rfl, HA, HK5, BK418, HB⟩ := hrel
           cases gk with
           | zero => exact absurd HA.out (by simp [falseworklaw17_Great.l3])
           | succ k5 =>
            have H := HA.out; clear HA; simp only [falseworklaw17_Great.l3] at H
            by_cases c43 : x7_5 < (l0_6.length : Int)
            ·rw [if_pos c43] at H
             have c43b0 : decide (x7_5 < (l0_6.length : Int)) = true := decide_eq_true c43
             clear c43; by_cases c44 : x3_5 ≤ 5000
             ·rw [if_pos c44] at H
              have c44b0 : decide (x3_5 ≤ 5000) = true := decide_eq_true c44
              clear c44; by_cases c45 : 0 ≤ x7_5
              ·rw [if_pos c45] at H
               have c45b0 : decide (0 ≤ x7_5) = true := decide_eq_true c45
               clear c45; obtain ⟨ji46, hji46⟩ : ∃ j_ : Int, (mn (((rd_T134 l0_6 x7_5).f0).size : Int) 5001) = j_ := ⟨_, rfl⟩
               replace H : (falseworklaw17_Great.l3 k5 (wrap64 ((wrap64 (x3_5 + (ji46))) + (mn (((rd_T134 l0_6 x7_5).f2.f3).size : Int) 5001))) (wrap64 (x7_5 + 1)) a0_0 a0_1 a0_2 l0_3 l0_4 l0_5 l0_6 a0_7 a0_8 l0_9) = some r := by first | (rw [hji46] at H; exact H) | (simp only [hji46] at H ⊢; exact H)
               have hji46_ : (if 5001 < (((rd_T134 l0_6 x7_5).f0).size : Int) then 5001 else (((rd_T134 l0_6 x7_5).f0).size : Int)) = ji46 := hji46
               obtain ⟨ji47, hji47⟩ : ∃ j_ : Int, (mn (((rd_T134 l0_6 x7_5).f2.f3).size : Int) 5001) = j_ := ⟨_, rfl⟩
               replace H : (falseworklaw17_Great.l3 k5 (wrap64 ((wrap64 (x3_5 + (ji46))) + (ji47))) (wrap64 (x7_5 + 1)) a0_0 a0_1 a0_2 l0_3 l0_4 l0_5 l0_6 a0_7 a0_8 l0_9) = some r := by first | (rw [hji47] at H; exact H) | (simp only [hji47] at H ⊢; exact H)
               have hji47_ : (if 5001 < (((rd_T134 l0_6 x7_5).f2.f3).size : Int) then 5001 else (((rd_T134 l0_6 x7_5).f2.f3).size : Int)) = ji47 := hji47
               have H' := Aside0.mk H; clear H; have hcz48_0 : wr.cell? ⟨gb418, 0, none⟩ = some (.int .i64 a0_0) := (pwC BK418.out 0).trans rfl
               have hcz48_1 : wr.cell? ⟨gb418, 1, none⟩ = some (.string a0_1) := (pwC BK418.out 1).trans rfl
               have hcz48_2 : wr.cell? ⟨gb418, 2, none⟩ = some (.string a0_2) := (pwC BK418.out 2).trans rfl
               have hcz48_3 : wr.cell? ⟨gb418, 3, none⟩ = some (.slice A0_3 l0_3.length c0_3) := (pwC BK418.out 3).trans rfl
               have hcz48_4 : wr.cell? ⟨gb418, 4, none⟩ = some (.slice A0_4 l0_4.length c0_4) := (pwC BK418.out 4).trans rfl
               have hcz48_5 : wr.cell? ⟨gb418, 5, none⟩ = some (.slice A0_5 l0_5.length c0_5) := (pwC BK418.out 5).trans rfl
               have hcz48_6 : wr.cell? ⟨gb418, 6, none⟩ = some (.slice A0_6 l0_6.length c0_6) := (pwC BK418.out 6).trans rfl
               have hcz48_7 : wr.cell? ⟨gb418, 7, none⟩ = some (.bool a0_7) := (pwC BK418.out 7).trans rfl
               have hcz48_8 : wr.cell? ⟨gb418, 8, none⟩ = some (.int .i64 a0_8) := (pwC BK418.out 8).trans rfl
               have hcz48_9 : wr.cell? ⟨gb418, 9, none⟩ = some (.slice A0_9 l0_9.length c0_9) := (pwC BK418.out 9).trans rfl
               have hfz48_0 := blk_frozen BK418.out 0
               have hfz48_1 := blk_frozen BK418.out 1
               have hfz48_2 := blk_frozen BK418.out 2
               have hfz48_3 := blk_frozen BK418.out 3
               have hfz48_4 := blk_frozen BK418.out 4
               have hfz48_5 := blk_frozen BK418.out 5
               have hfz48_6 := blk_frozen BK418.out 6
               have hfz48_7 := blk_frozen BK418.out 7
               have hfz48_8 := blk_frozen BK418.out 8
               have hfz48_9 := blk_frozen BK418.out 9
               have p423 : 0 ≤ (x7_5 : Int) := of_decide_eq_true (by first | (with_reducible assumption) | assumption)
               have q423 : x7_5 < (l0_6.length : Int) := of_decide_eq_true (by first | (with_reducible assumption) | assumption)
               obtain ⟨ad423, e423, hx423_0, hx423_1, hx423_2, hx423_3, hx423_4, hx423_5⟩ := at_T134 HR0_6.out x7_5 p423 q423
               cases e423
               replace hx423_0 := (HB.out.cell (World.block_lt_of_cell? w _ hx423_0)).trans hx423_0
               replace hx423_1 := (HB.out.cell (World.block_lt_of_cell? w _ hx423_1)).trans hx423_1
               replace hx423_2 := (HB.out.cell (World.block_lt_of_cell? w _ hx423_2)).trans hx423_2
               replace hx423_3 := (HB.out.cell (World.block_lt_of_cell? w _ hx423_3)).trans hx423_3
               replace hx423_4 := (HB.out.cell (World.block_lt_of_cell? w _ hx423_4)).trans hx423_4
               replace hx423_5 := (HB.out.cell (World.block_lt_of_cell? w _ hx423_5)).trans hx423_5
               replace p423 := eq_true p423
               replace q423 := eq_true q423
               have p424 : 0 ≤ (x7_5 : Int) := of_decide_eq_true (by first | (with_reducible assumption) | assumption)
               have q424 : x7_5 < (l0_6.length : Int) := of_decide_eq_true (by first | (with_reducible assumption) | assumption)
               obtain ⟨ad424, e424, hx424_0, hx424_1, hx424_2, hx424_3, hx424_4, hx424_5⟩ := at_T134 HR0_6.out x7_5 p424 q424
               obtain rfl : ad423 = ad424 := (by injection e424)
               replace hx424_0 := (HB.out.cell (World.block_lt_of_cell? w _ hx424_0)).trans hx424_0
               replace hx424_1 := (HB.out.cell (World.block_lt_of_cell? w _ hx424_1)).trans hx424_1
               replace hx424_2 := (HB.out.cell (World.block_lt_of_cell? w _ hx424_2)).trans hx424_2
               replace hx424_3 := (HB.out.cell (World.block_lt_of_cell? w _ hx424_3)).trans hx424_3
               replace hx424_4 := (HB.out.cell (World.block_lt_of_cell? w _ hx424_4)).trans hx424_4
               replace hx424_5 := (HB.out.cell (World.block_lt_of_cell? w _ hx424_5)).trans hx424_5
               replace p424 := eq_true p424
               replace q424 := eq_true q424
               go_wp2
               repeat (go_quiet (fail); try go_wp2)
               go_roundg k5
               case measure => have := HJ1.out; have := HJ17.out; have := HJ25.out; have := HJ33.out; have := HK5.out; omega
               case rel => exact ⟨(wrap64 ((wrap64 (x3_5 + (ji46))) + (ji47))), (wrap64 (x7_5 + 1)), (by first | rfl | (simp; done) | (simp only [← hji46, ← hji47] <;> (first | rfl | simp)) | (simp [*]; done)), (by first | rfl | (simp; done) | (simp [*]; done)), H', ⟨by have := HJ1.out; have := HJ17.out; have := HJ25.out; have := HJ33.out; have := HK5.out; omega⟩, ⟨by (with_reducible repeat (first | refine blk_drewN ?_ _ | refine blk_drew ?_ | refine blk_alloc ?_ _)); exact BK418.out⟩, ⟨by repeat (first | (with_reducible first | exact HB.out | apply below_alloc | apply pw_below_drewN | apply below_drew1 | refine below_set ?_ GE418.out) | exact HB.out)⟩⟩
              ·rw [if_neg c45] at H
               exact absurd H (by simp)
             ·rw [if_neg c44] at H
              have c44b0 : decide (x3_5 ≤ 5000) = false := decide_eq_false c44
              clear c44; obtain rfl := Option.some.inj H; have hcz49_0 : wr.cell? ⟨gb418, 0, none⟩ = some (.int .i64 a0_0) := (pwC BK418.out 0).trans rfl
              have hcz49_1 : wr.cell? ⟨gb418, 1, none⟩ = some (.string a0_1) := (pwC BK418.out 1).trans rfl
              have hcz49_2 : wr.cell? ⟨gb418, 2, none⟩ = some (.string a0_2) := (pwC BK418.out 2).trans rfl
              have hcz49_3 : wr.cell? ⟨gb418, 3, none⟩ = some (.slice A0_3 l0_3.length c0_3) := (pwC BK418.out 3).trans rfl
              have hcz49_4 : wr.cell? ⟨gb418, 4, none⟩ = some (.slice A0_4 l0_4.length c0_4) := (pwC BK418.out 4).trans rfl
              have hcz49_5 : wr.cell? ⟨gb418, 5, none⟩ = some (.slice A0_5 l0_5.length c0_5) := (pwC BK418.out 5).trans rfl
              have hcz49_6 : wr.cell? ⟨gb418, 6, none⟩ = some (.slice A0_6 l0_6.length c0_6) := (pwC BK418.out 6).trans rfl
              have hcz49_7 : wr.cell? ⟨gb418, 7, none⟩ = some (.bool a0_7) := (pwC BK418.out 7).trans rfl
              have hcz49_8 : wr.cell? ⟨gb418, 8, none⟩ = some (.int .i64 a0_8) := (pwC BK418.out 8).trans rfl
              have hcz49_9 : wr.cell? ⟨gb418, 9, none⟩ = some (.slice A0_9 l0_9.length c0_9) := (pwC BK418.out 9).trans rfl
              have hfz49_0 := blk_frozen BK418.out 0
              have hfz49_1 := blk_frozen BK418.out 1
              have hfz49_2 := blk_frozen BK418.out 2
              have hfz49_3 := blk_frozen BK418.out 3
              have hfz49_4 := blk_frozen BK418.out 4
              have hfz49_5 := blk_frozen BK418.out 5
              have hfz49_6 := blk_frozen BK418.out 6
              have hfz49_7 := blk_frozen BK418.out 7
              have hfz49_8 := blk_frozen BK418.out 8
              have hfz49_9 := blk_frozen BK418.out 9
              go_wp2
              repeat (go_quiet (fail); try go_wp2)
              go_ret; exact ⟨by first | rfl | (simp [*] <;> rfl), by repeat (first | exact HB.out | exact Below.refl _ _ | apply below_alloc | apply pw_below_drewN | apply below_drew1)⟩
            ·rw [if_neg c43] at H
             have c43b0 : decide (x7_5 < (l0_6.length : Int)) = false := decide_eq_false c43
             clear c43; obtain rfl := Option.some.inj H; have hcz50_0 : wr.cell? ⟨gb418, 0, none⟩ = some (.int .i64 a0_0) := (pwC BK418.out 0).trans rfl
             have hcz50_1 : wr.cell? ⟨gb418, 1, none⟩ = some (.string a0_1) := (pwC BK418.out 1).trans rfl
             have hcz50_2 : wr.cell? ⟨gb418, 2, none⟩ = some (.string a0_2) := (pwC BK418.out 2).trans rfl
             have hcz50_3 : wr.cell? ⟨gb418, 3, none⟩ = some (.slice A0_3 l0_3.length c0_3) := (pwC BK418.out 3).trans rfl
             have hcz50_4 : wr.cell? ⟨gb418, 4, none⟩ = some (.slice A0_4 l0_4.length c0_4) := (pwC BK418.out 4).trans rfl
             have hcz50_5 : wr.cell? ⟨gb418, 5, none⟩ = some (.slice A0_5 l0_5.length c0_5) := (pwC BK418.out 5).trans rfl
             have hcz50_6 : wr.cell? ⟨gb418, 6, none⟩ = some (.slice A0_6 l0_6.length c0_6) := (pwC BK418.out 6).trans rfl
             have hcz50_7 : wr.cell? ⟨gb418, 7, none⟩ = some (.bool a0_7) := (pwC BK418.out 7).trans rfl
             have hcz50_8 : wr.cell? ⟨gb418, 8, none⟩ = some (.int .i64 a0_8) := (pwC BK418.out 8).trans rfl
             have hcz50_9 : wr.cell? ⟨gb418, 9, none⟩ = some (.slice A0_9 l0_9.length c0_9) := (pwC BK418.out 9).trans rfl
             have hfz50_0 := blk_frozen BK418.out 0
             have hfz50_1 := blk_frozen BK418.out 1
             have hfz50_2 := blk_frozen BK418.out 2
             have hfz50_3 := blk_frozen BK418.out 3
             have hfz50_4 := blk_frozen BK418.out 4
             have hfz50_5 := blk_frozen BK418.out 5
             have hfz50_6 := blk_frozen BK418.out 6
             have hfz50_7 := blk_frozen BK418.out 7
             have hfz50_8 := blk_frozen BK418.out 8
             have hfz50_9 := blk_frozen BK418.out 9
             go_wp2
             repeat (go_quiet (fail); try go_wp2)
             go_ret; exact ⟨by first | rfl | (simp [*] <;> rfl), by repeat (first | exact HB.out | exact Below.refl _ _ | apply below_alloc | apply pw_below_drewN | apply below_drew1)⟩
end Go.Proofs.YtjgomlcdmpcoaaaDoor.D
