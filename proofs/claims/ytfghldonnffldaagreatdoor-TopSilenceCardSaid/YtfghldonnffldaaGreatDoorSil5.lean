/- TopSilence: whatever the format, the number of frames, the segments' size and the value, the law's call returns true (sound that is all one frame takes some bytes a segment, and is decoded to the same file) and its input reads as it did; the call begins where the three listed tables hold what the program's own text lays. -/
import Derived.Test.YtfghldonnffldaaGreatDoorProg
import Derived.Below
import Derived.Deep.Draws
import Derived.Deep.AppendLies
import Derived.Maps.AppendAt
import Derived.OwnWalk
import Derived.Laws.BytesArg
import Derived.Laws.MakeOwn
import Derived.Laws.OwnMore
import Derived.Deep.OwnRows
import Derived.Tactics
import Derived.Lib.ConvBytes
import Derived.Laws.Slices
import Derived.WalkKit
import Derived.KernelRfl
import Derived.RowKit3
import Derived.Deep.LoopGhost
import Derived.Deep.QuietTactic
import Derived.BigQuiet
import Derived.WideLaws
import Derived.Deep.DeepCutAuto
import Derived.Deep.CutBlock
import Derived.Deep.RegionHeld3
import Derived.Laws.Rows
import Derived.Lib.AppendStr
import Derived.ArgAppend
import Derived.Laws.IdiomCopy
import Derived.OrdersHeld
import Derived.Laws.BitsLemmas
import Derived.RowKit
import Derived.Test.YtfghldonnffldaaGreatDoorRows
import Derived.Lib.LaidTab
import Derived.Stop.LaidErr
import Derived.Deep.DeepHandedRow
import Derived.Test.YtfghldonnffldaaGreatDoorCards
import Derived.Test.YtfghldonnffldaaGreatDoorTie
import Derived.ProofKit
import Derived.OpenShut
import Derived.ShutString
import Derived.ChangeOld
import Derived.SizedLaws
import Derived.Lib.SmallJoins
import Derived.SevenTiedAt
import Derived.LaidLaws
import Derived.Test.YtfghldonnffldaaGreatDoorSil4
set_option linter.unusedVariables false
set_option linter.unusedSimpArgs false
set_option maxRecDepth 100000
set_option maxHeartbeats 8000000
namespace Go.Proofs.YtfghldonnffldaaGreatDoor.ESev
open Go.RowKit Go.Proofs.YtfghldonnffldaaGreatDoor Go.Proofs.YtfghldonnffldaaGreatDoor.TBase Go.Proofs.YtfghldonnffldaaGreatDoor.UOne Go.Proofs.YtfghldonnffldaaGreatDoor.VTwo Go.Proofs.YtfghldonnffldaaGreatDoor.XThr Go.Proofs.YtfghldonnffldaaGreatDoor.YFou Go.Proofs.YtfghldonnffldaaGreatDoor.ZFiv Go.Proofs.YtfghldonnffldaaGreatDoor.QSix Go.Proofs.YtfghldonnffldaaGreatDoorW.PrintWords Go.Proofs.YtfghldonnffldaaGreatDoorW.PrintLast Go.Proofs.YtfghldonnffldaaGreatDoorW.PrintMore
attribute [local go_sem] max2_int min2_int max_two min_two max_three min_three max_four min_four
def file_whole_data.f (k : Nat) (a0_0 : Int) (a0_1 : Int) (a0_2 : Int) (a0_3 : Int) (a0_4 : ByteArray) (a0_5 : ByteArray) (l0_6 : List ByteArray) (a1 : Int) : Option (ByteArray × Bool) := if 0 ≤ a1 then (if a1 < (l0_6.length : Int) then ((segment_Get.f k (rdOf ByteArray.empty l0_6 a1) a0_0 a0_1).bind fun bt103 => (if bt103.2 = 0 then ((file_whole_frames.f a0_0 a0_1 a0_2 a0_3 a0_4 a0_5 l0_6 a1).bind fun t105 => ((pcm_Frame.f a0_0 a0_1).bind fun t106 => (if (bt103.1.size : Int) = (wrap64 (t105 * t106)) then (some (bt103.1, true)) else (some ((⟨#[]⟩ : ByteArray), false))))) else (some ((⟨#[]⟩ : ByteArray), false)))) else (none)) else (none)
theorem file_whole_data.mono : ∀ a0 a1 a2 a3 a4 a5 a6 a7 k, LeO (file_whole_data.f k a0 a1 a2 a3 a4 a5 a6 a7) (file_whole_data.f (k + 1) a0 a1 a2 a3 a4 a5 a6 a7) := by
 intro a0 a1 a2 a3 a4 a5 a6 a7 k
 unfold file_whole_data.f
 repeat' first
   | (with_reducible exact segment_Get.mono _ _ _ _)
   | (with_reducible exact LeO.refl _)
   | (with_reducible exact LeO.none _)
   | (with_reducible refine LeO.ite ?_ ?_)
   | (with_reducible refine LeO.bind ?_ (fun _ => ?_))
   | exact segment_Get.mono _ _ _ _
   | exact LeO.none _
   | refine LeO.ite ?_ ?_
   | refine LeO.bind ?_ (fun _ => ?_)
def file_whole_data.T1 : Bool × List (List Nat × List Nat) := (true, [([], []), ([0], [0]), ([1], [1]), ([], []), ([2, 3], [2, 3]), ([4], [4]), ([], []), ([6], [6]), ([7], [7]), ([5, 8], [5, 8]), ([9], [9]), ([10], [10]), ([10], [10]), ([11, 9, 0, 1, 2, 3, 4, 5, 6, 7, 8, 9, 10, 11], [11]), ([12, 13, 0, 1, 2, 3, 4, 5, 6, 7, 8, 9, 10, 11, 12, 13], [12])])
def file_whole_data.B1 : List Nat := [0, 1, 3, 0, 15, 31, 0, 64, 192, 511, 1023, 2047, 2047, 4095, 16383]
theorem file_whole_data.tab1 : rtab .any (opsOf Tryz.f66 1) = file_whole_data.T1 := by kernel_rfl
theorem file_whole_data.bits1 : waitsOk file_whole_data.T1.2 file_whole_data.B1 = true := by kernel_rfl
def file_whole_data.T2 : Bool × List (List Nat × List Nat) := (true, [([], []), ([0], [0]), ([1], [1]), ([2], [2]), ([3, 2], [2, 3]), ([2], [2]), ([2], [2]), ([5, 6, 2, 2], [2, 5, 6]), ([2], [2]), ([8, 2], [2, 8]), ([9, 2], [2, 9]), ([10, 7, 2], [2, 10]), ([7, 11, 2], [2, 7, 11]), ([4, 12, 2], [2, 4, 12]), ([2, 13], [2, 13])])
def file_whole_data.B2 : List Nat := [0, 1, 3, 7, 15, 7, 7, 103, 7, 263, 775, 2023, 4071, 8191, 16383]
theorem file_whole_data.tab2 : rtab .any (opsOf Tryz.f66 2) = file_whole_data.T2 := by kernel_rfl
theorem file_whole_data.bits2 : waitsOk file_whole_data.T2.2 file_whole_data.B2 = true := by kernel_rfl
theorem file_whole_data.calls (k : Nat) (a0_0 : Int) (a0_1 : Int) (a0_2 : Int) (a0_3 : Int) (a0_4 : ByteArray) (a0_5 : ByteArray) (A0_6 : Option Addr) (c0_6 : Nat) (l0_6 : List ByteArray) (a1 : Int) (r1 : ByteArray) (r2 : Bool) (w : World) (hr0_6 : Kd.C Kd.string w A0_6 l0_6.length l0_6) (hc0_6 : l0_6.length ≤ c0_6) (h : file_whole_data.f k a0_0 a0_1 a0_2 a0_3 a0_4 a0_5 l0_6 a1 = some (r1, r2)) (hT : Tabs w := by exact Tabs.below hT B_) :
  Calls Tryz.prog 66 #[.agg #[.int .i64 a0_0, .int .i64 a0_1, .int .i64 a0_2, .int .i64 a0_3, .string a0_4, .string a0_5, .slice A0_6 l0_6.length c0_6], .int .i64 a1] w fun e w' => e = .returned (.tuple #[.string r1, .bool r2]) ∧ Below w.heap.size w w' := by
 have hu127 := Tryz.underlying127
 have hu23 := Tryz.underlying23
 have HR0_6 := Z_ hr0_6
 have HC0_6 := Z_ hc0_6
 clear hr0_6 hc0_6
 have HB := Z_ (Below.refl w.heap.size w)
 have H : (if 0 ≤ a1 then (if a1 < (l0_6.length : Int) then ((segment_Get.f k (rdOf ByteArray.empty l0_6 a1) a0_0 a0_1).bind fun bt103 => (if bt103.2 = 0 then ((file_whole_frames.f a0_0 a0_1 a0_2 a0_3 a0_4 a0_5 l0_6 a1).bind fun t105 => ((pcm_Frame.f a0_0 a0_1).bind fun t106 => (if (bt103.1.size : Int) = (wrap64 (t105 * t106)) then (some (bt103.1, true)) else (some ((⟨#[]⟩ : ByteArray), false))))) else (some ((⟨#[]⟩ : ByteArray), false)))) else (none)) else (none)) = some (r1, r2) := h
 clear h
 by_cases c3 : 0 ≤ a1
 ·rw [if_pos c3] at H
  have c3b0 := decide_eq_true c3
  clear c3
  by_cases c4 : a1 < (l0_6.length : Int)
  ·rw [if_pos c4] at H
   have c4b0 := decide_eq_true c4
   clear c4
   replace H := Option.bind_eq_some_iff.mp H
   obtain ⟨⟨t103, t104⟩, A50, H⟩ := H
   (try dsimp only at H)
   have A5 := Z_ A50
   clear A50
   by_cases c6 : t104 = 0
   ·rw [if_pos c6] at H
    have c6b0 : (t104 == 0) = true := beq_iff_eq.mpr c6
    have c6b1 : (t104 != 0) = false := bne_eq_false_iff_eq.mpr c6
    clear c6
    replace H := Option.bind_eq_some_iff.mp H
    obtain ⟨t105, A70, H⟩ := H
    (try dsimp only at H)
    have A7 := Z_ A70
    clear A70
    replace H := Option.bind_eq_some_iff.mp H
    obtain ⟨t106, A80, H⟩ := H
    (try dsimp only at H)
    have A8 := Z_ A80
    clear A80
    by_cases c9 : (t103.size : Int) = (wrap64 (t105 * t106))
    ·rw [if_pos c9] at H
     have c9b0 : ((t103.size : Int) == (wrap64 (t105 * t106))) = true := beq_iff_eq.mpr c9
     have c9b1 : ((t103.size : Int) != (wrap64 (t105 * t106))) = false := bne_eq_false_iff_eq.mpr c9
     clear c9
     simp only [Option.some.injEq, Prod.mk.injEq] at H
     obtain ⟨rfl, rfl⟩ := H
     go_enter Tryz.func66, Tryz.ntmps66
     try go_wp2_with (first | ((with_reducible refine gate_dst (N := 2) rfl ?_); (try (refine gate_guard (by rfl) ?_; dsimp only)); refine X_ 2 #[.int .i64 a0_0, .int .i64 a0_1, .int .i64 a0_2, .int .i64 a0_3, .string a0_4, .string a0_5, .slice A0_6 l0_6.length c0_6] 127 ?_; intro gb101 hg w10 hbox hb; have BK101 := Z_ (hbox); have GW101 := Z_ ((G2_ hg : w.heap.size ≤ _)); have GE101 := Z_ ((G2_ hg : w.heap.size ≤ _)); replace HB := Z_ (below_step B_ hb); clear hb hbox hg))
     replace BK101 := Z_ (blk_drew BK101.out)
     replace HB := Z_ (below_drew1 HB.out)
     have p102 : 0 ≤ (a1 : Int) := of_decide_eq_true A_
     have q102 : a1 < (l0_6.length : Int) := of_decide_eq_true A_
     obtain ⟨ad102, e102, hx102_0⟩ := Kd.at_string HR0_6.out a1 p102 q102
     have hw102_0 := hx102_0
     cases e102
     replace hx102_0 := (HB.out.cell (World.block_lt_of_cell? w _ hx102_0)).trans hx102_0
     replace p102 := eq_true p102
     replace q102 := eq_true q102
     refine start_ (n := 15) (S := fun w' => w'.cell? ⟨gb101, 0, none⟩ = some (.int .i64 a0_0) ∧ w'.cell? ⟨gb101, 1, none⟩ = some (.int .i64 a0_1) ∧ w'.cell? ⟨gb101, 2, none⟩ = some (.int .i64 a0_2) ∧ w'.cell? ⟨gb101, 3, none⟩ = some (.int .i64 a0_3) ∧ w'.cell? ⟨gb101, 4, none⟩ = some (.string a0_4) ∧ w'.cell? ⟨gb101, 5, none⟩ = some (.string a0_5) ∧ w'.cell? ⟨gb101, 6, none⟩ = some (.slice (some ad102) l0_6.length c0_6) ∧ w'.cell? (ad102.add (a1).toNat) = some (.string (rdOf ByteArray.empty l0_6 a1))) (ds := []) #[false, false, false, false, false, false, false, false, false, false, false, false, false, false, false] (by kernel_rfl) rfl rfl ⟨(blk_cell BK101.out 0).trans rfl, (blk_cell BK101.out 1).trans rfl, (blk_cell BK101.out 2).trans rfl, (blk_cell BK101.out 3).trans rfl, (blk_cell BK101.out 4).trans rfl, (blk_cell BK101.out 5).trans rfl, (blk_cell BK101.out 6).trans rfl, ((HB.out.cell (World.block_lt_of_cell? w _ hw102_0)).trans hw102_0)⟩ (fun hHeld => ?_); refine with_tabW file_whole_data.tab1 file_whole_data.bits1 (fun HT_ HW_ => ?_)
     generalize w10.drew = w11 at BK101 HB hx102_0 hHeld ⊢
     refine P_ 0 9 ?_
     refine P_ 1 10 ?_
     refine P_ 3 12 ?_
     refine P_ 6 15 ?_
     refine P_ 7 16 ?_
     refine T_ 2 11 (y := by rintro w' ⟨s0, s1, s2, s3, s4, s5, s6, s7⟩; go_simp; with_reducible rfl) (h := ?_)
     refine P_ 4 13 ?_
     refine T_ 5 14 (y := by rintro w' ⟨s0, s1, s2, s3, s4, s5, s6, s7⟩; go_simp; with_reducible rfl) (h := ?_)
     refine T_ 8 17 (y := by rintro w' ⟨s0, s1, s2, s3, s4, s5, s6, s7⟩; go_simp; with_reducible rfl) (h := ?_)
     refine O_ 9 18 fun K hK => ?_
     refine g_ Tryz.func26 #[.string (rdOf ByteArray.empty l0_6 a1), .agg #[.int .i64 a0_0, .int .i64 a0_1]] ?_
     with_reducible refine (segment_Get.calls k (rdOf ByteArray.empty l0_6 a1) a0_0 a0_1 t103 t104 _ A5.out).mono ?_
     rintro e w12 ⟨rfl, hb⟩
     refine ⟨_, rfl, ?_⟩
     replace BK101 := Z_ (blk_below (g := gb101) (o := .cells #[.int .i64 a0_0, .int .i64 a0_1, .int .i64 a0_2, .int .i64 a0_3, .string a0_4, .string a0_5, .slice (some ad102) l0_6.length c0_6] 127 (0, 0)) (K_ BK101) hb)
     replace HB := Z_ (below_step B_ hb)
     (try clear hb)
     (try clear hb2)
     (try clear hk)
     (try clear hi)
     refine hK.out _ _ ⟨(blk_cell BK101.out 0).trans rfl, (blk_cell BK101.out 1).trans rfl, (blk_cell BK101.out 2).trans rfl, (blk_cell BK101.out 3).trans rfl, (blk_cell BK101.out 4).trans rfl, (blk_cell BK101.out 5).trans rfl, (blk_cell BK101.out 6).trans rfl, ((HB.out.cell (World.block_lt_of_cell? w _ hw102_0)).trans hw102_0)⟩ (fun hHeld => ?_)
     clear hK K
     refine Nm_ 18 ?_
     refine P_ 10 8 ?_
     refine P_ 11 19 ?_
     refine P_ 12 20 ?_
     refine P_ 13 6 ?_
     refine P_ 14 7 ?_
     refine done_ (done_of HT_.out (by kernel_rfl)) ?_
     try go_wp2
     replace BK101 := Z_ (blk_drew BK101.out)
     replace HB := Z_ (below_drew1 HB.out)
     refine start_ (n := 15) (S := fun w' => w'.cell? ⟨gb101, 0, none⟩ = some (.int .i64 a0_0) ∧ w'.cell? ⟨gb101, 1, none⟩ = some (.int .i64 a0_1) ∧ w'.cell? ⟨gb101, 2, none⟩ = some (.int .i64 a0_2) ∧ w'.cell? ⟨gb101, 3, none⟩ = some (.int .i64 a0_3) ∧ w'.cell? ⟨gb101, 4, none⟩ = some (.string a0_4) ∧ w'.cell? ⟨gb101, 5, none⟩ = some (.string a0_5) ∧ w'.cell? ⟨gb101, 6, none⟩ = some (.slice (some ad102) l0_6.length c0_6)) (ds := []) #[false, false, false, false, false, false, false, false, false, false, false, false, false, false, false] (by kernel_rfl) rfl rfl ⟨(blk_cell BK101.out 0).trans rfl, (blk_cell BK101.out 1).trans rfl, (blk_cell BK101.out 2).trans rfl, (blk_cell BK101.out 3).trans rfl, (blk_cell BK101.out 4).trans rfl, (blk_cell BK101.out 5).trans rfl, (blk_cell BK101.out 6).trans rfl⟩ (fun hHeld => ?_); refine with_tabW file_whole_data.tab2 file_whole_data.bits2 (fun HT_ HW_ => ?_)
     generalize w12.drew = w13 at BK101 HB hHeld ⊢
     refine P_ 0 21 ?_
     refine P_ 1 22 ?_
     refine P_ 2 23 ?_
     refine P_ 3 24 ?_
     refine P_ 4 25 ?_
     refine P_ 6 27 ?_
     refine P_ 8 29 ?_
     refine P_ 9 30 ?_
     refine T_ 5 26 (y := by rintro w' ⟨s0, s1, s2, s3, s4, s5, s6⟩; go_simp; with_reducible rfl) (h := ?_)
     refine T_ 10 31 (y := by rintro w' ⟨s0, s1, s2, s3, s4, s5, s6⟩; go_simp; with_reducible rfl) (h := ?_)
     refine O_ 7 28 fun K hK => ?_
     refine g_ Tryz.func97 #[.agg #[.int .i64 a0_0, .int .i64 a0_1, .int .i64 a0_2, .int .i64 a0_3, .string a0_4, .string a0_5, .slice (some ad102) l0_6.length c0_6], .int .i64 a1] ?_
     with_reducible refine (file_whole_frames.calls a0_0 a0_1 a0_2 a0_3 a0_4 a0_5 _ _ l0_6 a1 t105 _ ?side1 ?side2 A7.out).mono ?_
     (case side1 => repeat (first | exact (Kd.C_below HR0_6.out HB.out) | (with_reducible refine Kd.C_alloc ?_ _) | (with_reducible refine Kd.C_drewN ?_ _) | (with_reducible refine Kd.C_drew ?_)))
     (case side2 => exact HC0_6.out)
     rintro e w14 ⟨rfl, hb⟩
     refine ⟨_, rfl, ?_⟩
     replace BK101 := Z_ (blk_below (g := gb101) (o := .cells #[.int .i64 a0_0, .int .i64 a0_1, .int .i64 a0_2, .int .i64 a0_3, .string a0_4, .string a0_5, .slice (some ad102) l0_6.length c0_6] 127 (0, 0)) (K_ BK101) hb)
     replace HB := Z_ (below_step B_ hb)
     (try clear hb)
     (try clear hb2)
     (try clear hk)
     (try clear hi)
     refine hK.out _ _ ⟨(blk_cell BK101.out 0).trans rfl, (blk_cell BK101.out 1).trans rfl, (blk_cell BK101.out 2).trans rfl, (blk_cell BK101.out 3).trans rfl, (blk_cell BK101.out 4).trans rfl, (blk_cell BK101.out 5).trans rfl, (blk_cell BK101.out 6).trans rfl⟩ (fun hHeld => ?_)
     clear hK K
     refine Nm_ 28 ?_
     refine O_ 11 32 fun K hK => ?_
     refine g_ Tryz.func29 #[.agg #[.int .i64 a0_0, .int .i64 a0_1]] ?_
     with_reducible refine (pcm_Frame.calls a0_0 a0_1 t106 _ A8.out).mono ?_
     rintro e w15 ⟨rfl, hb⟩
     refine ⟨_, rfl, ?_⟩
     replace BK101 := Z_ (blk_below (g := gb101) (o := .cells #[.int .i64 a0_0, .int .i64 a0_1, .int .i64 a0_2, .int .i64 a0_3, .string a0_4, .string a0_5, .slice (some ad102) l0_6.length c0_6] 127 (0, 0)) (K_ BK101) hb)
     replace HB := Z_ (below_step B_ hb)
     (try clear hb)
     (try clear hb2)
     (try clear hk)
     (try clear hi)
     refine hK.out _ _ ⟨(blk_cell BK101.out 0).trans rfl, (blk_cell BK101.out 1).trans rfl, (blk_cell BK101.out 2).trans rfl, (blk_cell BK101.out 3).trans rfl, (blk_cell BK101.out 4).trans rfl, (blk_cell BK101.out 5).trans rfl, (blk_cell BK101.out 6).trans rfl⟩ (fun hHeld => ?_)
     clear hK K
     refine Nm_ 32 ?_
     refine P_ 12 33 ?_
     refine P_ 13 34 ?_
     refine P_ 14 35 ?_
     refine done_ (done_of HT_.out (by kernel_rfl)) ?_
     try go_wp2
     go_ret2
     exact ⟨E_, B_⟩
    ·rw [if_neg c9] at H
     have c9b0 : ((t103.size : Int) == (wrap64 (t105 * t106))) = false := beq_eq_false_iff_ne.mpr c9
     have c9b1 : ((t103.size : Int) != (wrap64 (t105 * t106))) = true := bne_iff_ne.mpr c9
     simp only [Option.some.injEq, Prod.mk.injEq] at H
     obtain ⟨rfl, rfl⟩ := H
     go_enter Tryz.func66, Tryz.ntmps66
     try go_wp2_with (first | ((with_reducible refine gate_dst (N := 2) rfl ?_); (try (refine gate_guard (by rfl) ?_; dsimp only)); refine X_ 2 #[.int .i64 a0_0, .int .i64 a0_1, .int .i64 a0_2, .int .i64 a0_3, .string a0_4, .string a0_5, .slice A0_6 l0_6.length c0_6] 127 ?_; intro gb101 hg w16 hbox hb; have BK101 := Z_ (hbox); have GW101 := Z_ ((G2_ hg : w.heap.size ≤ _)); have GE101 := Z_ ((G2_ hg : w.heap.size ≤ _)); replace HB := Z_ (below_step B_ hb); clear hb hbox hg))
     replace BK101 := Z_ (blk_drew BK101.out)
     replace HB := Z_ (below_drew1 HB.out)
     have p102 : 0 ≤ (a1 : Int) := of_decide_eq_true A_
     have q102 : a1 < (l0_6.length : Int) := of_decide_eq_true A_
     obtain ⟨ad102, e102, hx102_0⟩ := Kd.at_string HR0_6.out a1 p102 q102
     have hw102_0 := hx102_0
     cases e102
     replace hx102_0 := (HB.out.cell (World.block_lt_of_cell? w _ hx102_0)).trans hx102_0
     replace p102 := eq_true p102
     replace q102 := eq_true q102
     refine start_ (n := 15) (S := fun w' => w'.cell? ⟨gb101, 0, none⟩ = some (.int .i64 a0_0) ∧ w'.cell? ⟨gb101, 1, none⟩ = some (.int .i64 a0_1) ∧ w'.cell? ⟨gb101, 2, none⟩ = some (.int .i64 a0_2) ∧ w'.cell? ⟨gb101, 3, none⟩ = some (.int .i64 a0_3) ∧ w'.cell? ⟨gb101, 4, none⟩ = some (.string a0_4) ∧ w'.cell? ⟨gb101, 5, none⟩ = some (.string a0_5) ∧ w'.cell? ⟨gb101, 6, none⟩ = some (.slice (some ad102) l0_6.length c0_6) ∧ w'.cell? (ad102.add (a1).toNat) = some (.string (rdOf ByteArray.empty l0_6 a1))) (ds := []) #[false, false, false, false, false, false, false, false, false, false, false, false, false, false, false] (by kernel_rfl) rfl rfl ⟨(blk_cell BK101.out 0).trans rfl, (blk_cell BK101.out 1).trans rfl, (blk_cell BK101.out 2).trans rfl, (blk_cell BK101.out 3).trans rfl, (blk_cell BK101.out 4).trans rfl, (blk_cell BK101.out 5).trans rfl, (blk_cell BK101.out 6).trans rfl, ((HB.out.cell (World.block_lt_of_cell? w _ hw102_0)).trans hw102_0)⟩ (fun hHeld => ?_); refine with_tabW file_whole_data.tab1 file_whole_data.bits1 (fun HT_ HW_ => ?_)
     generalize w16.drew = w17 at BK101 HB hx102_0 hHeld ⊢
     refine P_ 0 9 ?_
     refine P_ 1 10 ?_
     refine P_ 3 12 ?_
     refine P_ 6 15 ?_
     refine P_ 7 16 ?_
     refine T_ 2 11 (y := by rintro w' ⟨s0, s1, s2, s3, s4, s5, s6, s7⟩; go_simp; with_reducible rfl) (h := ?_)
     refine P_ 4 13 ?_
     refine T_ 5 14 (y := by rintro w' ⟨s0, s1, s2, s3, s4, s5, s6, s7⟩; go_simp; with_reducible rfl) (h := ?_)
     refine T_ 8 17 (y := by rintro w' ⟨s0, s1, s2, s3, s4, s5, s6, s7⟩; go_simp; with_reducible rfl) (h := ?_)
     refine O_ 9 18 fun K hK => ?_
     refine g_ Tryz.func26 #[.string (rdOf ByteArray.empty l0_6 a1), .agg #[.int .i64 a0_0, .int .i64 a0_1]] ?_
     with_reducible refine (segment_Get.calls k (rdOf ByteArray.empty l0_6 a1) a0_0 a0_1 t103 t104 _ A5.out).mono ?_
     rintro e w18 ⟨rfl, hb⟩
     refine ⟨_, rfl, ?_⟩
     replace BK101 := Z_ (blk_below (g := gb101) (o := .cells #[.int .i64 a0_0, .int .i64 a0_1, .int .i64 a0_2, .int .i64 a0_3, .string a0_4, .string a0_5, .slice (some ad102) l0_6.length c0_6] 127 (0, 0)) (K_ BK101) hb)
     replace HB := Z_ (below_step B_ hb)
     (try clear hb)
     (try clear hb2)
     (try clear hk)
     (try clear hi)
     refine hK.out _ _ ⟨(blk_cell BK101.out 0).trans rfl, (blk_cell BK101.out 1).trans rfl, (blk_cell BK101.out 2).trans rfl, (blk_cell BK101.out 3).trans rfl, (blk_cell BK101.out 4).trans rfl, (blk_cell BK101.out 5).trans rfl, (blk_cell BK101.out 6).trans rfl, ((HB.out.cell (World.block_lt_of_cell? w _ hw102_0)).trans hw102_0)⟩ (fun hHeld => ?_)
     clear hK K
     refine Nm_ 18 ?_
     refine P_ 10 8 ?_
     refine P_ 11 19 ?_
     refine P_ 12 20 ?_
     refine P_ 13 6 ?_
     refine P_ 14 7 ?_
     refine done_ (done_of HT_.out (by kernel_rfl)) ?_
     try go_wp2
     replace BK101 := Z_ (blk_drew BK101.out)
     replace HB := Z_ (below_drew1 HB.out)
     refine start_ (n := 15) (S := fun w' => w'.cell? ⟨gb101, 0, none⟩ = some (.int .i64 a0_0) ∧ w'.cell? ⟨gb101, 1, none⟩ = some (.int .i64 a0_1) ∧ w'.cell? ⟨gb101, 2, none⟩ = some (.int .i64 a0_2) ∧ w'.cell? ⟨gb101, 3, none⟩ = some (.int .i64 a0_3) ∧ w'.cell? ⟨gb101, 4, none⟩ = some (.string a0_4) ∧ w'.cell? ⟨gb101, 5, none⟩ = some (.string a0_5) ∧ w'.cell? ⟨gb101, 6, none⟩ = some (.slice (some ad102) l0_6.length c0_6)) (ds := []) #[false, false, false, false, false, false, false, false, false, false, false, false, false, false, false] (by kernel_rfl) rfl rfl ⟨(blk_cell BK101.out 0).trans rfl, (blk_cell BK101.out 1).trans rfl, (blk_cell BK101.out 2).trans rfl, (blk_cell BK101.out 3).trans rfl, (blk_cell BK101.out 4).trans rfl, (blk_cell BK101.out 5).trans rfl, (blk_cell BK101.out 6).trans rfl⟩ (fun hHeld => ?_); refine with_tabW file_whole_data.tab2 file_whole_data.bits2 (fun HT_ HW_ => ?_)
     generalize w18.drew = w19 at BK101 HB hHeld ⊢
     refine P_ 0 21 ?_
     refine P_ 1 22 ?_
     refine P_ 2 23 ?_
     refine P_ 3 24 ?_
     refine P_ 4 25 ?_
     refine P_ 6 27 ?_
     refine P_ 8 29 ?_
     refine P_ 9 30 ?_
     refine T_ 5 26 (y := by rintro w' ⟨s0, s1, s2, s3, s4, s5, s6⟩; go_simp; with_reducible rfl) (h := ?_)
     refine T_ 10 31 (y := by rintro w' ⟨s0, s1, s2, s3, s4, s5, s6⟩; go_simp; with_reducible rfl) (h := ?_)
     refine O_ 7 28 fun K hK => ?_
     refine g_ Tryz.func97 #[.agg #[.int .i64 a0_0, .int .i64 a0_1, .int .i64 a0_2, .int .i64 a0_3, .string a0_4, .string a0_5, .slice (some ad102) l0_6.length c0_6], .int .i64 a1] ?_
     with_reducible refine (file_whole_frames.calls a0_0 a0_1 a0_2 a0_3 a0_4 a0_5 _ _ l0_6 a1 t105 _ ?side1 ?side2 A7.out).mono ?_
     (case side1 => repeat (first | exact (Kd.C_below HR0_6.out HB.out) | (with_reducible refine Kd.C_alloc ?_ _) | (with_reducible refine Kd.C_drewN ?_ _) | (with_reducible refine Kd.C_drew ?_)))
     (case side2 => exact HC0_6.out)
     rintro e w20 ⟨rfl, hb⟩
     refine ⟨_, rfl, ?_⟩
     replace BK101 := Z_ (blk_below (g := gb101) (o := .cells #[.int .i64 a0_0, .int .i64 a0_1, .int .i64 a0_2, .int .i64 a0_3, .string a0_4, .string a0_5, .slice (some ad102) l0_6.length c0_6] 127 (0, 0)) (K_ BK101) hb)
     replace HB := Z_ (below_step B_ hb)
     (try clear hb)
     (try clear hb2)
     (try clear hk)
     (try clear hi)
     refine hK.out _ _ ⟨(blk_cell BK101.out 0).trans rfl, (blk_cell BK101.out 1).trans rfl, (blk_cell BK101.out 2).trans rfl, (blk_cell BK101.out 3).trans rfl, (blk_cell BK101.out 4).trans rfl, (blk_cell BK101.out 5).trans rfl, (blk_cell BK101.out 6).trans rfl⟩ (fun hHeld => ?_)
     clear hK K
     refine Nm_ 28 ?_
     refine O_ 11 32 fun K hK => ?_
     refine g_ Tryz.func29 #[.agg #[.int .i64 a0_0, .int .i64 a0_1]] ?_
     with_reducible refine (pcm_Frame.calls a0_0 a0_1 t106 _ A8.out).mono ?_
     rintro e w21 ⟨rfl, hb⟩
     refine ⟨_, rfl, ?_⟩
     replace BK101 := Z_ (blk_below (g := gb101) (o := .cells #[.int .i64 a0_0, .int .i64 a0_1, .int .i64 a0_2, .int .i64 a0_3, .string a0_4, .string a0_5, .slice (some ad102) l0_6.length c0_6] 127 (0, 0)) (K_ BK101) hb)
     replace HB := Z_ (below_step B_ hb)
     (try clear hb)
     (try clear hb2)
     (try clear hk)
     (try clear hi)
     refine hK.out _ _ ⟨(blk_cell BK101.out 0).trans rfl, (blk_cell BK101.out 1).trans rfl, (blk_cell BK101.out 2).trans rfl, (blk_cell BK101.out 3).trans rfl, (blk_cell BK101.out 4).trans rfl, (blk_cell BK101.out 5).trans rfl, (blk_cell BK101.out 6).trans rfl⟩ (fun hHeld => ?_)
     clear hK K
     refine Nm_ 32 ?_
     refine P_ 12 33 ?_
     refine P_ 13 34 ?_
     refine P_ 14 35 ?_
     refine done_ (done_of HT_.out (by kernel_rfl)) ?_
     try go_wp2
     go_ret2
     exact ⟨E_, B_⟩
   ·rw [if_neg c6] at H
    have c6b0 : (t104 == 0) = false := beq_eq_false_iff_ne.mpr c6
    have c6b1 : (t104 != 0) = true := bne_iff_ne.mpr c6
    simp only [Option.some.injEq, Prod.mk.injEq] at H
    obtain ⟨rfl, rfl⟩ := H
    go_enter Tryz.func66, Tryz.ntmps66
    try go_wp2_with (first | ((with_reducible refine gate_dst (N := 2) rfl ?_); (try (refine gate_guard (by rfl) ?_; dsimp only)); refine X_ 2 #[.int .i64 a0_0, .int .i64 a0_1, .int .i64 a0_2, .int .i64 a0_3, .string a0_4, .string a0_5, .slice A0_6 l0_6.length c0_6] 127 ?_; intro gb101 hg w22 hbox hb; have BK101 := Z_ (hbox); have GW101 := Z_ ((G2_ hg : w.heap.size ≤ _)); have GE101 := Z_ ((G2_ hg : w.heap.size ≤ _)); replace HB := Z_ (below_step B_ hb); clear hb hbox hg))
    replace BK101 := Z_ (blk_drew BK101.out)
    replace HB := Z_ (below_drew1 HB.out)
    have p102 : 0 ≤ (a1 : Int) := of_decide_eq_true A_
    have q102 : a1 < (l0_6.length : Int) := of_decide_eq_true A_
    obtain ⟨ad102, e102, hx102_0⟩ := Kd.at_string HR0_6.out a1 p102 q102
    have hw102_0 := hx102_0
    cases e102
    replace hx102_0 := (HB.out.cell (World.block_lt_of_cell? w _ hx102_0)).trans hx102_0
    replace p102 := eq_true p102
    replace q102 := eq_true q102
    refine start_ (n := 15) (S := fun w' => w'.cell? ⟨gb101, 0, none⟩ = some (.int .i64 a0_0) ∧ w'.cell? ⟨gb101, 1, none⟩ = some (.int .i64 a0_1) ∧ w'.cell? ⟨gb101, 2, none⟩ = some (.int .i64 a0_2) ∧ w'.cell? ⟨gb101, 3, none⟩ = some (.int .i64 a0_3) ∧ w'.cell? ⟨gb101, 4, none⟩ = some (.string a0_4) ∧ w'.cell? ⟨gb101, 5, none⟩ = some (.string a0_5) ∧ w'.cell? ⟨gb101, 6, none⟩ = some (.slice (some ad102) l0_6.length c0_6) ∧ w'.cell? (ad102.add (a1).toNat) = some (.string (rdOf ByteArray.empty l0_6 a1))) (ds := []) #[false, false, false, false, false, false, false, false, false, false, false, false, false, false, false] (by kernel_rfl) rfl rfl ⟨(blk_cell BK101.out 0).trans rfl, (blk_cell BK101.out 1).trans rfl, (blk_cell BK101.out 2).trans rfl, (blk_cell BK101.out 3).trans rfl, (blk_cell BK101.out 4).trans rfl, (blk_cell BK101.out 5).trans rfl, (blk_cell BK101.out 6).trans rfl, ((HB.out.cell (World.block_lt_of_cell? w _ hw102_0)).trans hw102_0)⟩ (fun hHeld => ?_); refine with_tabW file_whole_data.tab1 file_whole_data.bits1 (fun HT_ HW_ => ?_)
    generalize w22.drew = w23 at BK101 HB hx102_0 hHeld ⊢
    refine P_ 0 9 ?_
    refine P_ 1 10 ?_
    refine P_ 3 12 ?_
    refine P_ 6 15 ?_
    refine P_ 7 16 ?_
    refine T_ 2 11 (y := by rintro w' ⟨s0, s1, s2, s3, s4, s5, s6, s7⟩; go_simp; with_reducible rfl) (h := ?_)
    refine P_ 4 13 ?_
    refine T_ 5 14 (y := by rintro w' ⟨s0, s1, s2, s3, s4, s5, s6, s7⟩; go_simp; with_reducible rfl) (h := ?_)
    refine T_ 8 17 (y := by rintro w' ⟨s0, s1, s2, s3, s4, s5, s6, s7⟩; go_simp; with_reducible rfl) (h := ?_)
    refine O_ 9 18 fun K hK => ?_
    refine g_ Tryz.func26 #[.string (rdOf ByteArray.empty l0_6 a1), .agg #[.int .i64 a0_0, .int .i64 a0_1]] ?_
    with_reducible refine (segment_Get.calls k (rdOf ByteArray.empty l0_6 a1) a0_0 a0_1 t103 t104 _ A5.out).mono ?_
    rintro e w24 ⟨rfl, hb⟩
    refine ⟨_, rfl, ?_⟩
    replace BK101 := Z_ (blk_below (g := gb101) (o := .cells #[.int .i64 a0_0, .int .i64 a0_1, .int .i64 a0_2, .int .i64 a0_3, .string a0_4, .string a0_5, .slice (some ad102) l0_6.length c0_6] 127 (0, 0)) (K_ BK101) hb)
    replace HB := Z_ (below_step B_ hb)
    (try clear hb)
    (try clear hb2)
    (try clear hk)
    (try clear hi)
    refine hK.out _ _ ⟨(blk_cell BK101.out 0).trans rfl, (blk_cell BK101.out 1).trans rfl, (blk_cell BK101.out 2).trans rfl, (blk_cell BK101.out 3).trans rfl, (blk_cell BK101.out 4).trans rfl, (blk_cell BK101.out 5).trans rfl, (blk_cell BK101.out 6).trans rfl, ((HB.out.cell (World.block_lt_of_cell? w _ hw102_0)).trans hw102_0)⟩ (fun hHeld => ?_)
    clear hK K
    refine Nm_ 18 ?_
    refine P_ 10 8 ?_
    refine P_ 11 19 ?_
    refine P_ 12 20 ?_
    refine P_ 13 6 ?_
    refine P_ 14 7 ?_
    refine done_ (done_of HT_.out (by kernel_rfl)) ?_
    try go_wp2
    replace BK101 := Z_ (blk_drew BK101.out)
    replace HB := Z_ (below_drew1 HB.out)
    refine start_ (n := 15) (S := fun w' => True) (ds := []) #[false, false, false, false, false, false, false, false, false, false, false, false, false, false, false] (by kernel_rfl) rfl rfl trivial (fun hHeld => ?_); refine with_tabW file_whole_data.tab2 file_whole_data.bits2 (fun HT_ HW_ => ?_)
    generalize w24.drew = w25 at BK101 HB hHeld ⊢
    refine P_ 0 21 ?_
    refine P_ 1 22 ?_
    refine P_ 2 23 ?_
    refine pure_ (i := 3) (N := some 24) (v := undef) (a' := ?_) #[true, true, true, true, false, false, false, false, false, false, false, false, false, false, false] rfl rfl (any_of HT_.out (by kernel_rfl)) (fun _ _ _ h => h) (Or.inr ⟨by rfl, rfl⟩) ?_ ?_
    rotate_left
    ·simp only [Act.put, List.setIfInBounds_toArray, List.set_cons_zero, List.set_cons_succ, i64_w, i32_w]
     rfl
    refine pure_ (i := 4) (N := some 25) (v := undef) (a' := ?_) #[true, true, true, true, true, false, false, false, false, false, false, false, false, false, false] rfl rfl (any_of HT_.out (by kernel_rfl)) (fun _ _ _ h => h) (Or.inr ⟨by rfl, rfl⟩) ?_ ?_
    rotate_left
    ·simp only [Act.put, List.setIfInBounds_toArray, List.set_cons_zero, List.set_cons_succ, i64_w, i32_w]
     rfl
    refine pure_ (i := 5) (N := some 26) (v := undef) (a' := ?_) #[true, true, true, true, true, true, false, false, false, false, false, false, false, false, false] rfl rfl (any_of HT_.out (by kernel_rfl)) (fun _ _ _ h => h) (Or.inr ⟨by rfl, rfl⟩) ?_ ?_
    rotate_left
    ·simp only [Act.put, List.setIfInBounds_toArray, List.set_cons_zero, List.set_cons_succ, i64_w, i32_w]
     rfl
    refine pure_ (i := 6) (N := some 27) (v := undef) (a' := ?_) #[true, true, true, true, true, true, true, false, false, false, false, false, false, false, false] rfl rfl (any_of HT_.out (by kernel_rfl)) (fun _ _ _ h => h) (Or.inr ⟨by rfl, rfl⟩) ?_ ?_
    rotate_left
    ·simp only [Act.put, List.setIfInBounds_toArray, List.set_cons_zero, List.set_cons_succ, i64_w, i32_w]
     rfl
    refine pure_ (i := 7) (N := some 28) (v := undef) (a' := ?_) #[true, true, true, true, true, true, true, true, false, false, false, false, false, false, false] rfl rfl (any_of HT_.out (by kernel_rfl)) (fun _ _ _ h => h) (Or.inr ⟨by rfl, rfl⟩) ?_ ?_
    rotate_left
    ·simp only [Act.put, List.setIfInBounds_toArray, List.set_cons_zero, List.set_cons_succ, i64_w, i32_w]
     rfl
    refine pure_ (i := 8) (N := some 29) (v := undef) (a' := ?_) #[true, true, true, true, true, true, true, true, true, false, false, false, false, false, false] rfl rfl (any_of HT_.out (by kernel_rfl)) (fun _ _ _ h => h) (Or.inr ⟨by rfl, rfl⟩) ?_ ?_
    rotate_left
    ·simp only [Act.put, List.setIfInBounds_toArray, List.set_cons_zero, List.set_cons_succ, i64_w, i32_w]
     rfl
    refine pure_ (i := 9) (N := some 30) (v := undef) (a' := ?_) #[true, true, true, true, true, true, true, true, true, true, false, false, false, false, false] rfl rfl (any_of HT_.out (by kernel_rfl)) (fun _ _ _ h => h) (Or.inr ⟨by rfl, rfl⟩) ?_ ?_
    rotate_left
    ·simp only [Act.put, List.setIfInBounds_toArray, List.set_cons_zero, List.set_cons_succ, i64_w, i32_w]
     rfl
    refine pure_ (i := 10) (N := some 31) (v := undef) (a' := ?_) #[true, true, true, true, true, true, true, true, true, true, true, false, false, false, false] rfl rfl (any_of HT_.out (by kernel_rfl)) (fun _ _ _ h => h) (Or.inr ⟨by rfl, rfl⟩) ?_ ?_
    rotate_left
    ·simp only [Act.put, List.setIfInBounds_toArray, List.set_cons_zero, List.set_cons_succ, i64_w, i32_w]
     rfl
    refine pure_ (i := 11) (N := some 32) (v := undef) (a' := ?_) #[true, true, true, true, true, true, true, true, true, true, true, true, false, false, false] rfl rfl (any_of HT_.out (by kernel_rfl)) (fun _ _ _ h => h) (Or.inr ⟨by rfl, rfl⟩) ?_ ?_
    rotate_left
    ·simp only [Act.put, List.setIfInBounds_toArray, List.set_cons_zero, List.set_cons_succ, i64_w, i32_w]
     rfl
    refine pure_ (i := 12) (N := some 33) (v := undef) (a' := ?_) #[true, true, true, true, true, true, true, true, true, true, true, true, true, false, false] rfl rfl (any_of HT_.out (by kernel_rfl)) (fun _ _ _ h => h) (Or.inr ⟨by rfl, rfl⟩) ?_ ?_
    rotate_left
    ·simp only [Act.put, List.setIfInBounds_toArray, List.set_cons_zero, List.set_cons_succ, i64_w, i32_w]
     rfl
    refine pure_ (i := 13) (N := some 34) (v := undef) (a' := ?_) #[true, true, true, true, true, true, true, true, true, true, true, true, true, true, false] rfl rfl (any_of HT_.out (by kernel_rfl)) (fun _ _ _ h => h) (Or.inr ⟨by rfl, rfl⟩) ?_ ?_
    rotate_left
    ·simp only [Act.put, List.setIfInBounds_toArray, List.set_cons_zero, List.set_cons_succ, i64_w, i32_w]
     rfl
    refine P_ 14 35 ?_
    refine done_ (done_of HT_.out (by kernel_rfl)) ?_
    try go_wp2
    go_ret2
    exact ⟨E_, B_⟩
  ·rw [if_neg c4] at H
   exact absurd H (by simp)
 ·rw [if_neg c3] at H
  exact absurd H (by simp)
end Go.Proofs.YtfghldonnffldaaGreatDoor.ESev
namespace Go.Proofs.YtfghldonnffldaaGreatDoor
open Go.RowKit Go.Proofs.YtfghldonnffldaaGreatDoorW.PrintWords Go.Proofs.YtfghldonnffldaaGreatDoorW.PrintLast Go.Proofs.YtfghldonnffldaaGreatDoorW.PrintMore Go.Proofs.YtfghldonnffldaaGreatDoor.TBase
open Go.Proofs.YtfghldonnffldaaGreatDoor.YFou Go.Proofs.YtfghldonnffldaaGreatDoor.ESev
theorem file_Data.calls (k : Nat) (a0_0 : Int) (a0_1 : Int) (a0_2 : Int) (a0_3 : Int) (a0_4 : ByteArray) (a0_5 : ByteArray) (A0_6 : Option Addr) (c0_6 : Nat) (l0_6 : List ByteArray) (a1 : Int) (r1 : ByteArray) (r2 : Bool) (w : World) (hr0_6 : Kd.C Kd.string w A0_6 l0_6.length l0_6) (hc0_6 : l0_6.length ≤ c0_6) (h : file_whole_data.f k a0_0 a0_1 a0_2 a0_3 a0_4 a0_5 l0_6 a1 = some (r1, r2)) (hT : Tabs w := by exact Tabs.below hT B_) :
  Calls Tryz.prog 31 #[.agg #[.int .i64 a0_0, .int .i64 a0_1, .int .i64 a0_2, .int .i64 a0_3, .string a0_4, .string a0_5, .slice A0_6 l0_6.length c0_6], .int .i64 a1] w fun e w' => e = .returned (.tuple #[.string r1, .bool r2]) ∧ Below w.heap.size w w' := by
 have hu49 := Tryz.underlying49
 have hu127 := Tryz.underlying127
 have HW := Lib.hid (file_whole_data.calls k a0_0 a0_1 a0_2 a0_3 a0_4 a0_5 A0_6 c0_6 l0_6 a1 r1 r2 (w.alloc (.cells #[.int .i64 a0_0, .int .i64 a0_1, .int .i64 a0_2, .int .i64 a0_3, .string a0_4, .string a0_5, .slice A0_6 l0_6.length c0_6] 49)) (Kd.C_below hr0_6 (below_alloc (Below.refl _ _) _)) hc0_6 h (Tabs.below hT (below_alloc (Below.refl _ _) _)))
 have Y2 : Aside0 ((w.alloc (.cells #[.int .i64 a0_0, .int .i64 a0_1, .int .i64 a0_2, .int .i64 a0_3, .string a0_4, .string a0_5, .slice A0_6 l0_6.length c0_6] 49)).heap[w.heap.size]? = some (.cells #[.int .i64 a0_0, .int .i64 a0_1, .int .i64 a0_2, .int .i64 a0_3, .string a0_4, .string a0_5, .slice A0_6 l0_6.length c0_6] 49 (0, 0))) := ⟨blk_new w _⟩
 have YB : Aside0 (Below w.heap.size w (w.alloc (.cells #[.int .i64 a0_0, .int .i64 a0_1, .int .i64 a0_2, .int .i64 a0_3, .string a0_4, .string a0_5, .slice A0_6 l0_6.length c0_6] 49))) := ⟨below_alloc (Below.refl _ _) _⟩
 clear h hT hr0_6
 go_enter Tryz.func31, Tryz.ntmps31
 have r0 := blk_cell Y2.out 0
 have r1' := blk_cell Y2.out 1
 have r2' := blk_cell Y2.out 2
 have r3 := blk_cell Y2.out 3
 have r4 := blk_cell Y2.out 4
 have r5 := blk_cell Y2.out 5
 have r6 := blk_cell Y2.out 6
 simp at r0 r1' r2' r3 r4 r5 r6
 go_wp2_with fail
 refine HW.out.mono ?_
 rintro e wk_ ⟨rfl, hb⟩
 go_wp2
 go_ret2
 exact ⟨rfl, below_step YB.out hb⟩
end Go.Proofs.YtfghldonnffldaaGreatDoor
namespace Go.Proofs.YtfghldonnffldaaGreatDoor
open Go.RowKit Go.Proofs.YtfghldonnffldaaGreatDoorW.PrintWords Go.Proofs.YtfghldonnffldaaGreatDoorW.PrintLast Go.Proofs.YtfghldonnffldaaGreatDoorW.PrintMore Go.Proofs.YtfghldonnffldaaGreatDoor.TBase
open Go.Proofs.YtfghldonnffldaaGreatDoor.YFou Go.Proofs.YtfghldonnffldaaGreatDoor.ESev Go.Proofs.YtfghldonnffldaaGreatDoor.ZFiv
def dec.T13 : Bool × List (List Nat × List Nat) := (true, [([], []), ([0], [0]), ([], []), ([2], [2]), ([], []), ([], []), ([5], [5]), ([1, 3, 4, 6], [1, 3, 4, 6]), ([7, 4], [7]), ([8], [8]), ([9], [9]), ([9], [9]), ([10, 8, 0, 1, 2, 3, 4, 5, 6, 7, 8, 9, 10], [10]), ([11, 12, 0, 1, 2, 3, 4, 5, 6, 7, 8, 9, 10, 11, 12], [11])])
def dec.B13 : List Nat := [0, 1, 0, 4, 0, 0, 32, 127, 255, 511, 1023, 1023, 2047, 8191]
theorem dec.tab13 : rtab .any (opsOf Tryz.f13 13) = dec.T13 := by kernel_rfl
theorem dec.bits13 : waitsOk dec.T13.2 dec.B13 = true := by kernel_rfl
theorem decode_calls (k k2 : Nat) (s : ByteArray) (ch bi sz fr : Nat) (hd tl : ByteArray) (l D : List ByteArray) (p1 p2 p3 p5 q : Nat) (r : ByteArray) (w : World) (hT : Tabs w) (ho : StrOk s ch bi sz fr hd tl l p1 p2 p3 p5 q) (hD : D.length = l.length) (hds : ∀ i, i < l.length → file_whole_data.f k ch bi sz fr hd tl l (i : Int) = some (D.getD i ByteArray.empty, true)) (hdt : tot D ≤ 140737488355328) (hb : wave_Build.f k2 ch bi hd ⟨(flat D).toArray⟩ tl = some (r, 0)) :
  Calls Tryz.prog 13 #[.string s] w fun e w' => e = .returned (.tuple #[.string r, .int .i64 0]) ∧ Below w.heap.size w w' := by
 have hu49 := Tryz.underlying49
 have hu23 := Tryz.underlying23
 have hu57 := Tryz.underlying57
 have HT := Z_ hT
 have HDS := Z_ hds
 have HBD := Lib.hid hb
 have HDL := Lib.hid hD
 have hll : l.length ≤ 65536 := by have h2 := ho.hq; have h3 := ho.fin; have h4 := ho.size; omega
 have SG := Lib.hid (sget_calls s ch bi sz fr hd tl l p1 p2 p3 p5 q w ho)
 clear hT hds hb hD ho
 go_enter Tryz.func13, Tryz.ntmps13
 go_wp2_with fail
 refine SG.out.mono ?_
 rintro e w1 ⟨v0, rfl, hr, hb⟩
 obtain ⟨As, cs_, he, hcs, _⟩ := Kd.R_reads hr
 subst he
 have HS := Z_ hr
 have YW := Z_ hb
 clear hr hb
 go_wp2_with (first | (refine X_ 4 #[.int .i64 0, .int .i64 0, .int .i64 0, .int .i64 0, .string ⟨#[]⟩, .string ⟨#[]⟩, .slice none 0 0] 49 ?_; intro gt hg wk_ hbox hb; have HGT0 : Aside0 (w.heap.size ≤ gt) := ⟨by rw [hg]; exact YW.out.size⟩; have HG_ := Z_ hg; have HB_ := Z_ hb; have YT := Z_ hbox; clear hbox hb hg) | ((with_reducible refine gate_store (t := 49) (p := 4) rfl ?_); refine wpList_store_mid rfl 49 _ _ rfl gt 0 #[.int .i64 ch, .int .i64 bi, .int .i64 sz, .int .i64 fr, .string hd, .string tl, .slice As l.length cs_] rfl rfl (there_blk (vs := [.int .i64 0, .int .i64 0, .int .i64 0, .int .i64 0, .string ⟨#[]⟩, .string ⟨#[]⟩, .slice none 0 0]) YT.out 0 7 (by decide)) (by kernel_rfl) (by simp [Value.oneCell']) ?_; have nc_ := Z_ (setCells_all (vs := [.int .i64 ch, .int .i64 bi, .int .i64 sz, .int .i64 fr, .string hd, .string tl, .slice As l.length cs_]) (old := [.int .i64 0, .int .i64 0, .int .i64 0, .int .i64 0, .string ⟨#[]⟩, .string ⟨#[]⟩, .slice none 0 0]) YT.out rfl); have hb := below_setCells HB_.out (Nat.le_of_eq HG_.out.symm) [.int .i64 ch, .int .i64 bi, .int .i64 sz, .int .i64 fr, .string hd, .string tl, .slice As l.length cs_] 0; replace HS := Z_ (Kd.R_below HS.out hb); replace YW := Z_ (below_step YW.out hb); clear hb HB_ HG_ YT; have YT := nc_; clear nc_; generalize World.setCells _ _ _ _ = wk_ at HS YW YT ⊢) | (refine X_ 6 #[.pointer none, .slice none 0 0] 66 ?_; intro gb hg wk_ hbox hb; have HGT : Aside0 (gt < gb) := ⟨by rw [hg]; exact blk_lt YT.out⟩; have HGB : Aside0 (w.heap.size ≤ gb) := ⟨by rw [hg]; exact YW.out.size⟩; have n9_ := Z_ (Kd.R_mono (Kd.R_bound HS.out) (ok' := fun k => k < gb) (fun k hk => by rw [hg]; exact hk.2.2.1)); clear HS; have HS := n9_; clear n9_; replace HS := Z_ (Kd.R_below HS.out hb); replace YW := Z_ (below_step YW.out hb); replace YT := Z_ (blk_below YT.out hb); have YBX := Z_ hbox; clear hbox hb hg; have r6 := blk_cell YT.out 6; simp at r6))
 have YB := Z_ (bldF_new YBX.out)
 have HGB2 := Z_ (Nat.le_of_lt (blk_lt YBX.out))
 clear YBX
 go_loopg [21] l.length (fun d v21 wr => ∃ i : Nat, v21 = .int .i64 i ∧ i + d = l.length ∧ Aside0 (wr.heap[gt]? = some (.cells #[.int .i64 ch, .int .i64 bi, .int .i64 sz, .int .i64 fr, .string hd, .string tl, .slice As l.length cs_] 49 (0, 0))) ∧ Aside0 (Below w.heap.size w wr) ∧ Aside0 (Lib.IsBuilderF 66 5 gb gb (Lib.byteCells (flat (D.take i))) wr) ∧ Aside0 (gb ≤ wr.heap.size) ∧ Aside0 (Kd.R Kd.string 9 wr w.heap.size (fun k => k < gb) (.slice As l.length cs_) l))
 case atStart => exact ⟨0, rfl, by omega, YT, YW, ⟨by rw [List.take_zero]; exact YB.out⟩, HGB2, HS⟩
 case round =>
  clear YT YW YB HGB2 HS r6
  obtain ⟨i, rfl, hi, YT, YW, YB, HGB2, HS⟩ := hrel
  cases gk with
  | zero =>
   obtain rfl : l.length = i := by omega
   have e1 : D.take l.length = D := List.take_of_length_le (by rw [HDL.out]; exact Nat.le_refl _)
   rw [e1] at YB
   obtain ⟨LL, hL⟩ : ∃ L, flat D = L := ⟨_, rfl⟩
   rw [hL] at YB HBD
   clear hL e1
   go_wp2
   replace YT := Z_ (blk_drew YT.out)
   replace YW := Z_ (below_drew1 YW.out)
   replace YB := Z_ (bldF_below YB.out (below_drew (Below.refl _ _)))
   replace HGB2 := Z_ (size_drew HGB2.out)
   replace HS := Z_ (Kd.R_drew HS.out)
   refine start_ (n := 14) (S := fun w' => w'.heap[gt]? = some (.cells #[.int .i64 ch, .int .i64 bi, .int .i64 sz, .int .i64 fr, .string hd, .string tl, .slice As l.length cs_] 49 (0, 0))) (ds := []) #[false, false, false, false, false, false, false, false, false, false, false, false, false, false] (by kernel_rfl) rfl rfl YT.out (fun hHeld => ?_); refine with_tabW dec.tab13 dec.bits13 (fun HT_ HW_ => ?_)
   generalize World.drew _ = wk_ at YT YW YB HGB2 HS hHeld ⊢
   refine P_ 0 36 ?_
   refine P_ 2 38 ?_
   refine P_ 5 41 ?_
   refine T_ 1 37 (y := by rintro w' s0; have r0 := blk_cell s0 0; have r1 := blk_cell s0 1; have r2 := blk_cell s0 2; have r3 := blk_cell s0 3; have r4 := blk_cell s0 4; have r5 := blk_cell s0 5; simp at r0 r1 r2 r3 r4 r5; go_simp; with_reducible rfl) (h := ?_)
   refine T_ 3 39 (y := by rintro w' s0; have r0 := blk_cell s0 0; have r1 := blk_cell s0 1; have r2 := blk_cell s0 2; have r3 := blk_cell s0 3; have r4 := blk_cell s0 4; have r5 := blk_cell s0 5; simp at r0 r1 r2 r3 r4 r5; go_simp; with_reducible rfl) (h := ?_)
   refine T_ 6 42 (y := by rintro w' s0; have r0 := blk_cell s0 0; have r1 := blk_cell s0 1; have r2 := blk_cell s0 2; have r3 := blk_cell s0 3; have r4 := blk_cell s0 4; have r5 := blk_cell s0 5; simp at r0 r1 r2 r3 r4 r5; go_simp; with_reducible rfl) (h := ?_)
   refine O_ 4 40 fun K hK => ?_
   refine g_ Tryz.func34 #[.pointer (some ⟨gb, 0, none⟩)] ?_
   refine (str_calls gb LL _ YB.out HGB2.out).mono ?_
   rintro e wk_ ⟨rfl, hbb, hbw⟩
   refine ⟨_, rfl, ?_⟩
   replace YT := Z_ ((hbw.block gt HGT.out).trans YT.out)
   replace YW := Z_ (YW.out.trans (hbw.mono HGB.out))
   replace YB := Z_ hbb
   replace HGB2 := Z_ (Nat.le_trans HGB2.out hbw.size)
   replace HS := Z_ (Kd.R_step HS.out (fun k_ hk_ _ => hbw.block k_ hk_))
   clear hbw hbb
   refine hK.out _ _ YT.out (fun hHeld => ?_)
   clear hK K
   refine Nm_ 40 ?_
   refine P_ 7 43 ?_
   refine O_ 8 44 fun K hK => ?_
   refine g_ Tryz.func33 #[.agg #[.int .i64 ch, .int .i64 bi, .string hd, .string ⟨LL.toArray⟩, .string tl]] ?_
   refine (wave_Build.calls k2 ch bi hd ⟨LL.toArray⟩ tl _ _ _ HBD.out).mono ?_
   rintro e wk_ ⟨rfl, hb⟩
   refine ⟨_, rfl, ?_⟩
   replace HS := Z_ (Kd.R_below HS.out hb)
   replace YW := Z_ (below_step YW.out hb)
   replace YT := Z_ (blk_below YT.out hb)
   replace YB := Z_ (bldF_below YB.out hb)
   replace HGB2 := Z_ (Nat.le_trans HGB2.out hb.size)
   clear hb
   refine hK.out _ _ YT.out (fun hHeld => ?_)
   clear hK K
   refine Nm_ 44 ?_
   refine P_ 9 35 ?_
   refine P_ 10 45 ?_
   refine P_ 11 46 ?_
   refine P_ 12 10 ?_
   refine P_ 13 5 ?_
   refine done_ (done_of HT_.out (by kernel_rfl)) ?_
   go_wp2
   go_ret2
   exact ⟨rfl, YW.out⟩
  | succ d =>
   have hlt : i < l.length := by omega
   have hlt' : (i : Int) < l.length := by omega
   have hi0 : (0 : Int) ≤ i := by omega
   have HF := Lib.hid (HDS.out i hlt)
   have hst := flat_at D i (by rw [HDL.out]; exact hlt)
   have hsn : D.take (i + 1) = D.take i ++ [D.getD i ByteArray.empty] := by
    have h9 : i < D.length := by rw [HDL.out]; exact hlt
    rw [List.take_succ_eq_append_getElem h9, List.getD_eq_getElem?_getD, List.getElem?_eq_getElem h9]; rfl
   have hfl : flat (D.take (i + 1)) = flat (D.take i) ++ (D.getD i ByteArray.empty).data.toList := by
    rw [hsn]
    unfold flat
    rw [List.map_append, List.flatten_append]
    simp
   have hle := tot_le D (i + 1)
   rw [← flat_len (D.take (i + 1)), hfl, List.length_append, data_length] at hle
   obtain ⟨x, hx⟩ : ∃ x, D.getD i ByteArray.empty = x := ⟨_, rfl⟩
   rw [hx] at HF hfl hle
   obtain ⟨L, hL⟩ : ∃ L, flat (D.take i) = L := ⟨_, rfl⟩
   rw [hL] at YB hfl hle
   have HFL := Lib.hid hfl
   have hbd : L.length + x.size ≤ 140737488355328 := by omega
   clear hst hsn hfl hle hx hL
   go_wp2_with (first | ((with_reducible refine gate_dst (N := 25) rfl ?_); refine wpList_load_mid rfl 49 _ rfl gt 0 rfl [.int .i64 ch, .int .i64 bi, .int .i64 sz, .int .i64 fr, .string hd, .string tl, .slice As l.length cs_] _ (range_all YT.out) Tryz.underlying49 rfl (by kernel_rfl) ?_))
   refine (file_Data.calls k ch bi sz fr hd tl As cs_ l i _ _ _ (Kd.R_reads' HS.out).2.2 hcs HF.out (Tabs.below HT.out YW.out)).mono ?_
   rintro e wk_ ⟨rfl, hb⟩
   replace HS := Z_ (Kd.R_below HS.out hb)
   replace YW := Z_ (below_step YW.out hb)
   replace YT := Z_ (blk_below YT.out hb)
   replace YB := Z_ (bldF_below YB.out hb)
   replace HGB2 := Z_ (Nat.le_trans HGB2.out hb.size)
   clear hb
   go_wp2_with fail
   refine (wstr_calls gb L x _ YB.out hbd HGB2.out).mono ?_
   rintro e wk_ ⟨rfl, hbb, hbw⟩
   replace YT := Z_ ((hbw.block gt HGT.out).trans YT.out)
   replace YW := Z_ (YW.out.trans (hbw.mono HGB.out))
   replace YB := Z_ hbb
   replace HGB2 := Z_ (Nat.le_trans HGB2.out hbw.size)
   replace HS := Z_ (Kd.R_step HS.out (fun k_ hk_ _ => hbw.block k_ hk_))
   clear hbw hbb
   go_wp2
   go_roundg d
   case measure => omega
   case rel => exact ⟨i + 1, by go_num, by omega, YT, YW, ⟨by rw [HFL.out]; exact YB.out⟩, HGB2, HS⟩
def rng.T17 : Bool × List (List Nat × List Nat) := (true, [([], []), ([0], [0]), ([1], [1]), ([], []), ([], []), ([4], [4]), ([3, 5], [3, 5]), ([2, 2, 0, 1, 2], [2]), ([6, 7, 0, 1, 2, 3, 4, 5, 6, 7], [6])])
def rng.B17 : List Nat := [0, 1, 3, 0, 0, 16, 56, 7, 255]
theorem rng.tab17 : rtab .any (opsOf Tryz.f19 17) = rng.T17 := by kernel_rfl
theorem rng.bits17 : waitsOk rng.T17.2 rng.B17 = true := by kernel_rfl
theorem w_sub (a u x : Nat) (h : u ≤ a) (hb : a ≤ 4096) (e : a - u = x) : wrap64 ((a : Int) - u) = (x : Int) := by unfold wrap64; omega
theorem w_mul (x y z : Nat) (e : x * y = z) (hb : z ≤ 9223372036854775807) : wrap64 ((x : Int) * (y : Int)) = (z : Int) := by
 rw [← Int.natCast_mul, e]
 unfold wrap64
 omega
theorem w_succ (i : Nat) (h : i ≤ 65536) : wrap64 ((i : Int) + 1) = ((i + 1 : Nat) : Int) := by unfold wrap64; omega
theorem w_id (x : Nat) (hb : x ≤ 9223372036854775807) : wrap64 (x : Int) = (x : Int) := by unfold wrap64; omega
theorem range_calls (k : Nat) (s : ByteArray) (ch bi sz fr : Nat) (hd tl : ByteArray) (l D : List ByteArray) (p1 p2 p3 p5 q : Nat) (a b f0 e0 fs_ : Nat) (w : World) (hT : Tabs w) (ho : StrOk s ch bi sz fr hd tl l p1 p2 p3 p5 q) (hab : a < b) (hb : b ≤ fr) (hf0 : a / sz = f0) (he0 : ∀ i : Nat, i < e0 ↔ i * sz < b) (hel : e0 ≤ l.length) (hfe : f0 ≤ e0) (hds : ∀ i, f0 ≤ i → i < e0 → file_whole_data.f k ch bi sz fr hd tl l (i : Int) = some (D.getD i ByteArray.empty, true)) (hD : D.length = l.length) (hdt : tot D ≤ 140737488355328) (hfr : pcm_Frame.f ch bi = some (fs_ : Int)) (hfs : fs_ ≤ 4) (hlen : (b - f0 * sz) * fs_ ≤ tot ((D.drop f0).take (e0 - f0))) :
  Calls Tryz.prog 19 #[.string s, .int .i64 a, .int .i64 b] w fun e w' => e = .returned (.tuple #[.string ((⟨(flat ((D.drop f0).take (e0 - f0))).toArray⟩ : ByteArray).extract ((a - f0 * sz) * fs_) ((b - f0 * sz) * fs_)), .int .i64 0]) ∧ Below w.heap.size w w' := by
 have hu49 := Tryz.underlying49
 have hu23 := Tryz.underlying23
 have HT := Z_ hT
 have HDS := Z_ hds
 have HFR := Lib.hid hfr
 have HDL := Lib.hid hD
 have HE0 := Z_ he0
 have hll : l.length ≤ 65536 := by have h2 := ho.hq; have h3 := ho.fin; have h4 := ho.size; omega
 have hok := ho.ok
 obtain ⟨_, _, hz1, hz2, _, hz3, _, _⟩ := hok
 have SG := Lib.hid (sget_calls s ch bi sz fr hd tl l p1 p2 p3 p5 q w ho)
 clear hT hds hfr hD ho
 have b1 : ¬ ((a : Int) < 0) := by omega
 have b2 : ¬ ((b : Int) < a) := by omega
 have b3 : ¬ ((fr : Int) < b) := by omega
 have b4 : ¬ ((a : Int) = b) := by omega
 have b5 : ¬ ((sz : Int) = 0) := by omega
 have b6 : Int.tdiv (a : Int) (sz : Int) = (f0 : Int) := by rw [← hf0]; rfl
 have b7 := w_id f0 (by omega)
 have hu : f0 * sz ≤ a := by rw [← hf0]; exact Nat.div_mul_le_self a sz
 have hzb : ∀ i : Nat, i ≤ e0 → i * sz ≤ 65536 * 64 := fun i hi => Nat.mul_le_mul (by omega) (by omega)
 have HZB := Z_ hzb
 have hx2 : (b - f0 * sz) * fs_ ≤ 4096 * 4 := Nat.mul_le_mul (by omega) hfs
 have hx1 : (a - f0 * sz) * fs_ ≤ (b - f0 * sz) * fs_ := Nat.mul_le_mul_right _ (by omega)
 obtain ⟨res, hres⟩ : ∃ r, (⟨(flat ((D.drop f0).take (e0 - f0))).toArray⟩ : ByteArray).extract ((a - f0 * sz) * fs_) ((b - f0 * sz) * fs_) = r := ⟨_, rfl⟩
 rw [hres]
 obtain ⟨u1, hu1⟩ : ∃ u, f0 * sz = u := ⟨_, rfl⟩
 rw [hu1] at hu hx2 hx1 hlen hres
 have hb4 : b ≤ 4096 := by clear hlen hdt hx1 hx2; omega
 have ha4 : a ≤ 4096 := Nat.le_trans (Nat.le_of_lt hab) hb4
 have g1 := w_mul f0 sz u1 hu1 (Nat.le_trans hu (Nat.le_trans ha4 (by decide)))
 obtain ⟨x1, hx1e⟩ : ∃ u, a - u1 = u := ⟨_, rfl⟩
 obtain ⟨x2, hx2e⟩ : ∃ u, b - u1 = u := ⟨_, rfl⟩
 have g2 := w_sub a u1 x1 hu ha4 hx1e
 have g3 := w_sub b u1 x2 (Nat.le_trans hu (Nat.le_of_lt hab)) hb4 hx2e
 rw [hx1e] at hx1 hres
 rw [hx2e] at hx2 hx1 hlen hres
 obtain ⟨y1, hy1⟩ : ∃ u, x1 * fs_ = u := ⟨_, rfl⟩
 obtain ⟨y2, hy2⟩ : ∃ u, x2 * fs_ = u := ⟨_, rfl⟩
 rw [hy1] at hx1 hres
 rw [hy2] at hx2 hx1 hlen hres
 have g4 := w_mul x1 fs_ y1 hy1 (Nat.le_trans hx1 (Nat.le_trans hx2 (by decide)))
 have g5 := w_mul x2 fs_ y2 hy2 (Nat.le_trans hx2 (by decide))
 have RES := Lib.hid hres
 have HLEN := Z_ hlen
 have G1 := Lib.hid g1
 have G2 := Lib.hid g2
 have G3 := Lib.hid g3
 have G4 := Lib.hid g4
 have G5 := Lib.hid g5
 have HX1 := Z_ hx1
 have HX2 := Z_ hx2
 clear g1 g2 g3 g4 g5 hx1 hx2 ha4 hb4
 clear hres hlen hu1 hx1e hx2e hy1 hy2 hzb hu
 have HDT := Z_ hdt
 have HLL0 := Z_ hll
 clear he0 hf0 hfs hdt hz3 hll
 go_enter Tryz.func19, Tryz.ntmps19
 go_wp2_with fail
 refine SG.out.mono ?_
 rintro e w1 ⟨v0, rfl, hr, hb⟩
 obtain ⟨As, cs_, he, hcs, _⟩ := Kd.R_reads hr
 subst he
 have HS := Z_ hr
 have YW := Z_ hb
 clear hr hb
 go_wp2_with (first | (refine X_ 8 #[.int .i64 0, .int .i64 0, .int .i64 0, .int .i64 0, .string ⟨#[]⟩, .string ⟨#[]⟩, .slice none 0 0] 49 ?_; intro gt hg wk_ hbox hb; have HGT0 : Aside0 (w.heap.size ≤ gt) := ⟨by rw [hg]; exact YW.out.size⟩; have HG_ := Z_ hg; have HB_ := Z_ hb; have YT := Z_ hbox; clear hbox hb hg) | ((with_reducible refine gate_store (t := 49) (p := 8) rfl ?_); refine wpList_store_mid rfl 49 _ _ rfl gt 0 #[.int .i64 ch, .int .i64 bi, .int .i64 sz, .int .i64 fr, .string hd, .string tl, .slice As l.length cs_] rfl rfl (there_blk (vs := [.int .i64 0, .int .i64 0, .int .i64 0, .int .i64 0, .string ⟨#[]⟩, .string ⟨#[]⟩, .slice none 0 0]) YT.out 0 7 (by decide)) (by kernel_rfl) (by simp [Value.oneCell']) ?_; have nc_ := Z_ (setCells_all (vs := [.int .i64 ch, .int .i64 bi, .int .i64 sz, .int .i64 fr, .string hd, .string tl, .slice As l.length cs_]) (old := [.int .i64 0, .int .i64 0, .int .i64 0, .int .i64 0, .string ⟨#[]⟩, .string ⟨#[]⟩, .slice none 0 0]) YT.out rfl); have hb := below_setCells HB_.out (Nat.le_of_eq HG_.out.symm) [.int .i64 ch, .int .i64 bi, .int .i64 sz, .int .i64 fr, .string hd, .string tl, .slice As l.length cs_] 0; replace HS := Z_ (Kd.R_below HS.out hb); replace YW := Z_ (below_step YW.out hb); clear hb HB_ HG_ YT; have YT := nc_; clear nc_; generalize World.setCells _ _ _ _ = wk_ at HS YW YT ⊢; have r2 := blk_cell YT.out 2; have r3 := blk_cell YT.out 3; simp at r2 r3) | (refine X_ 11 #[.pointer none, .slice none 0 0] 66 ?_; intro gb hg wk_ hbox hb; have HGT : Aside0 (gt < gb) := ⟨by rw [hg]; exact blk_lt YT.out⟩; have HGB : Aside0 (w.heap.size ≤ gb) := ⟨by rw [hg]; exact YW.out.size⟩; have n9_ := Z_ (Kd.R_mono (Kd.R_bound HS.out) (ok' := fun k => k < gb) (fun k hk => by rw [hg]; exact hk.2.2.1)); clear HS; have HS := n9_; clear n9_; replace HS := Z_ (Kd.R_below HS.out hb); replace YW := Z_ (below_step YW.out hb); replace YT := Z_ (blk_below YT.out hb); have YBX := Z_ hbox; clear hbox hb hg; have r1 := blk_cell YT.out 2; simp at r1))
 have YB := Z_ (bldF_new YBX.out)
 have HGB2 := Z_ (Nat.le_of_lt (blk_lt YBX.out))
 clear YBX
 go_loopg [12] (e0 - f0) (fun d v12 wr => ∃ i : Nat, v12 = .int .i64 i ∧ i + d = e0 ∧ f0 ≤ i ∧ Aside0 (wr.heap[gt]? = some (.cells #[.int .i64 ch, .int .i64 bi, .int .i64 sz, .int .i64 fr, .string hd, .string tl, .slice As l.length cs_] 49 (0, 0))) ∧ Aside0 (Below w.heap.size w wr) ∧ Aside0 (Lib.IsBuilderF 66 5 gb gb (Lib.byteCells (flat ((D.drop f0).take (i - f0)))) wr) ∧ Aside0 (gb ≤ wr.heap.size) ∧ Aside0 (Kd.R Kd.string 9 wr w.heap.size (fun k => k < gb) (.slice As l.length cs_) l))
 case atStart => exact ⟨f0, rfl, Nat.add_sub_cancel' hfe, Nat.le_refl _, YT, YW, ⟨by rw [Nat.sub_self, List.take_zero]; exact YB.out⟩, HGB2, HS⟩
 case round =>
  clear YT YW YB HGB2 HS r1 r2 r3
  obtain ⟨i, rfl, hi, hi2, YT, YW, YB, HGB2, HS⟩ := hrel
  have r2 := blk_cell YT.out 2
  simp at r2
  have hib := HZB.out i (hi ▸ Nat.le_add_right i _)
  have hlz := HE0.out i
  obtain ⟨z, hz⟩ : ∃ z, i * sz = z := ⟨_, rfl⟩
  rw [hz] at hib hlz
  have g6 := w_mul i sz z hz (Nat.le_trans hib (by decide))
  clear hz
  cases gk with
  | zero =>
   obtain rfl : e0 = i := (show i = e0 from hi).symm
   have g7 : ¬ ((z : Int) < b) := by
    intro h
    exact absurd (hlz.2 (Int.ofNat_lt.1 h)) (Nat.lt_irrefl _)
   have g1 := G1.out
   have g2 := G2.out
   have g3 := G3.out
   have g4 := G4.out
   have g5 := G5.out
   have hx1 := HX1.out
   have hx2 := HX2.out
   have h8 := flat_len ((D.drop f0).take (e0 - f0))
   have h9 := HLEN.out
   rw [← h8] at h9
   obtain ⟨LL, hL⟩ : ∃ L, flat ((D.drop f0).take (e0 - f0)) = L := ⟨_, rfl⟩
   rw [hL] at YB h9
   have HLL := Lib.hid hL
   clear hL h8 hlz
   have c1 : ((y2 : Nat) : Int) ≤ ((⟨LL.toArray⟩ : ByteArray).size : Int) := Int.ofNat_le.2 (by
    have : (⟨LL.toArray⟩ : ByteArray).size = LL.length := List.size_toArray
    rw [this]
    exact h9)
   have c2 : (y1 : Int) ≤ (y2 : Int) := Int.ofNat_le.2 hx1
   have c3 : (0 : Int) ≤ (y1 : Int) := Int.natCast_nonneg _
   obtain ⟨t, ht⟩ : ∃ t : ByteArray, ⟨LL.toArray⟩ = t := ⟨_, rfl⟩
   rw [ht] at c1
   have CS := Lib.hid (fun W h1 h2 => str_calls gb LL W h1 h2)
   rw [ht] at CS
   have HTT := Lib.hid ht
   clear ht
   go_wp2
   replace YT := Z_ (blk_drew YT.out)
   replace YW := Z_ (below_drew1 YW.out)
   replace YB := Z_ (bldF_below YB.out (below_drew (Below.refl _ _)))
   replace HGB2 := Z_ (size_drew HGB2.out)
   replace HS := Z_ (Kd.R_drew HS.out)
   refine start_ (n := 9) (S := fun w' => w'.heap[gt]? = some (.cells #[.int .i64 ch, .int .i64 bi, .int .i64 sz, .int .i64 fr, .string hd, .string tl, .slice As l.length cs_] 49 (0, 0))) (ds := []) #[false, false, false, false, false, false, false, false, false] (by kernel_rfl) rfl rfl YT.out (fun hHeld => ?_); refine with_tabW rng.tab17 rng.bits17 (fun HT_ HW_ => ?_)
   generalize World.drew _ = wk_ at YT YW YB HGB2 HS hHeld ⊢
   refine P_ 0 66 ?_
   refine P_ 3 69 ?_
   refine P_ 4 70 ?_
   refine T_ 1 67 (y := by rintro w' s0; have r0 := blk_cell s0 0; have r1 := blk_cell s0 1; have r2 := blk_cell s0 2; have r3 := blk_cell s0 3; have r4 := blk_cell s0 4; have r5 := blk_cell s0 5; simp at r0 r1 r2 r3 r4 r5; go_simp; with_reducible rfl) (h := ?_)
   refine T_ 5 71 (y := by rintro w' s0; have r0 := blk_cell s0 0; have r1 := blk_cell s0 1; have r2 := blk_cell s0 2; have r3 := blk_cell s0 3; have r4 := blk_cell s0 4; have r5 := blk_cell s0 5; simp at r0 r1 r2 r3 r4 r5; go_simp; with_reducible rfl) (h := ?_)
   refine P_ 6 72 ?_
   refine O_ 2 68 fun K hK => ?_
   refine g_ Tryz.func29 #[.agg #[.int .i64 ch, .int .i64 bi]] ?_
   refine (pcm_Frame.calls ch bi fs_ _ HFR.out).mono ?_
   rintro e wk_ ⟨rfl, hb⟩
   refine ⟨_, rfl, ?_⟩
   replace HS := Z_ (Kd.R_below HS.out hb)
   replace YW := Z_ (below_step YW.out hb)
   replace YT := Z_ (blk_below YT.out hb)
   replace YB := Z_ (bldF_below YB.out hb)
   replace HGB2 := Z_ (Nat.le_trans HGB2.out hb.size)
   clear hb
   refine hK.out _ _ YT.out (fun hHeld => ?_)
   clear hK K
   refine Nm_ 68 ?_
   refine P_ 7 15 ?_
   refine P_ 8 16 ?_
   refine done_ (done_of HT_.out (by kernel_rfl)) ?_
   go_wp2_with fail
   refine (CS.out _ YB.out HGB2.out).mono ?_
   rintro e wk_ ⟨rfl, hbb, hbw⟩
   replace YT := Z_ ((hbw.block gt HGT.out).trans YT.out)
   replace YW := Z_ (YW.out.trans (hbw.mono HGB.out))
   replace YB := Z_ hbb
   replace HGB2 := Z_ (Nat.le_trans HGB2.out hbw.size)
   replace HS := Z_ (Kd.R_step HS.out (fun k_ hk_ _ => hbw.block k_ hk_))
   clear hbw hbb
   go_wp2
   go_ret2
   exact ⟨by rw [← RES.out, HLL.out, HTT.out]; rfl, YW.out⟩
  | succ d =>
   have g7 : (z : Int) < b := by
    have hie : i < e0 := by rw [← hi]; exact Nat.lt_add_of_pos_right (Nat.succ_pos d)
    exact Int.ofNat_lt.2 (hlz.1 hie)
   have hie : i < e0 := by rw [← hi]; exact Nat.lt_add_of_pos_right (Nat.succ_pos d)
   clear hlz
   have hlt : i < l.length := Nat.lt_of_lt_of_le hie hel
   have hlt' : (i : Int) < l.length := Int.ofNat_lt.2 hlt
   have hi0 : (0 : Int) ≤ i := Int.natCast_nonneg _
   have HF := Lib.hid (HDS.out i hi2 hie)
   have hsn : (D.drop f0).take (i + 1 - f0) = (D.drop f0).take (i - f0) ++ [D.getD i ByteArray.empty] := by
    have h9 : i - f0 < (D.drop f0).length := by rw [List.length_drop, HDL.out]; exact Nat.sub_lt_sub_right hi2 hlt
    have e9 : i + 1 - f0 = i - f0 + 1 := Nat.sub_add_comm hi2
    rw [e9, List.take_succ_eq_append_getElem h9, List.getElem_drop]
    congr 2
    have e8 : f0 + (i - f0) = i := Nat.add_sub_cancel' hi2
    rw [List.getD_eq_getElem?_getD, List.getElem?_eq_getElem (by rw [HDL.out]; exact hlt)]
    simp only [e8]
    rfl
   have hfl : flat ((D.drop f0).take (i + 1 - f0)) = flat ((D.drop f0).take (i - f0)) ++ (D.getD i ByteArray.empty).data.toList := by
    rw [hsn]
    unfold flat
    rw [List.map_append, List.flatten_append]
    simp
   have hle := tot_le (D.drop f0) (i + 1 - f0)
   rw [← flat_len ((D.drop f0).take (i + 1 - f0)), hfl, List.length_append, data_length] at hle
   have hle2 : tot (D.drop f0) ≤ tot D := by
    have : tot D = tot (D.take f0) + tot (D.drop f0) := by
     unfold tot
     rw [← List.sum_append, ← List.map_append, List.take_append_drop]
    rw [this]
    exact Nat.le_add_left _ _
   obtain ⟨x, hx⟩ : ∃ x, D.getD i ByteArray.empty = x := ⟨_, rfl⟩
   rw [hx] at HF hfl hle
   obtain ⟨L, hL⟩ : ∃ L, flat ((D.drop f0).take (i - f0)) = L := ⟨_, rfl⟩
   rw [hL] at YB hfl hle
   have HFL := Lib.hid hfl
   have hbd : L.length + x.size ≤ 140737488355328 := Nat.le_trans hle (Nat.le_trans hle2 HDT.out)
   clear hsn hfl hle hle2 hx hL
   go_wp2_with (first | ((with_reducible refine gate_dst (N := 57) rfl ?_); refine wpList_load_mid rfl 49 _ rfl gt 0 rfl [.int .i64 ch, .int .i64 bi, .int .i64 sz, .int .i64 fr, .string hd, .string tl, .slice As l.length cs_] _ (range_all YT.out) Tryz.underlying49 rfl (by kernel_rfl) ?_))
   clear r2
   refine (file_Data.calls k ch bi sz fr hd tl As cs_ l i _ _ _ (Kd.R_reads' HS.out).2.2 hcs HF.out (Tabs.below HT.out YW.out)).mono ?_
   rintro e wk_ ⟨rfl, hb⟩
   replace HS := Z_ (Kd.R_below HS.out hb)
   replace YW := Z_ (below_step YW.out hb)
   replace YT := Z_ (blk_below YT.out hb)
   replace YB := Z_ (bldF_below YB.out hb)
   replace HGB2 := Z_ (Nat.le_trans HGB2.out hb.size)
   clear hb
   go_wp2_with fail
   refine (wstr_calls gb L x _ YB.out hbd HGB2.out).mono ?_
   rintro e wk_ ⟨rfl, hbb, hbw⟩
   replace YT := Z_ ((hbw.block gt HGT.out).trans YT.out)
   replace YW := Z_ (YW.out.trans (hbw.mono HGB.out))
   replace YB := Z_ hbb
   replace HGB2 := Z_ (Nat.le_trans HGB2.out hbw.size)
   replace HS := Z_ (Kd.R_step HS.out (fun k_ hk_ _ => hbw.block k_ hk_))
   clear hbw hbb
   go_wp2
   go_roundg d
   case measure => clear hlt' hi0 g7 g6; omega
   case rel =>
    have hll := HLL0.out
    have hws := w_succ i (Nat.le_trans (Nat.le_of_lt hlt) hll)
    clear b1 b2 b3 b4 b5 b6 b7 g6 g7
    exact ⟨i + 1, by first | (rw [hws]) | (simp only [hws]) | go_num, by rw [← hi, Nat.add_assoc, Nat.add_comm 1 d], Nat.le_succ_of_le hi2, YT, YW, ⟨by rw [HFL.out]; exact YB.out⟩, HGB2, HS⟩
end Go.Proofs.YtfghldonnffldaaGreatDoor
namespace Go.Proofs.YtfghldonnffldaaGreatDoor
open Go.RowKit Go.Proofs.YtfghldonnffldaaGreatDoorW.PrintWords Go.Proofs.YtfghldonnffldaaGreatDoorW.PrintLast Go.Proofs.YtfghldonnffldaaGreatDoorW.PrintMore Go.Proofs.YtfghldonnffldaaGreatDoor.TBase
open Go.Proofs.YtfghldonnffldaaGreatDoor.VTwo Go.Proofs.YtfghldonnffldaaGreatDoor.QSix Go.Proofs.YtfghldonnffldaaGreatDoor.ZFiv Go.Proofs.YtfghldonnffldaaGreatDoor.ESev
def W0 : ByteArray := ⟨#[82, 73, 70, 70, 54, 0, 0, 0, 87, 65, 86, 69, 102, 109, 116, 32, 16, 0, 0, 0, 1, 0, 1, 0, 114, 97, 116, 101, 97, 110, 100, 98, 2, 0, 16, 0, 100, 97, 116, 97, 6, 0, 0, 0, 5, 0, 6, 0, 7, 0, 109, 111, 114, 101, 3, 0, 0, 0, 97, 98, 99, 100]⟩
def E0 : ByteArray := ⟨#[68, 83, 67, 84, 1, 16, 2, 3, 44, 12, 82, 73, 70, 70, 54, 0, 0, 0, 87, 65, 86, 69, 102, 109, 116, 32, 16, 0, 0, 0, 1, 0, 1, 0, 114, 97, 116, 101, 97, 110, 100, 98, 2, 0, 16, 0, 100, 97, 116, 97, 6, 0, 0, 0, 109, 111, 114, 101, 3, 0, 0, 0, 97, 98, 99, 100, 13, 0, 11, 0, 217, 2, 14, 228, 0, 0, 2, 4, 0, 5, 0, 6, 0, 37, 16, 131, 139, 2, 0, 1, 2, 0, 7, 0, 171, 185, 219, 210]⟩
def HD0 : ByteArray := W0.extract 0 44
def TL0 : ByteArray := W0.extract 50 62
def S1 : ByteArray := E0.extract 74 87
def S2 : ByteArray := E0.extract 87 98
theorem sp0 : sput 1 16 2 3 HD0 TL0 [S1, S2] = E0 := by kernel_rfl
theorem many0 : stream_Many.f 3 2 = some 2 := by kernel_rfl
theorem d1 : file_whole_data.f 30 1 16 2 3 HD0 TL0 [S1, S2] 0 = some (⟨#[5, 0, 6, 0]⟩, true) := by kernel_rfl
theorem d2 : file_whole_data.f 30 1 16 2 3 HD0 TL0 [S1, S2] 1 = some (⟨#[7, 0]⟩, true) := by kernel_rfl
theorem b0 : wave_Build.f 30 1 16 HD0 ⟨(flat [⟨#[5, 0, 6, 0]⟩, ⟨#[7, 0]⟩]).toArray⟩ TL0 = some (W0, 0) := by kernel_rfl
theorem w0 : descanttop_wav.f 20 1 16 ⟨#[5,0,6,0,7,0]⟩ = some W0 := by kernel_rfl
theorem e0 : file_Encode.f 30 W0 2 = some (E0, 0) := by kernel_rfl
theorem pw0 : wave_Parse.f 30 W0 = some (1, 16, HD0, W0.extract 44 50, TL0, 0) := by kernel_rfl
theorem fr0 : pcm_Frame.f 1 16 = some 2 := by kernel_rfl
theorem rr0 : ((⟨(flat (([⟨#[5, 0, 6, 0]⟩, ⟨#[7, 0]⟩] : List ByteArray).drop 0 |>.take (2 - 0))).toArray⟩ : ByteArray).extract ((0 - 0 * 2) * 2) ((3 - 0 * 2) * 2)) = W0.extract 44 50 := by kernel_rfl
theorem ok0 : ∃ p1 p2 p3 p5 q, StrOk E0 1 16 2 3 HD0 TL0 [S1, S2] p1 p2 p3 p5 q := by
 have h := sput_ok 1 16 2 3 HD0 TL0 [S1, S2] (by decide) many0 (fun x hx => List.all_eq_true.1 (show [S1, S2].all szB = true by kernel_rfl) x hx) (by rw [sp0]; decide)
 rw [sp0] at h
 exact h
theorem ds0 : ∀ i, i < [S1, S2].length → file_whole_data.f 30 1 16 2 3 HD0 TL0 [S1, S2] (i : Int) = some (([⟨#[5, 0, 6, 0]⟩, ⟨#[7, 0]⟩] : List ByteArray).getD i ByteArray.empty, true) := by
 intro i hi
 match i, hi with
 | 0, _ => exact d1
 | 1, _ => exact d2
theorem pg0 : pcm_Get.f 30 (W0.extract 44 50) 1 16 = some ([[5, 6, 7]], 0) := by kernel_rfl
theorem sg0 : segment_Get.f 30 S1 1 16 = some (⟨#[5, 0, 6, 0]⟩, 0) := by kernel_rfl
theorem sl0 : descantlaw0_SameLists.f 30 [[5, 6, 7]] [[5, 6, 7]] = some true := by kernel_rfl
theorem seg0 {w : World} {ad : Addr} (h : Kd.string.C w (some ad) ([S1, S2] : List ByteArray).length [S1, S2]) : w.cell? ad = some (.string S1) := by
 obtain ⟨ad', e, hx⟩ := Kd.at_string h 0 (by decide) (by decide)
 obtain rfl := Option.some.inj e
 cases ad
 exact hx
def awk.T11 : Bool × List (List Nat × List Nat) := (true, [([], []), ([0], [0]), ([1], [1]), ([2], [2]), ([], []), ([3, 4], [3, 4]), ([5], [5]), ([6], [6]), ([6], [6]), ([7, 5, 0, 1, 2, 3, 4, 5, 6, 7], [7]), ([8, 9, 0, 1, 2, 3, 4, 5, 6, 7, 8, 9], [8])])
def awk.B11 : List Nat := [0, 1, 3, 7, 0, 31, 63, 127, 127, 255, 1023]
theorem awk.tab11 : rtab .any (opsOf Tryz.f8 11) = awk.T11 := by kernel_rfl
theorem awk.bits11 : waitsOk awk.T11.2 awk.B11 = true := by kernel_rfl
theorem num0 (w : World) : Calls Tryz.prog 12 #[.int .i64 0] w fun e w' => e = .returned (.int .i64 0) ∧ w' = w := by
 go_enter Tryz.func12, Tryz.ntmps12
 go_wp2
 go_ret
 exact ⟨rfl, rfl⟩
section
variable {P : Program} {ops : Array Oper} {rest : List Oper} {o : Oper} {a : Act} {Q : Exit → Act → World → Prop}
theorem lit_event {W : World} (hgd : o.guard = none) {N : Tmp} (_hd : o.dst = some N) {cs : Array Value} {t n : Nat}
  (hrun : (execOp a.eval o).run P W = .ok (.value (.slice (some ⟨W.heap.size, 0, none⟩) n n)) (W.alloc (.cells cs t (0, 0))))
  (h : ∀ g, g = W.heap.size → ∀ w1, w1.heap[g]? = some (.cells cs t (0, 0)) → Below W.heap.size W w1 → wpList P ops Q rest (a.put o.dst (.slice (some ⟨g, 0, none⟩) n n)) w1) : wpList P ops Q (o :: rest) a W :=
 Kd.event_run hgd hrun (h _ rfl _ (blk_new W _) (below_alloc (Below.refl _ _) _))
end
theorem lists0 (w : World) (g1 g2 : Nat) (h1 : w.heap[g1]? = some (.cells #[.int .i64 5, .int .i64 6, .int .i64 7] 3 (0, 0))) (h2 : w.heap[g2]? = some (.cells #[.slice (some ⟨g1, 0, none⟩) 3 3] 36 (0, 0))) :
  Kd.C (Kd.slice 3 (Kd.int .i64)) w (some ⟨g2, 0, none⟩) ([[5, 6, 7]] : List (List Int)).length [[5, 6, 7]] := by
 refine ⟨rfl, by decide, fun _ => ⟨_, rfl, fun j p hj => ?_⟩⟩
 obtain _ | j := j
 ·obtain rfl := Option.some.inj hj
  refine ⟨[.slice (some ⟨g1, 0, none⟩) 3 3], rfl, ⟨some ⟨g1, 0, none⟩, 3, rfl, by decide, rfl, by decide, fun _ => ⟨_, rfl, fun j p hj => ?_⟩⟩, fun i u hu => ?_⟩
  ·match j, hj with
   | 0, hj => obtain rfl := Option.some.inj hj; exact ⟨[.int .i64 5], rfl, rfl, fun i u hu => match i, hu with | 0, hu => (blk_cell h1 0).trans hu | _ + 1, hu => nomatch hu⟩
   | 1, hj => obtain rfl := Option.some.inj hj; exact ⟨[.int .i64 6], rfl, rfl, fun i u hu => match i, hu with | 0, hu => (blk_cell h1 1).trans hu | _ + 1, hu => nomatch hu⟩
   | 2, hj => obtain rfl := Option.some.inj hj; exact ⟨[.int .i64 7], rfl, rfl, fun i u hu => match i, hu with | 0, hu => (blk_cell h1 2).trans hu | _ + 1, hu => nomatch hu⟩
  ·obtain _ | i := i
   ·exact (blk_cell h2 0).trans hu
   ·cases hu
 ·cases hj
theorem awake_calls (w : World) (hT : Tabs w) : Calls Tryz.prog 8 #[] w fun e w' => e = .returned (.bool true) ∧ Below w.heap.size w w' := by
 have HT := Z_ hT
 clear hT
 have Y1 : Aside0 ((w.alloc (.cells #[.int .i64 1, .int .i64 16] 23)).heap[w.heap.size]? = some (.cells #[.int .i64 1, .int .i64 16] 23 (0, 0))) := ⟨blk_new w _⟩
 have YW : Aside0 (Below w.heap.size w (w.alloc (.cells #[.int .i64 1, .int .i64 16] 23))) := ⟨below_alloc (Below.refl _ _) _⟩
 go_enter Tryz.func8, Tryz.ntmps8
 go_wp2_with fail
 refine (descanttop_wav.calls 20 1 16 _ _ _ w0).mono ?_
 rintro e wk_ ⟨rfl, hb⟩
 replace Y1 := Z_ (blk_below Y1.out hb)
 replace YW := Z_ (below_step YW.out hb)
 clear hb
 go_wp2_with fail
 refine (file_Encode.calls 30 W0 2 _ _ _ e0 (Tabs.below HT.out YW.out)).mono ?_
 rintro e wk_ ⟨rfl, hb⟩
 replace Y1 := Z_ (blk_below Y1.out hb)
 replace YW := Z_ (below_step YW.out hb)
 clear hb
 go_wp2_with fail
 obtain ⟨p1, p2, p3, p5, q, ho⟩ := ok0
 refine (decode_calls 30 30 E0 1 16 2 3 HD0 TL0 [S1, S2] [⟨#[5, 0, 6, 0]⟩, ⟨#[7, 0]⟩] p1 p2 p3 p5 q W0 _ (Tabs.below HT.out YW.out) ho rfl ds0 (by decide) b0).mono ?_
 rintro e wk_ ⟨rfl, hb⟩
 replace Y1 := Z_ (blk_below Y1.out hb)
 replace YW := Z_ (below_step YW.out hb)
 clear hb
 go_wp2_with fail
 refine (sget_calls E0 1 16 2 3 HD0 TL0 [S1, S2] p1 p2 p3 p5 q _ ho).mono ?_
 rintro e wk_ ⟨v0, rfl, hr, hb⟩
 obtain ⟨As, cs_, he, hcs, _⟩ := Kd.R_reads hr
 subst he
 have HS := Z_ (Kd.R_lower hr YW.out.size)
 clear hr
 replace Y1 := Z_ (blk_below Y1.out hb)
 replace YW := Z_ (below_step YW.out hb)
 clear hb
 go_wp2_with (first | (refine X_ 7 #[.int .i64 0, .int .i64 0, .int .i64 0, .int .i64 0, .string ⟨#[]⟩, .string ⟨#[]⟩, .slice none 0 0] 49 ?_; intro g7 hg wk_ hbox hb; have HG_ := Z_ hg; have HB_ := Z_ hb; have Y7 := Z_ hbox; clear hbox hb hg) | ((with_reducible refine gate_store (t := 49) (p := 7) rfl ?_); refine wpList_store_mid rfl 49 _ _ rfl g7 0 #[.int .i64 1, .int .i64 16, .int .i64 2, .int .i64 3, .string HD0, .string TL0, .slice As [S1, S2].length cs_] rfl rfl (there_blk (vs := [.int .i64 0, .int .i64 0, .int .i64 0, .int .i64 0, .string ⟨#[]⟩, .string ⟨#[]⟩, .slice none 0 0]) Y7.out 0 7 (by decide)) (by kernel_rfl) (by simp [Value.oneCell']) ?_; have nc_ := Z_ (setCells_all (vs := [.int .i64 1, .int .i64 16, .int .i64 2, .int .i64 3, .string HD0, .string TL0, .slice As [S1, S2].length cs_]) (old := [.int .i64 0, .int .i64 0, .int .i64 0, .int .i64 0, .string ⟨#[]⟩, .string ⟨#[]⟩, .slice none 0 0]) Y7.out rfl); have hb := below_setCells HB_.out (Nat.le_of_eq HG_.out.symm) [.int .i64 1, .int .i64 16, .int .i64 2, .int .i64 3, .string HD0, .string TL0, .slice As [S1, S2].length cs_] 0; replace Y1 := Z_ (blk_below Y1.out hb); replace YW := Z_ (below_step YW.out hb); replace HS := Z_ (Kd.R_below HS.out hb); clear hb HB_ HG_ Y7; have Y7 := nc_; clear nc_; generalize World.setCells _ _ _ _ = wk_ at Y1 YW HS Y7 ⊢))
 refine (wave_Parse.calls 30 W0 _ _ _ _ _ _ _ pw0).mono ?_
 rintro e wk_ ⟨rfl, hb⟩
 replace Y1 := Z_ (blk_below Y1.out hb)
 replace YW := Z_ (below_step YW.out hb)
 replace HS := Z_ (Kd.R_below HS.out hb)
 replace Y7 := Z_ (blk_below Y7.out hb)
 clear hb
 go_wp2_with (first | (refine X_ 9 #[.int .i64 0, .int .i64 0, .string ⟨#[]⟩, .string ⟨#[]⟩, .string ⟨#[]⟩] 57 ?_; intro g9 hg wk_ hbox hb; have HG_ := Z_ hg; have HB_ := Z_ hb; have Y9 := Z_ hbox; clear hbox hb hg) | ((with_reducible refine gate_store (t := 57) (p := 9) rfl ?_); refine wpList_store_mid rfl 57 _ _ rfl g9 0 #[.int .i64 1, .int .i64 16, .string HD0, .string (W0.extract 44 50), .string TL0] rfl rfl (there_blk (vs := [.int .i64 0, .int .i64 0, .string ⟨#[]⟩, .string ⟨#[]⟩, .string ⟨#[]⟩]) Y9.out 0 5 (by decide)) (by kernel_rfl) (by simp [Value.oneCell']) ?_; have nc_ := Z_ (setCells_all (vs := [.int .i64 1, .int .i64 16, .string HD0, .string (W0.extract 44 50), .string TL0]) (old := [.int .i64 0, .int .i64 0, .string ⟨#[]⟩, .string ⟨#[]⟩, .string ⟨#[]⟩]) Y9.out rfl); have hb := below_setCells HB_.out (Nat.le_of_eq HG_.out.symm) [.int .i64 1, .int .i64 16, .string HD0, .string (W0.extract 44 50), .string TL0] 0; replace Y1 := Z_ (blk_below Y1.out hb); replace YW := Z_ (below_step YW.out hb); replace HS := Z_ (Kd.R_below HS.out hb); replace Y7 := Z_ (blk_below Y7.out hb); clear hb HB_ HG_ Y9; have Y9 := nc_; clear nc_; generalize World.setCells _ _ _ _ = wk_ at Y1 YW HS Y7 Y9 ⊢))
 refine (range_calls 30 E0 1 16 2 3 HD0 TL0 [S1, S2] [⟨#[5, 0, 6, 0]⟩, ⟨#[7, 0]⟩] p1 p2 p3 p5 q 0 3 0 2 2 _ (Tabs.below HT.out YW.out) ho (by decide) (by decide) rfl (fun i => by omega) (by decide) (by decide) (fun i _ h => ds0 i h) rfl (by decide) fr0 (by decide) (by decide)).mono ?_
 rintro e wk_ ⟨rfl, hb⟩
 rw [rr0]
 replace Y1 := Z_ (blk_below Y1.out hb)
 replace YW := Z_ (below_step YW.out hb)
 replace HS := Z_ (Kd.R_below HS.out hb)
 replace Y7 := Z_ (blk_below Y7.out hb)
 replace Y9 := Z_ (blk_below Y9.out hb)
 clear hb
 have r0 := blk_cell Y1.out 0
 have r1 := blk_cell Y1.out 1
 have q3 := blk_cell Y9.out 3
 simp at r0 r1 q3
 go_wp2_with (first | ((with_reducible refine gate_dst (N := 48) rfl ?_); refine wpList_load_mid rfl 23 _ rfl w.heap.size 0 rfl [.int .i64 1, .int .i64 16] _ (range_all Y1.out) Tryz.underlying23 rfl (by kernel_rfl) ?_))
 refine (pcm_Get.calls 30 (W0.extract 44 50) 1 16 [[5, 6, 7]] 0 _ pg0).mono ?_
 rintro e wk_ ⟨v0, rfl, hra, hb⟩
 obtain ⟨Aa, ca, he, hca, hCa⟩ := Kd.S_reads hra
 subst he
 have HA := Z_ hCa
 clear hra hCa
 clear r0 r1 q3
 replace Y1 := Z_ (blk_below Y1.out hb)
 replace YW := Z_ (below_step YW.out hb)
 replace HS := Z_ (Kd.R_below HS.out hb)
 replace Y7 := Z_ (blk_below Y7.out hb)
 replace Y9 := Z_ (blk_below Y9.out hb)
 clear hb
 have q6 := blk_cell Y7.out 6
 simp at q6
 go_wp2_with fail
 clear q6
 obtain ⟨ad, hAd, _⟩ := Kd.at_string (Kd.R_reads' HS.out).2.2 0 (by decide) (by decide)
 subst hAd
 replace Y1 := Z_ (blk_drew Y1.out)
 replace YW := Z_ (below_drew1 YW.out)
 replace HS := Z_ (Kd.R_drew HS.out)
 replace Y7 := Z_ (blk_drew Y7.out)
 replace Y9 := Z_ (blk_drew Y9.out)
 replace HA := Z_ (Kd.C_drew HA.out)
 refine start_ (n := 11) (S := fun w' => w'.heap[g7]? = some (.cells #[.int .i64 1, .int .i64 16, .int .i64 2, .int .i64 3, .string HD0, .string TL0, .slice (some ad) [S1, S2].length cs_] 49 (0, 0)) ∧ w'.heap[w.heap.size]? = some (.cells #[.int .i64 1, .int .i64 16] 23 (0, 0)) ∧ w'.cell? ad = some (.string S1)) (ds := []) #[false, false, false, false, false, false, false, false, false, false, false] (by kernel_rfl) rfl rfl ⟨Y7.out, Y1.out, seg0 (Kd.R_reads' HS.out).2.2⟩ (fun hHeld => ?_); refine with_tabW awk.tab11 awk.bits11 (fun HT_ HW_ => ?_)
 generalize World.drew _ = wk_ at Y1 YW HS Y7 Y9 HA hHeld ⊢
 refine P_ 0 57 ?_
 refine T_ 1 58 (y := by rintro w' s0; have r6 := blk_cell s0.1 6; have r0 := blk_cell s0.2.1 0; have r1 := blk_cell s0.2.1 1; simp at r0 r1 r6; have r7 := s0.2.2; go_simp; with_reducible rfl) (h := ?_)
 refine T_ 2 59 (y := by rintro w' s0; have r6 := blk_cell s0.1 6; have r0 := blk_cell s0.2.1 0; have r1 := blk_cell s0.2.1 1; simp at r0 r1 r6; have r7 := s0.2.2; go_simp; with_reducible rfl) (h := ?_)
 refine T_ 3 60 (y := by rintro w' s0; have r6 := blk_cell s0.1 6; have r0 := blk_cell s0.2.1 0; have r1 := blk_cell s0.2.1 1; simp at r0 r1 r6; have r7 := s0.2.2; go_simp; with_reducible rfl) (h := ?_)
 refine T_ 4 61 (y := by rintro w' s0; have r6 := blk_cell s0.1 6; have r0 := blk_cell s0.2.1 0; have r1 := blk_cell s0.2.1 1; simp at r0 r1 r6; have r7 := s0.2.2; go_simp; with_reducible rfl) (h := ?_)
 refine O_ 5 62 fun K hK => ?_
 refine g_ Tryz.func26 #[.string S1, .agg #[.int .i64 1, .int .i64 16]] ?_
 refine (segment_Get.calls 30 S1 1 16 _ _ _ sg0 (Tabs.below HT.out YW.out)).mono ?_
 rintro e wk_ ⟨rfl, hb⟩
 refine ⟨_, rfl, ?_⟩
 replace Y1 := Z_ (blk_below Y1.out hb)
 replace YW := Z_ (below_step YW.out hb)
 replace HS := Z_ (Kd.R_below HS.out hb)
 replace Y7 := Z_ (blk_below Y7.out hb)
 replace Y9 := Z_ (blk_below Y9.out hb)
 replace HA := Z_ (Kd.C_below HA.out hb)
 clear hb
 refine hK.out _ _ ⟨Y7.out, Y1.out, seg0 (Kd.R_reads' HS.out).2.2⟩ (fun hHeld => ?_)
 clear hK K
 refine Nm_ 62 ?_
 refine P_ 6 56 ?_
 refine P_ 7 63 ?_
 refine P_ 8 64 ?_
 refine P_ 9 15 ?_
 refine P_ 10 16 ?_
 refine done_ (done_of HT_.out (by kernel_rfl)) ?_
 have q3 := blk_cell Y9.out 3
 simp at q3
 go_wp2_with (first | ((with_reducible refine gate_dst (N := 101) rfl ?_); (try (refine gate_guard (by rfl) ?_; dsimp only)); refine lit_event ?hg (N := 101) ?hd (cs := #[.int .i64 5, .int .i64 6, .int .i64 7]) (t := 3) (n := 3) ?hr ?_; (case hd => rfl); (case hg => rfl); (case hr => first | (go_simp; done) | (go_simp; rfl)); intro gl1 hg wk_ hbox hb; replace YW := Z_ (below_step YW.out hb); replace HA := Z_ (Kd.C_below HA.out hb); have L1 := Z_ hbox; clear hbox hb hg) | ((with_reducible refine gate_dst (N := 102) rfl ?_); (try (refine gate_guard (by rfl) ?_; dsimp only)); refine lit_event ?hg (N := 102) ?hd (cs := #[.slice (some ⟨gl1, 0, none⟩) 3 3]) (t := 36) (n := 1) ?hr ?_; (case hd => rfl); (case hg => rfl); (case hr => first | (go_simp; done) | (go_simp; rfl)); intro gl2 hg wk_ hbox hb; replace YW := Z_ (below_step YW.out hb); replace HA := Z_ (Kd.C_below HA.out hb); replace L1 := Z_ (blk_below L1.out hb); have L2 := Z_ hbox; clear hbox hb hg) | (go_at_call 12; refine (num0 _).mono ?_; rintro e wk_ ⟨rfl, rfl⟩) | (go_at_call 27; refine (descantlaw0_SameLists.calls 30 Aa ca [[5, 6, 7]] (some ⟨gl2, 0, none⟩) 1 [[5, 6, 7]] true _ HA.out hca (lists0 _ _ _ L1.out L2.out) (by decide) sl0).mono ?_; rintro e wk_ ⟨rfl, ⟨⟨nd, rfl⟩⟩⟩; replace YW := Z_ (pw_below_drewN YW.out nd); generalize World.drewN _ nd = wk_ at YW ⊢))
 go_ret
 exact ⟨rfl, YW.out⟩
end Go.Proofs.YtfghldonnffldaaGreatDoor
namespace Go.Proofs.YtfghldonnffldaaGreatDoor
open Go.RowKit Go.Proofs.YtfghldonnffldaaGreatDoorW.PrintWords Go.Proofs.YtfghldonnffldaaGreatDoorW.PrintLast Go.Proofs.YtfghldonnffldaaGreatDoorW.PrintMore Go.Proofs.YtfghldonnffldaaGreatDoor.TBase
def descanttop_awake.f : Option Bool := some true
theorem descanttop_awake.calls (r : Bool) (w : World) (h : descanttop_awake.f = some r) (hT : Tabs w := by exact Tabs.below hT B_) :
  Calls Tryz.prog 8 #[] w fun e w' => e = .returned (.bool r) ∧ Below w.heap.size w w' := by
 obtain rfl := Option.some.inj h
 exact awake_calls w hT
end Go.Proofs.YtfghldonnffldaaGreatDoor
namespace Go.Proofs.YtfghldonnffldaaGreatDoor
open Go.RowKit Go.Proofs.YtfghldonnffldaaGreatDoorW.PrintWords Go.Proofs.YtfghldonnffldaaGreatDoorW.PrintLast Go.Proofs.YtfghldonnffldaaGreatDoorW.PrintMore Go.Proofs.YtfghldonnffldaaGreatDoor.TBase
open Go.Proofs.YtfghldonnffldaaGreatDoor.YFou Go.Proofs.YtfghldonnffldaaGreatDoor.ESev Go.Proofs.YtfghldonnffldaaGreatDoor.ZFiv
def DecRes (k : Nat) (s r : ByteArray) : Prop := ∃ (ch bi sz fr : Nat) (hd tl : ByteArray) (l D : List ByteArray) (p1 p2 p3 p5 q : Nat), StrOk s ch bi sz fr hd tl l p1 p2 p3 p5 q ∧ D.length = l.length ∧
 (∀ i, i < l.length → file_whole_data.f k ch bi sz fr hd tl l (i : Int) = some (D.getD i ByteArray.empty, true)) ∧ tot D ≤ 140737488355328 ∧ wave_Build.f k ch bi hd ⟨(flat D).toArray⟩ tl = some (r, 0)
open Classical in
noncomputable def file_Decode.f (s : ByteArray) : Option (ByteArray × Int) := if h : ∃ r k, DecRes k s r then some (Classical.choose h, 0) else none
theorem file_Decode.calls (s : ByteArray) (r1 : ByteArray) (r2 : Int) (w : World) (h : file_Decode.f s = some (r1, r2)) (hT : Tabs w := by exact Tabs.below hT B_) :
  Calls Tryz.prog 13 #[.string s] w fun e w' => e = .returned (.tuple #[.string r1, .int .i64 r2]) ∧ Below w.heap.size w w' := by
 unfold file_Decode.f at h
 by_cases hx : ∃ r k, DecRes k s r
 ·rw [dif_pos hx] at h
  obtain ⟨rfl, rfl⟩ := Prod.mk.inj (Option.some.inj h)
  obtain ⟨k, ch, bi, sz, fr, hd, tl, l, D, p1, p2, p3, p5, q, ho, hD, hds, hdt, hb⟩ := Classical.choose_spec hx
  exact decode_calls k k s ch bi sz fr hd tl l D p1 p2 p3 p5 q _ w hT ho hD hds hdt hb
 ·rw [dif_neg hx] at h
  cases h
theorem leO_le {α : Type} (g : Nat → Option α) (hm : ∀ k, LeO (g k) (g (k + 1))) (d : Nat) : ∀ k, LeO (g k) (g (k + d)) := by
 induction d with
 | zero => intro k r h; exact h
 | succ d ih => intro k r h; exact hm _ _ (ih k r h)
theorem leO_same {α : Type} (g : Nat → Option α) (hm : ∀ k, LeO (g k) (g (k + 1))) {k k' : Nat} {r r' : α} (h : g k = some r) (h' : g k' = some r') : r = r' := by
 rcases Nat.le_total k k' with hk | hk
 ·obtain ⟨d, rfl⟩ := Nat.exists_eq_add_of_le hk
  exact Option.some.inj ((leO_le g hm d k r h).symm.trans h')
 ·obtain ⟨d, rfl⟩ := Nat.exists_eq_add_of_le hk
  exact Option.some.inj (h.symm.trans (leO_le g hm d k' r' h'))
theorem fst_nat {a b : Nat} {x y : Int} (h : some ((a : Int), x) = some ((b : Int), y)) : a = b := by
 have := (Prod.mk.inj (Option.some.inj h)).1
 omega
theorem three_nat {a b c d : Nat} {x y : Int} (h : some ((a : Int), (b : Int), x) = some ((c : Int), (d : Int), y)) : a = c ∧ b = d := by
 have h1 := Prod.mk.inj (Option.some.inj h)
 have h2 := (Prod.mk.inj h1.2).1
 have h3 := h1.1
 exact ⟨by omega, by omega⟩
theorem StrOk.unique {s : ByteArray} {ch bi sz fr : Nat} {hd tl : ByteArray} {l : List ByteArray} {p1 p2 p3 p5 q : Nat} {ch' bi' sz' fr' : Nat} {hd' tl' : ByteArray} {l' : List ByteArray} {p1' p2' p3' p5' q' : Nat}
  (h : StrOk s ch bi sz fr hd tl l p1 p2 p3 p5 q) (h' : StrOk s ch' bi' sz' fr' hd' tl' l' p1' p2' p3' p5' q') : ch = ch' ∧ bi = bi' ∧ sz = sz' ∧ fr = fr' ∧ hd = hd' ∧ tl = tl' ∧ l = l' := by
 obtain rfl := fst_nat (h.f4.symm.trans h'.f4)
 obtain rfl := fst_nat (h.f5.symm.trans h'.f5)
 obtain rfl := fst_nat (h.f6.symm.trans h'.f6)
 obtain ⟨rfl, rfl⟩ := three_nat (h.n1.symm.trans h'.n1)
 obtain ⟨e2, rfl⟩ := three_nat (h.n2.symm.trans h'.n2)
 obtain ⟨e3, rfl⟩ := three_nat (h.n3.symm.trans h'.n3)
 obtain rfl : hd = hd' := by rw [← h.h, ← h'.h, e2]
 obtain rfl : tl = tl' := by rw [← h.t, ← h'.t, e3]
 obtain rfl : p5 = p5' := h.hp5.symm.trans h'.hp5
 have el : l.length = l'.length := by have := Option.some.inj (h.many.symm.trans h'.many); omega
 obtain rfl : q = q' := by rw [← h.hq, ← h'.hq, el]
 have es : ∀ i, i < l.length → (l.getD i ByteArray.empty).size = (l'.getD i ByteArray.empty).size := fun i hi => fst_nat ((h.sizes i hi).symm.trans (h'.sizes i (by omega)))
 have ei : ∀ i, i ≤ l.length → l.take i = l'.take i := by
  intro i
  induction i with
  | zero => intro _; rfl
  | succ i ih =>
   intro hi
   have h1 := ih (by omega)
   have h2 := h.segs i (by omega)
   have h3 := h'.segs i (by omega)
   rw [← h1, ← es i (by omega), h2] at h3
   rw [List.take_succ_eq_append_getElem (by omega), List.take_succ_eq_append_getElem (by omega), h1]
   rw [List.getD_eq_getElem?_getD, List.getD_eq_getElem?_getD, List.getElem?_eq_getElem (by omega), List.getElem?_eq_getElem (by omega)] at h3
   exact congrArg (fun z => _ ++ [z]) h3
 have e9 := ei l.length (Nat.le_refl _)
 rw [List.take_length, el, List.take_length] at e9
 exact ⟨rfl, rfl, rfl, rfl, rfl, rfl, e9⟩
theorem DecRes.unique {k k' : Nat} {s r r' : ByteArray} (h : DecRes k s r) (h' : DecRes k' s r') : r = r' := by
 obtain ⟨ch, bi, sz, fr, hd, tl, l, D, p1, p2, p3, p5, q, ho, hD, hds, _, hb⟩ := h
 obtain ⟨ch', bi', sz', fr', hd', tl', l', D', p1', p2', p3', p5', q', ho', hD', hds', _, hb'⟩ := h'
 obtain ⟨rfl, rfl, rfl, rfl, rfl, rfl, rfl⟩ := ho.unique ho'
 have e : D = D' := by
  apply List.ext_getElem (by omega)
  intro i h1 h2
  have := leO_same (fun k => file_whole_data.f k ch bi sz fr hd tl l (i : Int)) (fun k => file_whole_data.mono _ _ _ _ _ _ _ _ k) (hds i (by omega)) (hds' i (by omega))
  have := (Prod.mk.inj this).1
  rwa [List.getD_eq_getElem?_getD, List.getD_eq_getElem?_getD, List.getElem?_eq_getElem h1, List.getElem?_eq_getElem h2] at this
 subst e
 have := leO_same (fun k => wave_Build.f k ch bi hd ⟨(flat D).toArray⟩ tl) (fun k => wave_Build.mono _ _ _ _ _ k) hb hb'
 exact (Prod.mk.inj this).1
theorem file_Decode.f_of {k : Nat} {s r : ByteArray} (h : DecRes k s r) : file_Decode.f s = some (r, 0) := by
 have hx : ∃ r k, DecRes k s r := ⟨r, k, h⟩
 unfold file_Decode.f
 rw [dif_pos hx]
 obtain ⟨k', hk'⟩ := Classical.choose_spec hx
 rw [DecRes.unique hk' h]
end Go.Proofs.YtfghldonnffldaaGreatDoor
namespace Go.Proofs.YtfghldonnffldaaGreatDoor
open Go.RowKit Go.Proofs.YtfghldonnffldaaGreatDoorW.PrintWords Go.Proofs.YtfghldonnffldaaGreatDoorW.PrintLast Go.Proofs.YtfghldonnffldaaGreatDoorW.PrintMore Go.Proofs.YtfghldonnffldaaGreatDoor.TBase
open Go.Proofs.YtfghldonnffldaaGreatDoor.VTwo Go.Proofs.YtfghldonnffldaaGreatDoor.ZFiv
theorem wrap_id (x : Int) (h1 : -9223372036854775808 ≤ x) (h2 : x < 9223372036854775808) : wrap64 x = x := by unfold wrap64; omega
theorem low_l0 (n x : Nat) (hn : n ≤ 4) : ∀ d k i, i + d = n → d < k → descantref1_Low.l0 k (x : Int) (n : Int) (Le.bytes i x ++ List.replicate (n - i) 0) (i : Int) = some (strOfNums (Le.bytes n x)) := by
 intro d
 induction d with
 | zero =>
  intro k i hi hk
  obtain ⟨k, rfl⟩ : ∃ m, k = m + 1 := ⟨k - 1, by omega⟩
  obtain rfl : i = n := by omega
  rw [descantref1_Low.l0, if_neg (by omega), Nat.sub_self, List.replicate_zero, List.append_nil]
 | succ d ih =>
  intro k i hi hk
  obtain ⟨k, rfl⟩ : ∃ m, k = m + 1 := ⟨k - 1, by omega⟩
  have w1 : wrap64 ((i : Int) + 1) = ((i + 1 : Nat) : Int) := by unfold wrap64; omega
  have w0 : wrap64 (8 * (i : Int)) = ((8 * i : Nat) : Int) := by unfold wrap64; omega
  have hs : shr .i64 (x : Int) ((8 * i : Nat) : Int) % 256 = ((x / 256 ^ i % 256 : Nat) : Int) := by
   unfold shr
   rw [Int.toNat_natCast, Nat.min_eq_left (by show 8 * i ≤ 64; omega)]
   have hp : 256 ^ i = 2 ^ (8 * i) := by rw [Nat.pow_mul]
   have e : (x : Int) / 2 ^ (8 * i) = ((x / 2 ^ (8 * i) : Nat) : Int) := by
    rw [Int.natCast_ediv]
    congr 1
    first | done | exact (Int.natCast_pow 2 (8 * i)).symm
   rw [e, hp]
   omega
  have hset : (Le.bytes i x ++ List.replicate (n - i) 0).set i ((x / 256 ^ i % 256 : Nat) : Int) = Le.bytes (i + 1) x ++ List.replicate (n - (i + 1)) 0 := by
   rw [List.set_append_right _ _ (by rw [Le.bytes_len]; exact Nat.le_refl _), Le.bytes_len, Nat.sub_self, show n - i = (n - (i + 1)) + 1 by omega, List.replicate_succ, List.set_cons_zero, Le.bytes_succ, List.append_assoc]
   rfl
  rw [descantref1_Low.l0, if_pos (by omega), w0, if_pos (by omega), if_pos (by omega), if_pos (by rw [List.length_append, Le.bytes_len, List.length_replicate]; omega), hs, Int.toNat_natCast, hset, w1]
  exact ih k (i + 1) (by omega) (by omega)
theorem low_f (k n x : Nat) (hn : n ≤ 4) (hk : n < k) : descantref1_Low.f k (x : Int) (n : Int) = some (strOfNums (Le.bytes n x)) := by
 unfold descantref1_Low.f
 rw [if_pos (by omega), if_pos (by rw [Int.toNat_natCast]; omega), Int.toNat_natCast]
 have := low_l0 n x hn n k 0 (by omega) hk
 rw [Nat.sub_zero] at this
 exact this
abbrev lo (n x : Nat) : ByteArray := strOfNums (Le.bytes n x)
theorem lo_size (n x : Nat) : (lo n x).size = n := by rw [strOfNums_size, Le.bytes_len]
def wvA : ByteArray := ⟨#[87, 65, 86, 69, 102, 109, 116, 32, 16, 0, 0, 0, 1, 0]⟩
def wvR : ByteArray := ⟨#[114, 97, 116, 101, 97, 110, 100, 98]⟩
def wvD : ByteArray := ⟨#[100, 97, 116, 97]⟩
def wvP : ByteArray := ⟨#[112]⟩
def wvM : ByteArray := ⟨#[109, 111, 114, 101, 3, 0, 0, 0, 97, 98, 99, 100]⟩
def wvF : ByteArray := ⟨#[82, 73, 70, 70]⟩
theorem wvA_size : wvA.size = 14 := rfl
theorem wvR_size : wvR.size = 8 := rfl
theorem wvD_size : wvD.size = 4 := rfl
theorem wvP_size : wvP.size = 1 := rfl
theorem wvM_size : wvM.size = 12 := rfl
theorem wvF_size : wvF.size = 4 := rfl
def wavX (ch bi : Nat) (d : ByteArray) : ByteArray := ((((((wvA ++ lo 2 ch) ++ wvR) ++ lo 2 (ch * bi / 8)) ++ lo 2 bi) ++ wvD) ++ lo 4 d.size) ++ d
def wavS (ch bi : Nat) (d : ByteArray) : ByteArray := if d.size % 2 = 1 then (wavX ch bi d ++ wvP) ++ wvM else wavX ch bi d ++ wvM
def wavB (ch bi : Nat) (d : ByteArray) : ByteArray := (wvF ++ lo 4 (wavS ch bi d).size) ++ wavS ch bi d
theorem wavX_size (ch bi : Nat) (d : ByteArray) : (wavX ch bi d).size = 36 + d.size := by
 unfold wavX
 simp only [ByteArray.size_append, lo_size, wvA_size, wvR_size, wvD_size]
theorem wavS_size (ch bi : Nat) (d : ByteArray) : (wavS ch bi d).size = 48 + d.size + d.size % 2 := by
 unfold wavS
 split
 ·simp only [ByteArray.size_append, wavX_size, wvP_size, wvM_size]; omega
 ·simp only [ByteArray.size_append, wavX_size, wvM_size]; omega
theorem wavB_size (ch bi : Nat) (d : ByteArray) : (wavB ch bi d).size = 56 + d.size + d.size % 2 := by
 unfold wavB
 simp only [ByteArray.size_append, wavS_size, lo_size, wvF_size]
 omega
theorem frame_nat (ch bi : Nat) (hc : ch = 1 ∨ ch = 2) (hb : bi = 8 ∨ bi = 16) : wrap64 (Int.tdiv (wrap64 ((ch : Int) * (bi : Int))) 8) = ((ch * bi / 8 : Nat) : Int) := by
 rcases hc with rfl | rfl <;> rcases hb with rfl | rfl <;> kernel_rfl
theorem wav_f (k ch bi : Nat) (d : ByteArray) (hc : ch = 1 ∨ ch = 2) (hb : bi = 8 ∨ bi = 16) (hd : d.size ≤ 140737488355328) (hk : 4 < k) : descanttop_wav.f k (ch : Int) (bi : Int) d = some (wavB ch bi d) := by
 have s1 := lo_size 2 ch
 have s2 := lo_size 2 (ch * bi / 8)
 have s3 := lo_size 2 bi
 have s4 := lo_size 4 d.size
 unfold descanttop_wav.f
 show (descantref1_Low.f k (ch : Int) ((2 : Nat) : Int)).bind _ = _
 rw [low_f k 2 ch (by omega) (by omega), Option.bind_some, frame_nat ch bi hc hb]
 change (if 14 + (lo 2 ch).size ≤ _ then (if (wvA ++ lo 2 ch).size + 8 ≤ _ then (descantref1_Low.f k ((ch * bi / 8 : Nat) : Int) ((2 : Nat) : Int)).bind _ else _) else _) = _
 rw [if_pos (by omega), if_pos (by simp only [ByteArray.size_append, wvA_size, lo_size]; omega), low_f k 2 _ (by omega) (by omega), Option.bind_some]
 change (if ((wvA ++ lo 2 ch) ++ wvR).size + (lo 2 (ch * bi / 8)).size ≤ _ then (descantref1_Low.f k (bi : Int) ((2 : Nat) : Int)).bind _ else _) = _
 rw [if_pos (by simp only [ByteArray.size_append, wvA_size, wvR_size, lo_size]; omega), low_f k 2 _ (by omega) (by omega), Option.bind_some]
 change (if (((wvA ++ lo 2 ch) ++ wvR) ++ lo 2 (ch * bi / 8)).size + (lo 2 bi).size ≤ _ then (if ((((wvA ++ lo 2 ch) ++ wvR) ++ lo 2 (ch * bi / 8)) ++ lo 2 bi).size + 4 ≤ _ then (descantref1_Low.f k (d.size : Int) ((4 : Nat) : Int)).bind _ else _) else _) = _
 rw [if_pos (by simp only [ByteArray.size_append, wvA_size, wvR_size, lo_size]; omega), if_pos (by simp only [ByteArray.size_append, wvA_size, wvR_size, lo_size]; omega), low_f k 4 _ (by omega) (by omega), Option.bind_some]
 change (if (((((wvA ++ lo 2 ch) ++ wvR) ++ lo 2 (ch * bi / 8)) ++ lo 2 bi) ++ wvD).size + (lo 4 d.size).size ≤ _ then (if ((((((wvA ++ lo 2 ch) ++ wvR) ++ lo 2 (ch * bi / 8)) ++ lo 2 bi) ++ wvD) ++ lo 4 d.size).size + d.size ≤ _ then (if (d.size : Int) % 2 = 1 then (if (wavX ch bi d).size + 1 ≤ _ then (if (wavX ch bi d ++ wvP).size + 12 ≤ _ then (descantref1_Low.f k (((wavX ch bi d ++ wvP) ++ wvM).size : Int) ((4 : Nat) : Int)).bind _ else _) else _) else (if (wavX ch bi d).size + 12 ≤ _ then (descantref1_Low.f k ((wavX ch bi d ++ wvM).size : Int) ((4 : Nat) : Int)).bind _ else _)) else _) else _) = _
 rw [if_pos (by simp only [ByteArray.size_append, wvA_size, wvR_size, wvD_size, lo_size]; omega), if_pos (by simp only [ByteArray.size_append, wvA_size, wvR_size, wvD_size, lo_size]; omega)]
 by_cases hp : d.size % 2 = 1
 ·have e : wavS ch bi d = (wavX ch bi d ++ wvP) ++ wvM := by unfold wavS; rw [if_pos hp]
  have z := wavS_size ch bi d
  rw [if_pos (by omega), if_pos (by rw [wavX_size]; omega), if_pos (by rw [ByteArray.size_append, wavX_size, wvP_size]; omega), low_f k 4 _ (by omega) (by omega), Option.bind_some]
  change (if 4 + (lo 4 ((wavX ch bi d ++ wvP) ++ wvM).size).size ≤ _ then (if (wvF ++ lo 4 ((wavX ch bi d ++ wvP) ++ wvM).size).size + ((wavX ch bi d ++ wvP) ++ wvM).size ≤ _ then some ((wvF ++ lo 4 ((wavX ch bi d ++ wvP) ++ wvM).size) ++ ((wavX ch bi d ++ wvP) ++ wvM)) else _) else _) = _
  rw [← e, if_pos (by rw [lo_size]; omega), if_pos (by rw [ByteArray.size_append, lo_size, wvF_size, z]; omega)]
  rfl
 ·have e : wavS ch bi d = wavX ch bi d ++ wvM := by unfold wavS; rw [if_neg hp]
  have z := wavS_size ch bi d
  rw [if_neg (by omega), if_pos (by rw [wavX_size]; omega), low_f k 4 _ (by omega) (by omega), Option.bind_some]
  change (if 4 + (lo 4 (wavX ch bi d ++ wvM).size).size ≤ _ then (if (wvF ++ lo 4 (wavX ch bi d ++ wvM).size).size + (wavX ch bi d ++ wvM).size ≤ _ then some ((wvF ++ lo 4 (wavX ch bi d ++ wvM).size) ++ (wavX ch bi d ++ wvM)) else _) else _) = _
  rw [← e, if_pos (by rw [lo_size]; omega), if_pos (by rw [ByteArray.size_append, lo_size, wvF_size, z]; omega)]
  rfl
theorem fget_k (k : Nat) (hk : 20 ≤ k) (n x : Nat) (h1 : 1 ≤ n) (hn : n ≤ 4) (hx : x < 256 ^ n) : field_Get.f k (lo n x) = some ((x : Int), 0) := by
 obtain ⟨d, rfl⟩ := Nat.exists_eq_add_of_le hk
 exact leO_le (fun k => field_Get.f k (lo n x)) (fun k => field_Get.mono _ k) d 20 _ (Le.fget n x h1 hn hx)
def LF : List UInt8 := [82, 73, 70, 70]
def LW : List UInt8 := [87, 65, 86, 69]
def Lf : List UInt8 := [102, 109, 116, 32]
def Lr : List UInt8 := [114, 97, 116, 101, 97, 110, 100, 98]
def LD : List UInt8 := [100, 97, 116, 97]
def LM : List UInt8 := [109, 111, 114, 101]
def La : List UInt8 := [97, 98, 99, 100]
def Lp (n : Nat) : List UInt8 := if n % 2 = 1 then [112] else []
theorem Lp_len (n : Nat) : (Lp n).length = n % 2 := by
 unfold Lp
 split
 ·rename_i h; rw [h]; rfl
 ·rename_i h; show 0 = _; omega
abbrev l2 (x : Nat) : List UInt8 := nb (Le.bytes 2 x)
abbrev l4 (x : Nat) : List UInt8 := nb (Le.bytes 4 x)
theorem l2_len (x : Nat) : (l2 x).length = 2 := by rw [nb_len, Le.bytes_len]
theorem l4_len (x : Nat) : (l4 x).length = 4 := by rw [nb_len, Le.bytes_len]
theorem l4_16 : l4 16 = [16, 0, 0, 0] := by kernel_rfl
theorem l4_3 : l4 3 = [3, 0, 0, 0] := by kernel_rfl
theorem l2_1 : l2 1 = [1, 0] := by kernel_rfl
def Lm (ch bi : Nat) : List UInt8 := l2 1 ++ (l2 ch ++ (Lr ++ (l2 (ch * bi / 8) ++ l2 bi)))
theorem Lm_len (ch bi : Nat) : (Lm ch bi).length = 16 := by
 unfold Lm
 simp only [List.length_append, l2_len]
 rfl
theorem wavB_list (ch bi : Nat) (d : ByteArray) : (wavB ch bi d).data.toList = LF ++ (l4 (48 + d.size + d.size % 2) ++ (LW ++ (Lf ++ (l4 16 ++ (Lm ch bi ++ (LD ++ (l4 d.size ++ (d.data.toList ++ (Lp d.size ++ (LM ++ (l4 3 ++ La))))))))))) := by
 have eA : wvA.data.toList = LW ++ (Lf ++ (l4 16 ++ l2 1)) := by rw [l4_16, l2_1]; rfl
 have eM : wvM.data.toList = LM ++ (l4 3 ++ La) := by rw [l4_3]; rfl
 have eF : wvF.data.toList = LF := rfl
 have eR : wvR.data.toList = Lr := rfl
 have eD : wvD.data.toList = LD := rfl
 have eP : wvP.data.toList = [112] := rfl
 unfold wavB
 rw [wavS_size]
 unfold wavS wavX Lm Lp
 split <;> simp only [ByteArray.data_append, Array.toList_append, eA, eM, eF, eR, eD, eP, List.append_assoc, List.nil_append]
structure WavAt (W : ByteArray) (ch bi n p : Nat) (d : ByteArray) : Prop where
 size : W.size = n
 hn : n = 56 + d.size + d.size % 2
 hp : p = 44 + d.size + d.size % 2
 riff : W.extract 0 4 = ⟨LF.toArray⟩
 all : W.extract 4 8 = lo 4 (n - 8)
 wave : W.extract 8 12 = ⟨LW.toArray⟩
 fmt : W.extract 12 16 = ⟨Lf.toArray⟩
 fsz : W.extract 16 20 = lo 4 16
 form : W.extract 20 36 = ⟨(Lm ch bi).toArray⟩
 data : W.extract 36 40 = ⟨LD.toArray⟩
 dsz : W.extract 40 44 = lo 4 d.size
 own : W.extract 44 (44 + d.size) = d
 more : W.extract p (p + 4) = ⟨LM.toArray⟩
 msz : W.extract (p + 4) (p + 8) = lo 4 3
theorem wavB_at (ch bi : Nat) (d : ByteArray) : WavAt (wavB ch bi d) ch bi (56 + d.size + d.size % 2) (44 + d.size + d.size % 2) d := by
 have h := wavB_list ch bi d
 have e1 := Lm_len ch bi
 have e2 := Lp_len d.size
 have e3 : LF.length = 4 := rfl
 have e4 : LW.length = 4 := rfl
 have e5 : Lf.length = 4 := rfl
 have e6 : LD.length = 4 := rfl
 have e7 : LM.length = 4 := rfl
 refine ⟨wavB_size ch bi d, rfl, rfl, ?_, ?_, ?_, ?_, ?_, ?_, ?_, ?_, ?_, ?_, ?_⟩
 ·exact ext_of _ [] LF _ h 0 4 rfl rfl
 ·rw [show 56 + d.size + d.size % 2 - 8 = 48 + d.size + d.size % 2 by omega]
  exact ext_of _ LF (l4 _) _ h 4 8 rfl (by rw [l4_len])
 ·exact ext_of _ (LF ++ l4 (48 + d.size + d.size % 2)) LW _ (by rw [h]; simp only [List.append_assoc]; rfl) 8 12 (by rw [List.length_append, l4_len, e3]) (by rw [e4])
 ·exact ext_of _ (LF ++ (l4 (48 + d.size + d.size % 2) ++ LW)) Lf _ (by rw [h]; simp only [List.append_assoc]; rfl) 12 16 (by simp only [List.length_append, l4_len, e3, e4]) (by rw [e5])
 ·exact ext_of _ (LF ++ (l4 (48 + d.size + d.size % 2) ++ (LW ++ Lf))) (l4 16) _ (by rw [h]; simp only [List.append_assoc]; rfl) 16 20 (by simp only [List.length_append, l4_len, e3, e4, e5]) (by rw [l4_len])
 ·exact ext_of _ (LF ++ (l4 (48 + d.size + d.size % 2) ++ (LW ++ (Lf ++ l4 16)))) (Lm ch bi) _ (by rw [h]; simp only [List.append_assoc]; rfl) 20 36 (by simp only [List.length_append, l4_len, e3, e4, e5]) (by rw [e1])
 ·exact ext_of _ (LF ++ (l4 (48 + d.size + d.size % 2) ++ (LW ++ (Lf ++ (l4 16 ++ Lm ch bi))))) LD _ (by rw [h]; simp only [List.append_assoc]; rfl) 36 40 (by simp only [List.length_append, l4_len, e3, e4, e5, e1]) (by rw [e6])
 ·exact ext_of _ (LF ++ (l4 (48 + d.size + d.size % 2) ++ (LW ++ (Lf ++ (l4 16 ++ (Lm ch bi ++ LD)))))) (l4 d.size) _ (by rw [h]; simp only [List.append_assoc]; rfl) 40 44 (by simp only [List.length_append, l4_len, e3, e4, e5, e1, e6]) (by rw [l4_len])
 ·refine (ext_of _ (LF ++ (l4 (48 + d.size + d.size % 2) ++ (LW ++ (Lf ++ (l4 16 ++ (Lm ch bi ++ (LD ++ l4 d.size))))))) d.data.toList _ (by rw [h]; simp only [List.append_assoc]; rfl) 44 (44 + d.size) (by simp only [List.length_append, l4_len, e3, e4, e5, e1, e6]) (by rw [data_length])).trans (arr_list d)
 ·exact ext_of _ (LF ++ (l4 (48 + d.size + d.size % 2) ++ (LW ++ (Lf ++ (l4 16 ++ (Lm ch bi ++ (LD ++ (l4 d.size ++ (d.data.toList ++ Lp d.size))))))))) LM _ (by rw [h]; simp only [List.append_assoc]; rfl) _ _ (by simp only [List.length_append, l4_len, e3, e4, e5, e1, e6, e2, data_length, strOfNums_size, Le.bytes_len]; omega) (by rw [e7])
 ·exact ext_of _ (LF ++ (l4 (48 + d.size + d.size % 2) ++ (LW ++ (Lf ++ (l4 16 ++ (Lm ch bi ++ (LD ++ (l4 d.size ++ (d.data.toList ++ (Lp d.size ++ LM)))))))))) (l4 3) _ (by rw [h]; simp only [List.append_assoc]; rfl) _ _ (by simp only [List.length_append, l4_len, e3, e4, e5, e1, e6, e2, e7, data_length, strOfNums_size, Le.bytes_len]; omega) (by rw [l4_len])
theorem size_at (k : Nat) (hk : 20 ≤ k) (W : ByteArray) (p x : Nat) (hx : x < 256 ^ 4) (hp : p + 4 ≤ W.size) (hW : W.size ≤ 140737488355328) (he : W.extract p (p + 4) = lo 4 x) : riff_size.f k W (p : Int) = some (x : Int) := by
 have w1 : wrap64 ((p : Int) + 4) = ((p + 4 : Nat) : Int) := by rw [wrap_id _ (by omega) (by omega)]; omega
 unfold riff_size.f
 rw [w1, if_pos (by omega), if_pos (by omega), if_pos (by omega), Int.toNat_natCast, Int.toNat_natCast, he, fget_k k hk 4 x (by omega) (by omega) hx, Option.bind_some]
theorem chunk_step (k : Nat) (hk : 20 ≤ k) (W : ByteArray) (cs : List S116) (p x q : Nat) (id : ByteArray) (hx : x < 256 ^ 4) (hW : W.size ≤ 140737488355328) (hc : cs.length < 64) (hq : p + 8 + x + x % 2 = q) (hqW : q ≤ W.size)
  (hid : W.extract p (p + 4) = id) (he : W.extract (p + 4) (p + 8) = lo 4 x) : riff_Chunks.l0 (k + 2) W cs (p : Int) = riff_Chunks.l0 k W (cs ++ [⟨id, ((p + 8 : Nat) : Int), (x : Int)⟩]) (q : Int) := by
 subst hid
 have h4 : (256 : Nat) ^ 4 = 4294967296 := by decide
 rw [h4] at hx
 have b1 : p + 8 + x + x % 2 ≤ W.size := by omega
 have b2 : p + 4 + 4 ≤ W.size := by omega
 have b3 : p + 8 ≤ W.size := by omega
 have b4 : x + x % 2 ≤ W.size - (p + 8) := by omega
 have b5 : ¬ (W.size - p < 8) := by omega
 have hs := size_at k hk W (p + 4) x (by rw [h4]; exact hx) b2 hW he
 clear he
 have w1 : wrap64 ((p : Int) + 4) = ((p + 4 : Nat) : Int) := by clear hs b4 b5 hc; rw [wrap_id _ (by omega) (by omega)]; omega
 have w2 : wrap64 ((p : Int) + 8) = ((p + 8 : Nat) : Int) := by clear hs b4 b5 hc w1; rw [wrap_id _ (by omega) (by omega)]; omega
 have w3 : wrap64 ((W.size : Int) - (p : Int)) = ((W.size - p : Nat) : Int) := by clear hs b4 b5 hc w1 w2; rw [wrap_id _ (by omega) (by omega)]; omega
 have w4 : wrap64 ((W.size : Int) - ((p + 8 : Nat) : Int)) = ((W.size - (p + 8) : Nat) : Int) := by clear hs b4 b5 hc w1 w2 w3; rw [wrap_id _ (by omega) (by omega)]; omega
 have t2 : Int.tmod (x : Int) 2 = ((x % 2 : Nat) : Int) := rfl
 have w5 : wrap64 ((x : Int) + ((x % 2 : Nat) : Int)) = ((x + x % 2 : Nat) : Int) := by clear hs b4 b5 hc w1 w2 w3 w4; rw [wrap_id _ (by omega) (by omega)]; omega
 have w6 : wrap64 (((p + 8 : Nat) : Int) + ((x + x % 2 : Nat) : Int)) = (q : Int) := by clear hs b4 b5 hc w1 w2 w3 w4 w5; rw [wrap_id _ (by omega) (by omega)]; omega
 have c1 : (p : Int) < (W.size : Int) := by clear hs w1 w2 w3 w4 w5 w6; omega
 have c2 : ¬ ((cs.length : Int) = 64) := by clear hs w1 w2 w3 w4 w5 w6; omega
 have c3 : ¬ (decide (((W.size - p : Nat) : Int) < 8) = true) := by rw [decide_eq_true_iff]; clear hs w1 w2 w3 w4 w5 w6; omega
 have c4 : (0 : Int) ≤ (p : Int) := Int.natCast_nonneg p
 have c5 : (p : Int) ≤ ((p + 4 : Nat) : Int) := by clear hs w1 w2 w3 w4 w5 w6; omega
 have c6 : ((p + 4 : Nat) : Int) ≤ (W.size : Int) := by clear hs w1 w2 w3 w4 w5 w6; omega
 have c7 : ¬ (((x + x % 2 : Nat) : Int) > ((W.size - (p + 8) : Nat) : Int)) := by clear hs w1 w2 w3 w4 w5 w6; omega
 have c8 : cs.length < 4398046511104 := by clear hs w1 w2 w3 w4 w5 w6; omega
 rw [show k + 2 = (k + 1) + 1 from rfl, riff_Chunks.l0, if_pos c1, if_neg c2, w3, riff_Chunks.j2, if_neg c3, if_pos c4, w1, if_pos c5, if_pos c6, hs, Option.bind_some, t2, w5, w2, w4, if_neg c7, if_pos c8, w6, Int.toNat_natCast, Int.toNat_natCast]
def chunks3 (n p : Nat) : List S116 := [⟨⟨Lf.toArray⟩, ((20 : Nat) : Int), ((16 : Nat) : Int)⟩, ⟨⟨LD.toArray⟩, ((44 : Nat) : Int), (n : Int)⟩, ⟨⟨LM.toArray⟩, ((p + 8 : Nat) : Int), ((3 : Nat) : Int)⟩]
theorem prefix_f {W : ByteArray} (h : W.extract 0 4 = ⟨LF.toArray⟩) (hs : 4 ≤ W.size) : strings_HasPrefix.f W (⟨#[82, 73, 70, 70]⟩ : ByteArray) = some true := by
 have e : (⟨#[82, 73, 70, 70]⟩ : ByteArray).size = 4 := rfl
 unfold strings_HasPrefix.f stringslite_HasPrefix.f
 rw [e, if_pos (by omega), if_pos (by omega), if_pos (by omega), Int.toNat_natCast, h]
 have e2 : ((⟨LF.toArray⟩ : ByteArray).toList == (⟨#[82, 73, 70, 70]⟩ : ByteArray).toList) = true := by kernel_rfl
 rw [e2]
 rfl
theorem chunks_f (k : Nat) (hk : 30 ≤ k) {W : ByteArray} {ch bi n p : Nat} {d : ByteArray} (h : WavAt W ch bi n p d) (hs : n ≤ 4096) : riff_Chunks.f k W = some (chunks3 d.size p, 0) := by
 have e1 := h.hn
 have e2 := h.hp
 have e3 := h.size
 have hp4 : (256 : Nat) ^ 4 = 4294967296 := by decide
 have w1 : wrap64 ((W.size : Int) - 8) = ((n - 8 : Nat) : Int) := by rw [wrap_id _ (by omega) (by omega)]; omega
 unfold riff_Chunks.f
 rw [if_neg (by omega), if_neg (by omega), prefix_f h.riff (by omega), Option.bind_some, if_pos rfl]
 rw [show riff_size.f k W 4 = some ((n - 8 : Nat) : Int) from size_at k (by omega) W 4 (n - 8) (by omega) (by omega) (by omega) h.all, Option.bind_some, w1, if_pos rfl, if_pos (by omega), if_pos (by omega), h.wave]
 obtain ⟨k, rfl⟩ : ∃ m, k = ((((m + 1) + 2) + 2) + 2) + 1 := ⟨k - 8, by omega⟩
 rw [show (((⟨LW.toArray⟩ : ByteArray).toList != ([87, 65, 86, 69] : List UInt8))) = false from by kernel_rfl, riff_Chunks.j0, if_neg (by simp)]
 have s1 := chunk_step (((k + 1) + 2) + 2) (by omega) W [] 12 16 36 ⟨Lf.toArray⟩ (by omega) (by omega) (by simp) (by omega) (by omega) h.fmt h.fsz
 have s2 := chunk_step ((k + 1) + 2) (by omega) W [⟨⟨Lf.toArray⟩, ((20 : Nat) : Int), ((16 : Nat) : Int)⟩] 36 d.size p ⟨LD.toArray⟩ (by omega) (by omega) (by simp) (by omega) (by omega) h.data h.dsz
 have s3 := chunk_step (k + 1) (by omega) W [⟨⟨Lf.toArray⟩, ((20 : Nat) : Int), ((16 : Nat) : Int)⟩, ⟨⟨LD.toArray⟩, ((44 : Nat) : Int), (d.size : Int)⟩] p 3 n ⟨LM.toArray⟩ (by omega) (by omega) (by simp) (by omega) (by omega) h.more h.msz
 refine s1.trans (s2.trans (s3.trans ?_))
 rw [riff_Chunks.l0, if_neg (by omega)]
 rfl
theorem one_fmt (n p : Nat) : wave_one.f (chunks3 n p) (⟨#[102, 109, 116, 32]⟩ : ByteArray) = some (0, true) := by kernel_rfl
theorem one_data (n p : Nat) : wave_one.f (chunks3 n p) (⟨#[100, 97, 116, 97]⟩ : ByteArray) = some (1, true) := by kernel_rfl
theorem format_f (k : Nat) (hk : 20 ≤ k) (ch bi : Nat) (hc : ch = 1 ∨ ch = 2) (hb : bi = 8 ∨ bi = 16) : wave_format.f k ⟨(Lm ch bi).toArray⟩ = some ((ch : Int), (bi : Int), true) := by
 obtain ⟨d, rfl⟩ := Nat.exists_eq_add_of_le hk
 refine leO_le (fun k => wave_format.f k ⟨(Lm ch bi).toArray⟩) (fun k => wave_format.mono _ k) d 20 _ ?_
 rcases hc with rfl | rfl <;> rcases hb with rfl | rfl <;> kernel_rfl
abbrev fsz (ch bi : Nat) : Nat := ch * bi / 8
theorem fsz_pos (ch bi : Nat) (hc : ch = 1 ∨ ch = 2) (hb : bi = 8 ∨ bi = 16) : 1 ≤ fsz ch bi ∧ fsz ch bi ≤ 4 := by
 rcases hc with rfl | rfl <;> rcases hb with rfl | rfl <;> decide
theorem pframe_f (ch bi : Nat) (hc : ch = 1 ∨ ch = 2) (hb : bi = 8 ∨ bi = 16) : pcm_Frame.f (ch : Int) (bi : Int) = some ((fsz ch bi : Nat) : Int) := by
 unfold pcm_Frame.f
 rw [frame_nat ch bi hc hb]
theorem pframes_f (ch bi : Nat) (hc : ch = 1 ∨ ch = 2) (hb : bi = 8 ∨ bi = 16) (d : ByteArray) : pcm_Frames.f d (ch : Int) (bi : Int) = some (decide (d.size % fsz ch bi = 0)) := by
 have hf := fsz_pos ch bi hc hb
 unfold pcm_Frames.f
 rw [pframe_f ch bi hc hb, Option.bind_some, if_neg (by omega), ← Int.natCast_emod]
 congr 1
 rw [Bool.eq_iff_iff, beq_iff_eq, decide_eq_true_iff]
 omega
theorem parse_go (k : Nat) (hk : 40 ≤ k) {W : ByteArray} {ch bi n p : Nat} {d : ByteArray} (h : WavAt W ch bi n p d) (hs : n ≤ 4096) (hc : ch = 1 ∨ ch = 2) (hb : bi = 8 ∨ bi = 16) :
  wave_Parse.f k W = if d.size % fsz ch bi = 0 then some ((ch : Int), (bi : Int), W.extract 0 44, d, W.extract (44 + d.size) n, 0) else some (0, 0, (⟨#[]⟩ : ByteArray), (⟨#[]⟩ : ByteArray), (⟨#[]⟩ : ByteArray), 2100) := by
 have e1 := h.hn
 have e3 := h.size
 have b1 : W.size ≤ 4096 := by omega
 have b2 : 44 + d.size ≤ W.size := by omega
 have w1 : wrap64 (((20 : Nat) : Int) + 16) = ((36 : Nat) : Int) := by rw [wrap_id _ (by omega) (by omega)]; rfl
 have w2 : wrap64 (((44 : Nat) : Int) + (d.size : Int)) = ((44 + d.size : Nat) : Int) := by rw [wrap_id _ (by omega) (by omega)]; omega
 unfold wave_Parse.f
 rw [chunks_f k (by omega) h hs, Option.bind_some]
 dsimp only
 rw [one_fmt, Option.bind_some, one_data, Option.bind_some]
 dsimp only
 rw [if_pos rfl, if_pos rfl, if_pos rfl, if_neg (by omega), if_pos (by omega), if_pos (show (0 : Int) < ((chunks3 d.size p).length : Int) from by show (0 : Int) < ((3 : Nat) : Int); omega), show ((rd_T116 (chunks3 d.size p) 0).f2 != 16) = false from by kernel_rfl]
 obtain ⟨k, rfl⟩ : ∃ m, k = m + 1 := ⟨k - 1, by omega⟩
 have f0 : (rd_T116 (chunks3 d.size p) 0).f1 = ((20 : Nat) : Int) := rfl
 have f1 : (rd_T116 (chunks3 d.size p) 1).f1 = ((44 : Nat) : Int) := rfl
 have f2 : (rd_T116 (chunks3 d.size p) 1).f2 = (d.size : Int) := rfl
 have fl : ((chunks3 d.size p).length : Int) = 3 := rfl
 rw [wave_Parse.j0, if_neg (by simp), f0, f1, f2, fl, w1, w2, Int.toNat_natCast, Int.toNat_natCast, Int.toNat_natCast, Int.toNat_natCast, h.own, h.form, if_pos (by omega), if_pos (by omega), if_pos (by omega), if_pos (by omega), if_pos (by omega), format_f k (by omega) ch bi hc hb, Option.bind_some,
  if_pos (by omega), if_pos (by omega), if_pos (by omega), if_pos (by omega), if_pos (by omega)]
 dsimp only
 rw [if_pos rfl, pframes_f ch bi hc hb, Option.bind_some]
 by_cases hm : d.size % fsz ch bi = 0
 ·rw [if_pos (by rw [decide_eq_true_iff]; exact hm), if_pos (by omega), w2, if_pos (by omega), if_pos (by omega), if_pos hm, Int.toNat_natCast, e3]
 ·rw [if_neg (by rw [decide_eq_true_iff]; exact hm), if_neg hm]
theorem build_f (k : Nat) (hk : 50 ≤ k) {W : ByteArray} {ch bi n p : Nat} {d : ByteArray} (h : WavAt W ch bi n p d) (hs : n ≤ 4096) (hc : ch = 1 ∨ ch = 2) (hb : bi = 8 ∨ bi = 16) (hm : d.size % fsz ch bi = 0) :
  wave_Build.f k (ch : Int) (bi : Int) (W.extract 0 44) d (W.extract (44 + d.size) n) = some (W, 0) := by
 have e1 := h.hn
 have e3 := h.size
 obtain ⟨k, rfl⟩ : ∃ m, k = m + 1 := ⟨k - 1, by omega⟩
 have s1 : (W.extract 0 44).size = 44 := by rw [ByteArray.size_extract]; omega
 have s2 : (W.extract (44 + d.size) n).size = n - (44 + d.size) := by rw [ByteArray.size_extract]; omega
 have hW : (W.extract 0 44 ++ d) ++ W.extract (44 + d.size) n = W := by
  have h2 := h.own
  have a1 : W.extract 0 44 ++ W.extract 44 (44 + d.size) = W.extract 0 (44 + d.size) := ByteArray.extract_append_extract .. |>.trans (by congr 1 <;> omega)
  have a2 : W.extract 0 (44 + d.size) ++ W.extract (44 + d.size) n = W.extract 0 n := ByteArray.extract_append_extract .. |>.trans (by congr 1 <;> omega)
  rw [h2] at a1
  rw [a1, a2, ← e3, ByteArray.extract_zero_size]
 unfold wave_Build.f
 rw [s1, s2, if_neg (by omega), if_neg (by omega), wave_Build.j0, if_neg (by rw [decide_eq_true_iff]; omega), if_pos (by omega), if_pos (by rw [ByteArray.size_append]; omega), hW, parse_go k (by omega) h hs hc hb, if_pos hm, Option.bind_some]
 dsimp only
 rw [if_pos rfl, if_neg (by simp)]
end Go.Proofs.YtfghldonnffldaaGreatDoor
namespace Go.Proofs.YtfghldonnffldaaGreatDoor
open Go.RowKit Go.Proofs.YtfghldonnffldaaGreatDoorW.PrintWords Go.Proofs.YtfghldonnffldaaGreatDoorW.PrintLast Go.Proofs.YtfghldonnffldaaGreatDoorW.PrintMore Go.Proofs.YtfghldonnffldaaGreatDoor.TBase
open Go.Proofs.YtfghldonnffldaaGreatDoor.UOne Go.Proofs.YtfghldonnffldaaGreatDoor.VTwo Go.Proofs.YtfghldonnffldaaGreatDoor.YFou
theorem fput_k (k : Nat) (hk : 20 ≤ k) (n x : Nat) (h1 : 1 ≤ n) (hn : n ≤ 4) (hx : x < 256 ^ n) : field_Put.f k (x : Int) (n : Int) = some (lo n x, 0) := by
 obtain ⟨d, rfl⟩ := Nat.exists_eq_add_of_le hk
 exact leO_le (fun k => field_Put.f k (x : Int) (n : Int)) (fun k => field_Put.mono _ _ k) d 20 _ (Le.put_f n x h1 hn hx)
theorem sample_f (s : ByteArray) (h : s.size = 1 ∨ s.size = 2) : ∃ x, pcm_sample.f s = some x := by
 unfold pcm_sample.f
 rcases h with h | h
 ·rw [if_pos (by omega), if_pos (by omega)]; exact ⟨_, rfl⟩
 ·rw [if_neg (by omega), if_pos (by omega), if_pos (by omega)]; exact ⟨_, rfl⟩
theorem pget_l0 (k ch w n : Nat) (d : ByteArray) (bi : Int) (hc : ch = 1 ∨ ch = 2) (hw : w = 1 ∨ w = 2) (hn : n * w = d.size) (hd : d.size ≤ 4096) (hnb : n ≤ 4096) :
  ∀ m i, i + m = n → ∀ x6 : List (List Int), x6.length = ch → (∀ r ∈ x6, r.length ≤ i) → ∃ rows, pcm_Get.l0 (k + m + 1) d x6 (w : Int) (i : Int) (ch : Int) bi = some (rows, 0) := by
 intro m
 induction m with
 | zero =>
  intro i hi x6 hx hr
  obtain rfl : i = n := by omega
  have w1 : wrap64 ((i : Int) * (w : Int)) = (d.size : Int) := by rw [← Int.natCast_mul, hn]; exact wrap_id _ (by omega) (by omega)
  rw [pcm_Get.l0, w1, if_neg (Int.lt_irrefl _)]
  exact ⟨_, rfl⟩
 | succ m ih =>
  intro i hi x6 hx hr
  have hiw : (i + 1) * w ≤ d.size := by rw [← hn]; exact Nat.mul_le_mul_right w (by omega)
  have hiw2 : (i + 1) * w = i * w + w := by rw [Nat.add_mul, Nat.one_mul]
  obtain ⟨a, ha⟩ : ∃ a, i * w = a := ⟨_, rfl⟩
  rw [ha] at hiw2
  obtain ⟨b, hb⟩ : ∃ b, (i + 1) * w = b := ⟨_, rfl⟩
  rw [hb] at hiw hiw2
  have w1 : wrap64 ((i : Int) * (w : Int)) = (a : Int) := by rw [← Int.natCast_mul, ha]; exact wrap_id _ (by omega) (by omega)
  have w0 : wrap64 ((i : Int) + 1) = ((i + 1 : Nat) : Int) := wrap_id _ (by omega) (by omega)
  have w2 : wrap64 (((i + 1 : Nat) : Int) * (w : Int)) = (b : Int) := by rw [← Int.natCast_mul, hb]; exact wrap_id _ (by omega) (by omega)
  have hm : Int.tmod (i : Int) (ch : Int) = ((i % ch : Nat) : Int) := rfl
  have hml : i % ch < ch := Nat.mod_lt _ (by omega)
  have hsz : (d.extract a b).size = 1 ∨ (d.extract a b).size = 2 := by rw [ByteArray.size_extract]; clear w1 w0 w2 hm hml ih; omega
  obtain ⟨x, hx1⟩ := sample_f _ hsz
  have hrow : (TBase.rd_L1 x6 ((i % ch : Nat) : Int)).length ≤ i := by
   show (x6.getD (((i % ch : Nat) : Int)).toNat []).length ≤ i
   rw [Int.toNat_natCast, List.getD_eq_getElem?_getD, List.getElem?_eq_getElem (by omega)]
   exact hr _ (List.getElem_mem _)
  obtain ⟨rows, hrows⟩ := ih (i + 1) (by clear w1 w0 w2 hm hml; omega) (x6.set (i % ch) (TBase.rd_L1 x6 ((i % ch : Nat) : Int) ++ [x])) (by rw [List.length_set]; exact hx) (by
   intro r hr1
   rcases List.mem_or_eq_of_mem_set hr1 with h | h
   ·exact Nat.le_succ_of_le (hr r h)
   ·subst h; rw [List.length_append, List.length_singleton]; exact Nat.succ_le_succ hrow)
  refine ⟨rows, ?_⟩
  have c1 : (a : Int) < (d.size : Int) := by clear w1 w0 w2 hm hml ih hrow hx1 hrows; omega
  have c2 : ¬ ((ch : Int) = 0) := by clear w1 w0 w2 hm hml ih hrow hx1 hrows; omega
  have c3 : (0 : Int) ≤ ((i % ch : Nat) : Int) := Int.natCast_nonneg _
  have c4 : ((i % ch : Nat) : Int) < (x6.length : Int) := by rw [hx]; exact Int.ofNat_lt.2 hml
  have c5 : (0 : Int) ≤ (a : Int) := Int.natCast_nonneg _
  have c6 : (a : Int) ≤ (b : Int) := by clear w1 w0 w2 hm hml ih hrow hx1 hrows; omega
  have c7 : (b : Int) ≤ (d.size : Int) := by clear w1 w0 w2 hm hml ih hrow hx1 hrows; omega
  have c8 : (TBase.rd_L1 x6 ((i % ch : Nat) : Int)).length < 17592186044416 := Nat.lt_of_le_of_lt hrow (by clear w1 w0 w2 hm hml ih hrow hx1 hrows; omega)
  rw [show k + (m + 1) + 1 = (k + m + 1) + 1 from rfl, pcm_Get.l0, w1, w0, w2, hm, if_pos c1, if_neg c2, if_pos c3, if_pos c4, if_pos c5, if_pos c6, if_pos c7, Int.toNat_natCast, Int.toNat_natCast, Int.toNat_natCast, hx1, Option.bind_some, if_pos c8]
  exact hrows
theorem mayf (ch bi : Nat) (hc : ch = 1 ∨ ch = 2) (hb : bi = 8 ∨ bi = 16) : pcm_May.f (ch : Int) (bi : Int) = some true := by
 rcases hc with rfl | rfl <;> rcases hb with rfl | rfl <;> kernel_rfl
theorem pget_f (k ch bi : Nat) (d : ByteArray) (hk : 5000 ≤ k) (hc : ch = 1 ∨ ch = 2) (hb : bi = 8 ∨ bi = 16) (hm : d.size % fsz ch bi = 0) (hd : d.size ≤ 4096) : ∃ rows, pcm_Get.f k d (ch : Int) (bi : Int) = some (rows, 0) := by
 obtain ⟨w, hw, hw8⟩ : ∃ w, (w = 1 ∨ w = 2) ∧ bi = 8 * w := by rcases hb with rfl | rfl; exact ⟨1, .inl rfl, rfl⟩; exact ⟨2, .inr rfl, rfl⟩
 have hdw : d.size % w = 0 := by
  have : fsz ch bi = ch * w := by subst hw8; show ch * (8 * w) / 8 = ch * w; rw [Nat.mul_left_comm, Nat.mul_div_cancel_left _ (by decide)]
  rw [this] at hm
  rcases hc with rfl | rfl <;> rcases hw with rfl | rfl <;> omega
 obtain ⟨n, hn⟩ : ∃ n, n * w = d.size := ⟨d.size / w, by rw [Nat.div_mul_cancel (Nat.dvd_of_mod_eq_zero hdw)]⟩
 have hnb : n ≤ 4096 := by rcases hw with rfl | rfl <;> omega
 obtain ⟨k, rfl⟩ : ∃ m, k = (m + n + 1) + 1 := ⟨k - n - 2, by omega⟩
 have tw : wrap64 (Int.tdiv (bi : Int) 8) = (w : Int) := by subst hw8; rcases hw with rfl | rfl <;> kernel_rfl
 obtain ⟨rows, hr⟩ := pget_l0 k ch w n d (bi : Int) hc hw hn hd hnb n 0 (by omega) (List.replicate ch []) List.length_replicate (by intro r hr; rw [List.eq_of_mem_replicate hr]; exact Nat.le_refl _)
 refine ⟨rows, ?_⟩
 unfold pcm_Get.f
 rw [mayf ch bi hc hb, Option.bind_some, if_pos rfl, pframes_f ch bi hc hb, Option.bind_some, if_pos (by rw [decide_eq_true_iff]; exact hm), pcm_Get.j0, if_neg (by rw [decide_eq_true_iff]; omega), if_pos (by omega), if_pos (by omega), Int.toNat_natCast, tw]
 exact hr
def told (kind by_ many : Nat) (own : ByteArray) : ByteArray := ((strOfNums [(kind : Int), (by_ : Int), (many : Int)] ++ lo 2 own.size) ++ own) ++ lo 4 (Crc.sum ((strOfNums [(kind : Int), (by_ : Int), (many : Int)] ++ lo 2 own.size) ++ own).data.toList)
theorem told_f (k kind by_ many : Nat) (own : ByteArray) (hk : 20 ≤ k) (h1 : kind < 256) (h2 : by_ < 256) (h3 : many < 256) (hs : own.size ≤ 65535) : segment_told.f k (kind : Int) (by_ : Int) (many : Int) own = some (told kind by_ many own) := by
 have z3 : (strOfNums [(kind : Int), (by_ : Int), (many : Int)]).size = 3 := strOfNums_size _
 have m1 : (kind : Int) % 256 = (kind : Int) := by omega
 have m2 : (by_ : Int) % 256 = (by_ : Int) := by omega
 have m3 : (many : Int) % 256 = (many : Int) := by omega
 have hs2 : own.size < 256 ^ 2 := Nat.lt_of_le_of_lt hs (by decide)
 have hcr : Crc.sum ((strOfNums [(kind : Int), (by_ : Int), (many : Int)] ++ lo 2 own.size) ++ own).data.toList < 256 ^ 4 := Crc.sum_lt _
 unfold segment_told.f
 rw [show field_Put.f k (own.size : Int) 2 = some (lo 2 own.size, 0) from fput_k k hk 2 own.size (by omega) (by omega) hs2, Option.bind_some, Option.bind_some, m1, m2, m3]
 dsimp only
 rw [if_pos (by rw [z3, lo_size]; omega), if_pos (by rw [ByteArray.size_append, z3, lo_size]; omega)]
 unfold crc_Sum.f
 rw [if_pos (by simp only [ByteArray.size_append, z3, lo_size]; omega), Option.bind_some, show field_Put.f k (Crc.sum ((strOfNums [(kind : Int), (by_ : Int), (many : Int)] ++ lo 2 own.size) ++ own).data.toList : Int) 4 = some (lo 4 (Crc.sum ((strOfNums [(kind : Int), (by_ : Int), (many : Int)] ++ lo 2 own.size) ++ own).data.toList), 0) from fput_k k hk 4 _ (by omega) (by omega) hcr, Option.bind_some]
 dsimp only
 rw [if_pos (by simp only [ByteArray.size_append, z3, lo_size]; omega)]
 rfl
theorem told_size (kind by_ many : Nat) (own : ByteArray) : (told kind by_ many own).size = 9 + own.size := by
 unfold told
 simp only [ByteArray.size_append, strOfNums_size, Le.bytes_len, List.length_cons, List.length_nil]
 omega
def rep (n : Nat) (v : UInt8) : ByteArray := ⟨(List.replicate n v).toArray⟩
theorem rep_list (n : Nat) (v : UInt8) : (rep n v).data.toList = List.replicate n v := rfl
theorem rep_size (n : Nat) (v : UInt8) : (rep n v).size = n := by rw [← data_length, rep_list, List.length_replicate]
theorem rep_extract (n a b : Nat) (v : UInt8) (h : a ≤ b) (hb : b ≤ n) : (rep n v).extract a b = rep (b - a) v := by
 refine ext_of (rep n v) (List.replicate a v) (List.replicate (b - a) v) (List.replicate (n - b) v) ?_ a b List.length_replicate (by rw [List.length_replicate]; omega)
 rw [rep_list, List.replicate_append_replicate, List.replicate_append_replicate]
 congr 1
 omega
theorem repeatL_rep (f : Nat) (v : UInt8) : ∀ m, Lib.repeatL (List.replicate f v) m = List.replicate (m * f) v := by
 intro m
 induction m with
 | zero => rw [Nat.zero_mul]; rfl
 | succ m ih =>
  show List.replicate f v ++ Lib.repeatL (List.replicate f v) m = _
  rw [ih, List.replicate_append_replicate, Nat.add_mul, Nat.one_mul, Nat.add_comm]
theorem repeat_rep (f m : Nat) (v : UInt8) (h : f * m ≤ 100000) (hm : m ≤ 100000) : strings_Repeat.f (rep f v) (m : Int) = some (rep (m * f) v) := by
 unfold strings_Repeat.f
 rw [rep_size, rep_list, Int.toNat_natCast, repeatL_rep, if_pos ⟨by omega, by omega, by omega⟩]
 rfl
theorem frame_f (d : ByteArray) (ch bi : Nat) (hc : ch = 1 ∨ ch = 2) (hb : bi = 8 ∨ bi = 16) : segment_sound_frame.f d (ch : Int) (bi : Int) = some ((fsz ch bi : Nat) : Int) := by
 unfold segment_sound_frame.f
 rw [pframe_f ch bi hc hb, Option.bind_some]
theorem many_f (d : ByteArray) (ch bi m : Nat) (hc : ch = 1 ∨ ch = 2) (hb : bi = 8 ∨ bi = 16) (hd : d.size = m * fsz ch bi) (hs : d.size ≤ 100000) : segment_sound_many.f d (ch : Int) (bi : Int) = some (m : Int) := by
 have hf := fsz_pos ch bi hc hb
 have e : ((d.size : Int) / ((fsz ch bi : Nat) : Int)) = (m : Int) := by
  rw [hd, ← Int.natCast_ediv, Nat.mul_div_cancel _ (by omega)]
 have hm : m ≤ 100000 := by
  have : m * 1 ≤ m * fsz ch bi := Nat.mul_le_mul_left m hf.1
  omega
 unfold segment_sound_many.f
 rw [frame_f d ch bi hc hb, Option.bind_some, if_neg (by omega), e, wrap_id _ (by omega) (by omega)]
theorem const_f (ch bi m : Nat) (v : UInt8) (hc : ch = 1 ∨ ch = 2) (hb : bi = 8 ∨ bi = 16) (h1 : 1 ≤ m) (hm : m ≤ 64) : segment_sound_constant.f (rep (m * fsz ch bi) v) (ch : Int) (bi : Int) = some true := by
 have hf := fsz_pos ch bi hc hb
 have hle : fsz ch bi ≤ m * fsz ch bi := Nat.le_mul_of_pos_left _ h1
 have hle2 : m * fsz ch bi ≤ 64 * 4 := Nat.mul_le_mul hm hf.2
 have hle3 : fsz ch bi * m ≤ 64 * 4 := by rw [Nat.mul_comm]; exact hle2
 unfold segment_sound_constant.f
 rw [frame_f _ ch bi hc hb, Option.bind_some, if_pos (Int.natCast_nonneg _), if_pos (by rw [rep_size]; omega), many_f _ ch bi m hc hb (rep_size _ _) (by rw [rep_size]; omega), Option.bind_some, Int.toNat_natCast, rep_extract _ 0 _ v (Nat.zero_le _) hle, Nat.sub_zero, repeat_rep _ m v (by omega) (by omega), Option.bind_some, beq_self_eq_true]
theorem rep_ne (n : Nat) (v : UInt8) (h : 1 ≤ n) : ¬ ((rep n v).toList = ([] : List UInt8)) := by
 intro h2
 have h3 : (rep n v).toList.length = 0 := by rw [h2]; rfl
 rw [ByteArray.toList_eq, data_length, rep_size] at h3
 omega
theorem segPut_rep (k ch bi m : Nat) (v : UInt8) (hk : 5002 ≤ k) (hc : ch = 1 ∨ ch = 2) (hb : bi = 8 ∨ bi = 16) (h1 : 1 ≤ m) (hm : m ≤ 64) : segment_Put.f k (rep (m * fsz ch bi) v) (ch : Int) (bi : Int) = some (told 2 0 m (rep (fsz ch bi) v), 0) := by
 have hf := fsz_pos ch bi hc hb
 have hle : fsz ch bi ≤ m * fsz ch bi := Nat.le_mul_of_pos_left _ h1
 have hle2 : m * fsz ch bi ≤ 64 * fsz ch bi := Nat.mul_le_mul_right _ hm
 obtain ⟨k, rfl⟩ : ∃ j, k = j + 1 := ⟨k - 1, by omega⟩
 obtain ⟨rows, hr⟩ := pget_f (k + 1) ch bi (rep (m * fsz ch bi) v) (by omega) hc hb (by rw [rep_size]; exact Nat.mul_mod_left _ _) (by rw [rep_size]; omega)
 have w1 : wrap64 (64 * ((fsz ch bi : Nat) : Int)) = ((64 * fsz ch bi : Nat) : Int) := wrap_id _ (by omega) (by omega)
 unfold segment_Put.f
 rw [hr, Option.bind_some]
 dsimp only
 rw [if_pos rfl, if_neg (rep_ne _ v (by omega)), pframe_f ch bi hc hb, Option.bind_some, w1, rep_size, segment_Put.j0, if_neg (by rw [decide_eq_true_iff]; omega), const_f ch bi m v hc hb h1 hm, Option.bind_some, if_pos rfl, many_f _ ch bi m hc hb (rep_size _ _) (by rw [rep_size]; omega), Option.bind_some, frame_f _ ch bi hc hb, Option.bind_some, if_pos (Int.natCast_nonneg _), if_pos (by rw [rep_size]; omega), Int.toNat_natCast, rep_extract _ 0 _ v (Nat.zero_le _) hle, Nat.sub_zero]
 rw [show segment_told.f k 2 0 (m : Int) (rep (fsz ch bi) v) = some (told 2 0 m (rep (fsz ch bi) v)) from told_f k 2 0 m _ (by omega) (by omega) (by omega) (by omega) (by rw [rep_size]; omega), Option.bind_some]
theorem told_list (kind by_ many : Nat) (own : ByteArray) : (told kind by_ many own).data.toList = nb [(kind : Int), (by_ : Int), (many : Int)] ++ (nb (Le.bytes 2 own.size) ++ (own.data.toList ++ nb (Le.bytes 4 (Crc.sum ((strOfNums [(kind : Int), (by_ : Int), (many : Int)] ++ lo 2 own.size) ++ own).data.toList)))) := by
 unfold told
 simp only [ByteArray.data_append, Array.toList_append, List.append_assoc]
structure ToldAt (s : ByteArray) (kind by_ many : Nat) (own : ByteArray) : Prop where
 size : s.size = 9 + own.size
 b0 : bt s 0 = (kind : Int)
 b1 : bt s 1 = (by_ : Int)
 b2 : bt s 2 = (many : Int)
 sz : s.extract 3 5 = lo 2 own.size
 body : s.extract 5 (own.size + 5) = own
 sum : s.extract (own.size + 5) s.size = lo 4 (Crc.sum (s.extract 0 (own.size + 5)).data.toList)
theorem told_at (kind by_ many : Nat) (own : ByteArray) (h1 : kind < 256) (h2 : by_ < 256) (h3 : many < 256) : ToldAt (told kind by_ many own) kind by_ many own := by
 have h := told_list kind by_ many own
 have hz := told_size kind by_ many own
 have z3 : (nb [(kind : Int), (by_ : Int), (many : Int)]).length = 3 := nb_len _
 have e3 : (told kind by_ many own).extract 0 (0 + 3) = strOfNums [(kind : Int), (by_ : Int), (many : Int)] := ext_of _ [] (nb [(kind : Int), (by_ : Int), (many : Int)]) _ h 0 (0 + 3) rfl (by rw [z3])
 have hr : ∀ x ∈ [(kind : Int), (by_ : Int), (many : Int)], 0 ≤ x ∧ x ≤ 255 := by
  intro x hx
  simp only [List.mem_cons, List.not_mem_nil, or_false] at hx
  rcases hx with rfl | rfl | rfl <;> omega
 have ep : (told kind by_ many own).extract 0 (own.size + 5) = (strOfNums [(kind : Int), (by_ : Int), (many : Int)] ++ lo 2 own.size) ++ own := by
  refine (ext_of _ [] (nb [(kind : Int), (by_ : Int), (many : Int)] ++ (nb (Le.bytes 2 own.size) ++ own.data.toList)) (nb (Le.bytes 4 (Crc.sum ((strOfNums [(kind : Int), (by_ : Int), (many : Int)] ++ lo 2 own.size) ++ own).data.toList))) (by rw [h]; simp only [List.append_assoc, List.nil_append]) 0 (own.size + 5) rfl (by simp only [List.length_append, strOfNums_size, Le.bytes_len, data_length, List.length_cons, List.length_nil]; omega)).trans ?_
  refine ByteArray.ext ?_
  apply Array.toList_inj.1
  simp only [ByteArray.data_append, Array.toList_append, List.append_assoc]
 refine ⟨hz, ?_, ?_, ?_, ?_, ?_, ?_⟩
 ·exact (Le.bt_ext _ _ 0 3 0 e3 (by omega) (by omega)).trans (Le.bt_nums _ hr 0)
 ·exact (Le.bt_ext _ _ 0 3 1 e3 (by omega) (by omega)).trans (Le.bt_nums _ hr 1)
 ·exact (Le.bt_ext _ _ 0 3 2 e3 (by omega) (by omega)).trans (Le.bt_nums _ hr 2)
 ·exact ext_of _ (nb [(kind : Int), (by_ : Int), (many : Int)]) (nb (Le.bytes 2 own.size)) _ h 3 5 z3 (by rw [nb_len, Le.bytes_len])
 ·exact (ext_of _ (nb [(kind : Int), (by_ : Int), (many : Int)] ++ nb (Le.bytes 2 own.size)) own.data.toList _ (by rw [h]; simp only [List.append_assoc]; rfl) 5 (own.size + 5) (by simp only [List.length_append, nb_len, Le.bytes_len, List.length_cons, List.length_nil]) (by rw [data_length]; omega)).trans (arr_list own)
 ·rw [ep]
  exact ext_of _ (nb [(kind : Int), (by_ : Int), (many : Int)] ++ (nb (Le.bytes 2 own.size) ++ own.data.toList)) (nb (Le.bytes 4 (Crc.sum ((strOfNums [(kind : Int), (by_ : Int), (many : Int)] ++ lo 2 own.size) ++ own).data.toList))) [] (by rw [h]; simp only [List.append_assoc, List.append_nil]) _ _ (by simp only [List.length_append, strOfNums_size, Le.bytes_len, data_length, List.length_cons, List.length_nil]; omega) (by rw [nb_len, Le.bytes_len, hz]; omega)
theorem segGet_rep (k ch bi m : Nat) (v : UInt8) (hk : 5002 ≤ k) (hc : ch = 1 ∨ ch = 2) (hb : bi = 8 ∨ bi = 16) (h1 : 1 ≤ m) (hm : m ≤ 64) : segment_Get.f k (told 2 0 m (rep (fsz ch bi) v)) (ch : Int) (bi : Int) = some (rep (m * fsz ch bi) v, 0) := by
 have hf := fsz_pos ch bi hc hb
 have h := told_at 2 0 m (rep (fsz ch bi) v) (by omega) (by omega) (by omega)
 have hz := h.size
 rw [rep_size] at hz
 have hown := h.body
 have hsum := h.sum
 have hsz := h.sz
 rw [rep_size] at hown hsum hsz
 have e1 : (told 2 0 m (rep (fsz ch bi) v)).size - 9 = fsz ch bi := by omega
 have hp2 : (256 : Nat) ^ 2 = 65536 := by decide
 have hle3 : fsz ch bi * m ≤ 4 * 64 := Nat.mul_le_mul hf.2 hm
 unfold segment_Get.f
 rw [e1, hown, if_pos ⟨by omega, by omega, mayf ch bi hc hb, by rw [h.b2]; omega, by rw [hsz]; exact Le.fget 2 _ (by omega) (by omega) (by omega), by rw [hsum]; exact Le.fget 4 _ (by omega) (by omega) (Crc.sum_lt _)⟩, h.b0, h.b2]
 rw [show opened ((2 : Nat) : Int) (m : Int) (rep (fsz ch bi) v) = some (rep (m * fsz ch bi) v) from by unfold opened; rw [if_neg (by decide), if_pos (by decide)]; exact repeat_rep _ m v (by omega) (by omega), Option.bind_some, if_pos (segPut_rep k ch bi m v hk hc hb h1 hm)]
end Go.Proofs.YtfghldonnffldaaGreatDoor
namespace Go.Proofs.YtfghldonnffldaaGreatDoor.MTopSilence
open Go.RowKit Go.Proofs.YtfghldonnffldaaGreatDoor Go.Proofs.YtfghldonnffldaaGreatDoor.TBase Go.Proofs.YtfghldonnffldaaGreatDoor.UOne Go.Proofs.YtfghldonnffldaaGreatDoor.VTwo Go.Proofs.YtfghldonnffldaaGreatDoor.XThr Go.Proofs.YtfghldonnffldaaGreatDoor.YFou Go.Proofs.YtfghldonnffldaaGreatDoor.ZFiv Go.Proofs.YtfghldonnffldaaGreatDoor.QSix Go.Proofs.YtfghldonnffldaaGreatDoor.ESev Go.Proofs.YtfghldonnffldaaGreatDoorW.PrintWords Go.Proofs.YtfghldonnffldaaGreatDoorW.PrintLast Go.Proofs.YtfghldonnffldaaGreatDoorW.PrintMore
attribute [local go_sem] max2_int min2_int max_two min_two max_three min_three max_four min_four
noncomputable def descanttop_TopSilence.l0 : Nat → Int → Int → Int → Int → ByteArray → Int → Int → Int → Option (Bool)
 | 0, _, _, _, _, _, _, _, _ => none
 | k + 1, x3, x9, x10, x11, x12, x13, x102000, x102001 => if x13 < (wrap64 (x10 * x11)) then ((some (([(x3) % 256] : List Int) : List Int)).bind fun y104 => (if x12.size + (strOfNums y104).size ≤ 9223372036854775807 then (descanttop_TopSilence.l0 k x3 x9 x10 x11 (x12 ++ (strOfNums y104)) (wrap64 (x13 + 1)) x102000 x102001) else (none))) else ((descanttop_wav.f k x102000 x102001 x12).bind fun t107 => ((file_Encode.f k t107 x9).bind fun bt108 => ((descantlaw0_Num.f bt108.2).bind fun t110 => (if t110 = 0 then ((file_Decode.f bt108.1).bind fun bt112 => ((descantlaw0_Num.f bt112.2).bind fun t114 => (if t114 = 0 then ((descanttop_wav.f k x102000 x102001 x12).bind fun t115 => (if bt112.1.toList = t115.toList then ((descantref13_Many.f x10 x9).bind fun t116 => (some (decide ((bt108.1.size : Int) ≤ (wrap64 (100 + (wrap64 ((wrap64 (11 + x11)) * t116)))))))) else (some false))) else (some false)))) else ((descanttop_wav.f k x102000 x102001 x12).bind fun t111 => (some (decide ((t111.size : Int) > 4096))))))))
noncomputable def descanttop_TopSilence.f (k : Nat) (a0_0 : Int) (a0_1 : Int) (a1 : Int) (a2 : Int) (a3 : Int) : Option (Bool) := (descanttop_awake.f).bind fun t102 => (if t102 = true then ((descantref13_FormatMay.f a0_0 a0_1).bind fun t103 => (if t103 = true then (descanttop_TopSilence.l0 k a3 (wrap64 (1 + (wrap64 (Int.tmod (IntKind.u64.wrap (a2)) 64)))) (wrap64 (1 + (wrap64 (Int.tmod (IntKind.u64.wrap (a1)) 600)))) (wrap64 (Int.tdiv (wrap64 (a0_0 * a0_1)) 8)) (⟨#[]⟩ : ByteArray) 0 a0_0 a0_1) else (some true))) else (some false))
theorem descanttop_TopSilence.calls (k : Nat) (a0_0 : Int) (a0_1 : Int) (a1 : Int) (a2 : Int) (a3 : Int) (r : Bool) (w : World) (h : descanttop_TopSilence.f k a0_0 a0_1 a1 a2 a3 = some r) (hT : Tabs w := by exact Tabs.below hT B_) :
  Calls Tryz.prog 3 #[.agg #[.int .i64 a0_0, .int .i64 a0_1], .int .i64 a1, .int .i64 a2, .int .i64 a3] w fun e w' => e = .returned (.bool r) ∧ Below w.heap.size w w' := by
 have hu23 := Tryz.underlying23
 have HB := Z_ (Below.refl w.heap.size w)
 have H : ((descanttop_awake.f).bind fun t102 => (if t102 = true then ((descantref13_FormatMay.f a0_0 a0_1).bind fun t103 => (if t103 = true then (descanttop_TopSilence.l0 k a3 (wrap64 (1 + (wrap64 (Int.tmod (IntKind.u64.wrap (a2)) 64)))) (wrap64 (1 + (wrap64 (Int.tmod (IntKind.u64.wrap (a1)) 600)))) (wrap64 (Int.tdiv (wrap64 (a0_0 * a0_1)) 8)) (⟨#[]⟩ : ByteArray) 0 a0_0 a0_1) else (some true))) else (some false))) = some r := h
 clear h
 replace H := Option.bind_eq_some_iff.mp H
 obtain ⟨t102, A50, H⟩ := H
 (try dsimp only at H)
 have A5 := Z_ A50
 clear A50
 by_cases c6 : t102 = true
 ·subst c6
  rw [if_pos rfl] at H
  replace H := Option.bind_eq_some_iff.mp H
  obtain ⟨t103, A70, H⟩ := H
  (try dsimp only at H)
  have A7 := Z_ A70
  clear A70
  by_cases c8 : t103 = true
  ·subst c8
   rw [if_pos rfl] at H
   have H' := Z_ H
   clear H
   go_enter Tryz.func3, Tryz.ntmps3
   go_wp2_with (first | ((with_reducible refine gate_dst (N := 4) rfl ?_); (try (refine gate_guard (by rfl) ?_; dsimp only)); refine X_ 4 #[.int .i64 a0_0, .int .i64 a0_1] 23 ?_; intro gb101 hg w9 hbox hb; have BK101 := Z_ (hbox); have GW101 := Z_ ((G2_ hg : w.heap.size ≤ _)); have GE101 := Z_ ((G2_ hg : w.heap.size ≤ _)); replace HB := Z_ (below_step B_ hb); clear hb hbox hg) | (refine G_ 18 Tryz.func8 #[] ?_; (with_reducible refine (descanttop_awake.calls  true _ A5.out).mono ?_); rintro e w10 ⟨rfl, hb⟩; refine ⟨_, rfl, ?_⟩; replace BK101 := Z_ (blk_below (g := gb101) (o := .cells #[.int .i64 a0_0, .int .i64 a0_1] 23 (0, 0)) (K_ BK101) hb); replace HB := Z_ (below_step B_ hb); (try clear hb); have hcz11_0 : w10.cell? ⟨gb101, 0, none⟩ = some (.int .i64 a0_0) := (blk_cell BK101.out 0).trans rfl; have hcz11_1 : w10.cell? ⟨gb101, 1, none⟩ = some (.int .i64 a0_1) := (blk_cell BK101.out 1).trans rfl; have hfz11_0 := blk_frozen BK101.out 0; have hfz11_1 := blk_frozen BK101.out 1) | (refine G_ 21 Tryz.func9 #[.agg #[.int .i64 a0_0, .int .i64 a0_1]] ?_; (with_reducible refine (descantref13_FormatMay.calls a0_0 a0_1 true _ A7.out).mono ?_); rintro e w12 ⟨rfl, hb⟩; refine ⟨_, rfl, ?_⟩; replace BK101 := Z_ (blk_below (g := gb101) (o := .cells #[.int .i64 a0_0, .int .i64 a0_1] 23 (0, 0)) (K_ BK101) hb); replace HB := Z_ (below_step B_ hb); (try clear hb); have hcz13_0 : w12.cell? ⟨gb101, 0, none⟩ = some (.int .i64 a0_0) := (blk_cell BK101.out 0).trans rfl; have hcz13_1 : w12.cell? ⟨gb101, 1, none⟩ = some (.int .i64 a0_1) := (blk_cell BK101.out 1).trans rfl; have hfz13_0 := blk_frozen BK101.out 0; have hfz13_1 := blk_frozen BK101.out 1))
   go_loopg [12, 13] k (fun kq v12 v13 w' => ∃ (x12_1 : ByteArray) (x13_1 : Int), v12 = .string x12_1 ∧ v13 = .int .i64 x13_1 ∧ Aside0 (descanttop_TopSilence.l0 kq a3 (wrap64 (1 + (wrap64 (Int.tmod (IntKind.u64.wrap (a2)) 64)))) (wrap64 (1 + (wrap64 (Int.tmod (IntKind.u64.wrap (a1)) 600)))) (wrap64 (Int.tdiv (wrap64 (a0_0 * a0_1)) 8)) x12_1 x13_1 a0_0 a0_1 = some r) ∧ Aside0 (kq ≤ k) ∧ Aside0 (w'.heap[gb101]? = some (.cells #[.int .i64 a0_0, .int .i64 a0_1] 23 (0, 0))) ∧ Aside0 (Below w.heap.size w w'))
   case atStart => exact ⟨((⟨#[]⟩ : ByteArray)), (0), (E1_), (E1_), H', ⟨Nat.le_refl _⟩, ⟨(K_ BK101)⟩, ⟨B_⟩⟩
   case round =>
    clear H'
    try clear p2
    try clear c3
    try clear c6
    try clear p6
    try clear c8
    try clear c9
    try clear hcz11_0
    try clear hcz11_1
    try clear hcz13_0
    try clear hcz13_1
    try clear hfz11_0
    try clear hfz11_1
    try clear hfz13_0
    try clear hfz13_1
    obtain ⟨x12_1, x13_1, rfl, rfl, HA, HK1, BK101, HB⟩ := hrel
    cases gk with
    | zero => exact absurd HA.out (by simp [descanttop_TopSilence.l0])
    | succ k1 =>
     have H := HA.out
     clear HA
     simp only [descanttop_TopSilence.l0] at H
     by_cases c14 : x13_1 < (wrap64 ((wrap64 (1 + (wrap64 (Int.tmod (IntKind.u64.wrap (a1)) 600)))) * (wrap64 (Int.tdiv (wrap64 (a0_0 * a0_1)) 8))))
     ·rw [if_pos c14] at H
      have c14b0 := decide_eq_true c14
      clear c14
      obtain ⟨y104, hy104⟩ : ∃ y_ : List Int, y_ = (([(a3) % 256] : List Int)) := ⟨_, rfl⟩
      replace H : (if x12_1.size + (strOfNums y104).size ≤ 9223372036854775807 then (descanttop_TopSilence.l0 k1 a3 (wrap64 (1 + (wrap64 (Int.tmod (IntKind.u64.wrap (a2)) 64)))) (wrap64 (1 + (wrap64 (Int.tmod (IntKind.u64.wrap (a1)) 600)))) (wrap64 (Int.tdiv (wrap64 (a0_0 * a0_1)) 8)) (x12_1 ++ (strOfNums y104)) (wrap64 (x13_1 + 1)) a0_0 a0_1) else (none)) = some r := by first | (rw [hy104]; with_reducible exact H) | (have H2_ := (Option.bind_some _ _).symm.trans H; rw [hy104]; with_reducible exact H2_) | (have H2_ := (Option.bind_some _ _).symm.trans H; with_reducible exact H2_) | with_reducible exact H | (rw [hy104]; exact H) | exact H
      have Ny104 := Z_ hy104
      clear hy104
      by_cases c15 : x12_1.size + (strOfNums y104).size ≤ 9223372036854775807
      ·rw [if_pos c15] at H
       have c15b0 := eq_true c15
       have c15b1 := decide_eq_true c15
       try have c15b2 : (9223372036854775807 < x12_1.size + (strOfNums y104).size) = False := eq_false (Nat.not_lt.2 c15)
       have H' := Z_ H
       clear H
       go_wp2_with (first | ((with_reducible refine gate_dst (N := 49) rfl ?_); (try (refine gate_guard (by rfl) ?_; dsimp only)); refine Kd.R_lit (Kd.int .u8) _ 5 ?hg (N := 49) ?hd (xs := ([(a3) % 256] : List Int)) (inner := [.int .u8 ((a3) % 256)]) (ok := fun _ => True) (okp := fun _ => True) ?hr ?hp (fun _ hk => hk) trivial (Below.refl _ _) (Nat.le_refl _) (by simp) ?_; (case hd => rfl); (case hg => rfl); (case hr => first | (go_simp; done) | (go_simp; rfl)); (case hp => exact (Reps.one (show Kd.M (Kd.int .u8) _ _ _ ((a3) % 256) [.int .u8 ((a3) % 256)] from rfl) (Reps.none _ _))); intro v105 w16 ho17 hb hg_ hnew_; clear hg_ hnew_; (first | rw [← Ny104.out] at ho17 | (simp only [Int.reduceToNat] at ho17; rw [← Ny104.out] at ho17)); have HO106 := Z_ (Kd.R_lower ho17 (below_size B_)); replace BK101 := Z_ (blk_below (g := gb101) (o := .cells #[.int .i64 a0_0, .int .i64 a0_1] 23 (0, 0)) (K_ BK101) hb); replace HB := Z_ (below_step B_ hb); clear hb ho17; have hcv18 := own_string (P := Tryz.prog) Tryz.underlying27 Tryz.underlying5 Tryz.underlying9 (Kd.own_of_R HO106.out)))
       go_roundg k1
       case measure => have := HK1.out; omega
       case rel => exact ⟨(x12_1 ++ (strOfNums y104)), (wrap64 (x13_1 + 1)), (E1_), (E1_), H', ⟨by have := HK1.out; omega⟩, ⟨(K_ BK101)⟩, ⟨B_⟩⟩
      ·rw [if_neg c15] at H
       exact absurd H (by simp)
     ·rw [if_neg c14] at H
      have c14b0 := decide_eq_false c14
      clear c14
      replace H := Option.bind_eq_some_iff.mp H
      obtain ⟨t107, A190, H⟩ := H
      (try dsimp only at H)
      have A19 := Z_ A190
      clear A190
      replace H := Option.bind_eq_some_iff.mp H
      obtain ⟨⟨t108, t109⟩, A200, H⟩ := H
      (try dsimp only at H)
      have A20 := Z_ A200
      clear A200
      replace H := Option.bind_eq_some_iff.mp H
      obtain ⟨t110, A210, H⟩ := H
      (try dsimp only at H)
      have A21 := Z_ A210
      clear A210
      by_cases c22 : t110 = 0
      ·rw [if_pos c22] at H
       have c22b0 : (t110 == 0) = true := beq_iff_eq.mpr c22
       have c22b1 : (t110 != 0) = false := bne_eq_false_iff_eq.mpr c22
       clear c22
       replace H := Option.bind_eq_some_iff.mp H
       obtain ⟨⟨t112, t113⟩, A230, H⟩ := H
       (try dsimp only at H)
       have A23 := Z_ A230
       clear A230
       replace H := Option.bind_eq_some_iff.mp H
       obtain ⟨t114, A240, H⟩ := H
       (try dsimp only at H)
       have A24 := Z_ A240
       clear A240
       by_cases c25 : t114 = 0
       ·rw [if_pos c25] at H
        have c25b0 : (t114 == 0) = true := beq_iff_eq.mpr c25
        have c25b1 : (t114 != 0) = false := bne_eq_false_iff_eq.mpr c25
        clear c25
        replace H := Option.bind_eq_some_iff.mp H
        obtain ⟨t115, A260, H⟩ := H
        (try dsimp only at H)
        have A26 := Z_ A260
        clear A260
        by_cases c27 : t112.toList = t115.toList
        ·rw [if_pos c27] at H
         have c27b0 : (t112.toList == t115.toList) = true := beq_iff_eq.mpr c27
         have c27b1 : (t112.toList != t115.toList) = false := bne_eq_false_iff_eq.mpr c27
         clear c27
         replace H := Option.bind_eq_some_iff.mp H
         obtain ⟨t116, A280, H⟩ := H
         (try dsimp only at H)
         have A28 := Z_ A280
         clear A280
         obtain rfl := Option.some.inj H
         have hcz29_0 : wr.cell? ⟨gb101, 0, none⟩ = some (.int .i64 a0_0) := (blk_cell BK101.out 0).trans rfl
         have hcz29_1 : wr.cell? ⟨gb101, 1, none⟩ = some (.int .i64 a0_1) := (blk_cell BK101.out 1).trans rfl
         have hfz29_0 := blk_frozen BK101.out 0
         have hfz29_1 := blk_frozen BK101.out 1
         go_wp2_with (first | (refine G_ 55 Tryz.func11 #[.agg #[.int .i64 a0_0, .int .i64 a0_1], .string x12_1] ?_; (with_reducible refine (descanttop_wav.calls k1 a0_0 a0_1 x12_1 t107 _ A19.out).mono ?_); rintro e w30 ⟨rfl, hb⟩; refine ⟨_, rfl, ?_⟩; replace BK101 := Z_ (blk_below (g := gb101) (o := .cells #[.int .i64 a0_0, .int .i64 a0_1] 23 (0, 0)) (K_ BK101) hb); replace HB := Z_ (below_step B_ hb); (try clear hb)) | (refine G_ 57 Tryz.func10 #[.string t107, .int .i64 (wrap64 (1 + (wrap64 (Int.tmod (IntKind.u64.wrap (a2)) 64))))] ?_; (with_reducible refine (file_Encode.calls k1 t107 (wrap64 (1 + (wrap64 (Int.tmod (IntKind.u64.wrap (a2)) 64)))) t108 t109 _ A20.out).mono ?_); rintro e w31 ⟨rfl, hb⟩; refine ⟨_, rfl, ?_⟩; replace BK101 := Z_ (blk_below (g := gb101) (o := .cells #[.int .i64 a0_0, .int .i64 a0_1] 23 (0, 0)) (K_ BK101) hb); replace HB := Z_ (below_step B_ hb); (try clear hb)) | (refine G_ 61 Tryz.func12 #[.int .i64 t109] ?_; (with_reducible refine (descantlaw0_Num.calls t109 t110 _ A21.out).mono ?_); rintro e w' ⟨rfl, ⟨nd, rfl⟩⟩; refine ⟨_, rfl, ?_⟩) | (refine G_ 70 Tryz.func13 #[.string t108] ?_; (with_reducible refine (file_Decode.calls t108 t112 t113 _ A23.out).mono ?_); rintro e w32 ⟨rfl, hb⟩; refine ⟨_, rfl, ?_⟩; replace BK101 := Z_ (blk_below (g := gb101) (o := .cells #[.int .i64 a0_0, .int .i64 a0_1] 23 (0, 0)) (K_ BK101) hb); replace HB := Z_ (below_step B_ hb); (try clear hb)) | (refine G_ 74 Tryz.func12 #[.int .i64 t113] ?_; (with_reducible refine (descantlaw0_Num.calls t113 t114 _ A24.out).mono ?_); rintro e w' ⟨rfl, ⟨nd, rfl⟩⟩; refine ⟨_, rfl, ?_⟩; have hcz33_0 : w32.cell? ⟨gb101, 0, none⟩ = some (.int .i64 a0_0) := (blk_cell BK101.out 0).trans rfl; have hcz33_1 : w32.cell? ⟨gb101, 1, none⟩ = some (.int .i64 a0_1) := (blk_cell BK101.out 1).trans rfl; have hfz33_0 := blk_frozen BK101.out 0; have hfz33_1 := blk_frozen BK101.out 1) | (go_at_call 11; (with_reducible refine (descanttop_wav.calls k1 a0_0 a0_1 x12_1 t115 _ A26.out).mono ?_); rintro e w34 ⟨rfl, hb⟩; replace BK101 := Z_ (blk_below (g := gb101) (o := .cells #[.int .i64 a0_0, .int .i64 a0_1] 23 (0, 0)) (K_ BK101) hb); replace HB := Z_ (below_step B_ hb); (try clear hb)) | (go_at_call 14; (with_reducible refine (descantref13_Many.calls (wrap64 (1 + (wrap64 (Int.tmod (IntKind.u64.wrap (a1)) 600)))) (wrap64 (1 + (wrap64 (Int.tmod (IntKind.u64.wrap (a2)) 64)))) t116 _ A28.out).mono ?_); rintro e w' ⟨rfl, ⟨nd, rfl⟩⟩))
         go_ret
         exact ⟨E_, B_⟩
        ·rw [if_neg c27] at H
         have c27b0 : (t112.toList == t115.toList) = false := beq_eq_false_iff_ne.mpr c27
         have c27b1 : (t112.toList != t115.toList) = true := bne_iff_ne.mpr c27
         obtain rfl := Option.some.inj H
         have hcz35_0 : wr.cell? ⟨gb101, 0, none⟩ = some (.int .i64 a0_0) := (blk_cell BK101.out 0).trans rfl
         have hcz35_1 : wr.cell? ⟨gb101, 1, none⟩ = some (.int .i64 a0_1) := (blk_cell BK101.out 1).trans rfl
         have hfz35_0 := blk_frozen BK101.out 0
         have hfz35_1 := blk_frozen BK101.out 1
         go_wp2_with (first | (refine G_ 55 Tryz.func11 #[.agg #[.int .i64 a0_0, .int .i64 a0_1], .string x12_1] ?_; (with_reducible refine (descanttop_wav.calls k1 a0_0 a0_1 x12_1 t107 _ A19.out).mono ?_); rintro e w36 ⟨rfl, hb⟩; refine ⟨_, rfl, ?_⟩; replace BK101 := Z_ (blk_below (g := gb101) (o := .cells #[.int .i64 a0_0, .int .i64 a0_1] 23 (0, 0)) (K_ BK101) hb); replace HB := Z_ (below_step B_ hb); (try clear hb)) | (refine G_ 57 Tryz.func10 #[.string t107, .int .i64 (wrap64 (1 + (wrap64 (Int.tmod (IntKind.u64.wrap (a2)) 64))))] ?_; (with_reducible refine (file_Encode.calls k1 t107 (wrap64 (1 + (wrap64 (Int.tmod (IntKind.u64.wrap (a2)) 64)))) t108 t109 _ A20.out).mono ?_); rintro e w37 ⟨rfl, hb⟩; refine ⟨_, rfl, ?_⟩; replace BK101 := Z_ (blk_below (g := gb101) (o := .cells #[.int .i64 a0_0, .int .i64 a0_1] 23 (0, 0)) (K_ BK101) hb); replace HB := Z_ (below_step B_ hb); (try clear hb)) | (refine G_ 61 Tryz.func12 #[.int .i64 t109] ?_; (with_reducible refine (descantlaw0_Num.calls t109 t110 _ A21.out).mono ?_); rintro e w' ⟨rfl, ⟨nd, rfl⟩⟩; refine ⟨_, rfl, ?_⟩) | (refine G_ 70 Tryz.func13 #[.string t108] ?_; (with_reducible refine (file_Decode.calls t108 t112 t113 _ A23.out).mono ?_); rintro e w38 ⟨rfl, hb⟩; refine ⟨_, rfl, ?_⟩; replace BK101 := Z_ (blk_below (g := gb101) (o := .cells #[.int .i64 a0_0, .int .i64 a0_1] 23 (0, 0)) (K_ BK101) hb); replace HB := Z_ (below_step B_ hb); (try clear hb)) | (refine G_ 74 Tryz.func12 #[.int .i64 t113] ?_; (with_reducible refine (descantlaw0_Num.calls t113 t114 _ A24.out).mono ?_); rintro e w' ⟨rfl, ⟨nd, rfl⟩⟩; refine ⟨_, rfl, ?_⟩; have hcz39_0 : w38.cell? ⟨gb101, 0, none⟩ = some (.int .i64 a0_0) := (blk_cell BK101.out 0).trans rfl; have hcz39_1 : w38.cell? ⟨gb101, 1, none⟩ = some (.int .i64 a0_1) := (blk_cell BK101.out 1).trans rfl; have hfz39_0 := blk_frozen BK101.out 0; have hfz39_1 := blk_frozen BK101.out 1) | (go_at_call 11; (with_reducible refine (descanttop_wav.calls k1 a0_0 a0_1 x12_1 t115 _ A26.out).mono ?_); rintro e w40 ⟨rfl, hb⟩; replace BK101 := Z_ (blk_below (g := gb101) (o := .cells #[.int .i64 a0_0, .int .i64 a0_1] 23 (0, 0)) (K_ BK101) hb); replace HB := Z_ (below_step B_ hb); (try clear hb)))
         go_ret
         exact ⟨E_, B_⟩
       ·rw [if_neg c25] at H
        have c25b0 : (t114 == 0) = false := beq_eq_false_iff_ne.mpr c25
        have c25b1 : (t114 != 0) = true := bne_iff_ne.mpr c25
        obtain rfl := Option.some.inj H
        have hcz41_0 : wr.cell? ⟨gb101, 0, none⟩ = some (.int .i64 a0_0) := (blk_cell BK101.out 0).trans rfl
        have hcz41_1 : wr.cell? ⟨gb101, 1, none⟩ = some (.int .i64 a0_1) := (blk_cell BK101.out 1).trans rfl
        have hfz41_0 := blk_frozen BK101.out 0
        have hfz41_1 := blk_frozen BK101.out 1
        go_wp2_with (first | (refine G_ 55 Tryz.func11 #[.agg #[.int .i64 a0_0, .int .i64 a0_1], .string x12_1] ?_; (with_reducible refine (descanttop_wav.calls k1 a0_0 a0_1 x12_1 t107 _ A19.out).mono ?_); rintro e w42 ⟨rfl, hb⟩; refine ⟨_, rfl, ?_⟩; replace BK101 := Z_ (blk_below (g := gb101) (o := .cells #[.int .i64 a0_0, .int .i64 a0_1] 23 (0, 0)) (K_ BK101) hb); replace HB := Z_ (below_step B_ hb); (try clear hb)) | (refine G_ 57 Tryz.func10 #[.string t107, .int .i64 (wrap64 (1 + (wrap64 (Int.tmod (IntKind.u64.wrap (a2)) 64))))] ?_; (with_reducible refine (file_Encode.calls k1 t107 (wrap64 (1 + (wrap64 (Int.tmod (IntKind.u64.wrap (a2)) 64)))) t108 t109 _ A20.out).mono ?_); rintro e w43 ⟨rfl, hb⟩; refine ⟨_, rfl, ?_⟩; replace BK101 := Z_ (blk_below (g := gb101) (o := .cells #[.int .i64 a0_0, .int .i64 a0_1] 23 (0, 0)) (K_ BK101) hb); replace HB := Z_ (below_step B_ hb); (try clear hb)) | (refine G_ 61 Tryz.func12 #[.int .i64 t109] ?_; (with_reducible refine (descantlaw0_Num.calls t109 t110 _ A21.out).mono ?_); rintro e w' ⟨rfl, ⟨nd, rfl⟩⟩; refine ⟨_, rfl, ?_⟩) | (refine G_ 70 Tryz.func13 #[.string t108] ?_; (with_reducible refine (file_Decode.calls t108 t112 t113 _ A23.out).mono ?_); rintro e w44 ⟨rfl, hb⟩; refine ⟨_, rfl, ?_⟩; replace BK101 := Z_ (blk_below (g := gb101) (o := .cells #[.int .i64 a0_0, .int .i64 a0_1] 23 (0, 0)) (K_ BK101) hb); replace HB := Z_ (below_step B_ hb); (try clear hb)) | (refine G_ 74 Tryz.func12 #[.int .i64 t113] ?_; (with_reducible refine (descantlaw0_Num.calls t113 t114 _ A24.out).mono ?_); rintro e w' ⟨rfl, ⟨nd, rfl⟩⟩; refine ⟨_, rfl, ?_⟩))
        go_ret
        exact ⟨E_, B_⟩
      ·rw [if_neg c22] at H
       have c22b0 : (t110 == 0) = false := beq_eq_false_iff_ne.mpr c22
       have c22b1 : (t110 != 0) = true := bne_iff_ne.mpr c22
       replace H := Option.bind_eq_some_iff.mp H
       obtain ⟨t111, A450, H⟩ := H
       (try dsimp only at H)
       have A45 := Z_ A450
       clear A450
       obtain rfl := Option.some.inj H
       have hcz46_0 : wr.cell? ⟨gb101, 0, none⟩ = some (.int .i64 a0_0) := (blk_cell BK101.out 0).trans rfl
       have hcz46_1 : wr.cell? ⟨gb101, 1, none⟩ = some (.int .i64 a0_1) := (blk_cell BK101.out 1).trans rfl
       have hfz46_0 := blk_frozen BK101.out 0
       have hfz46_1 := blk_frozen BK101.out 1
       go_wp2_with (first | (refine G_ 55 Tryz.func11 #[.agg #[.int .i64 a0_0, .int .i64 a0_1], .string x12_1] ?_; (with_reducible refine (descanttop_wav.calls k1 a0_0 a0_1 x12_1 t107 _ A19.out).mono ?_); rintro e w47 ⟨rfl, hb⟩; refine ⟨_, rfl, ?_⟩; replace BK101 := Z_ (blk_below (g := gb101) (o := .cells #[.int .i64 a0_0, .int .i64 a0_1] 23 (0, 0)) (K_ BK101) hb); replace HB := Z_ (below_step B_ hb); (try clear hb)) | (refine G_ 57 Tryz.func10 #[.string t107, .int .i64 (wrap64 (1 + (wrap64 (Int.tmod (IntKind.u64.wrap (a2)) 64))))] ?_; (with_reducible refine (file_Encode.calls k1 t107 (wrap64 (1 + (wrap64 (Int.tmod (IntKind.u64.wrap (a2)) 64)))) t108 t109 _ A20.out).mono ?_); rintro e w48 ⟨rfl, hb⟩; refine ⟨_, rfl, ?_⟩; replace BK101 := Z_ (blk_below (g := gb101) (o := .cells #[.int .i64 a0_0, .int .i64 a0_1] 23 (0, 0)) (K_ BK101) hb); replace HB := Z_ (below_step B_ hb); (try clear hb)) | (refine G_ 61 Tryz.func12 #[.int .i64 t109] ?_; (with_reducible refine (descantlaw0_Num.calls t109 t110 _ A21.out).mono ?_); rintro e w' ⟨rfl, ⟨nd, rfl⟩⟩; refine ⟨_, rfl, ?_⟩; have hcz49_0 : w48.cell? ⟨gb101, 0, none⟩ = some (.int .i64 a0_0) := (blk_cell BK101.out 0).trans rfl; have hcz49_1 : w48.cell? ⟨gb101, 1, none⟩ = some (.int .i64 a0_1) := (blk_cell BK101.out 1).trans rfl; have hfz49_0 := blk_frozen BK101.out 0; have hfz49_1 := blk_frozen BK101.out 1) | (refine G_ 65 Tryz.func11 #[.agg #[.int .i64 a0_0, .int .i64 a0_1], .string x12_1] ?_; (with_reducible refine (descanttop_wav.calls k1 a0_0 a0_1 x12_1 t111 _ A45.out).mono ?_); rintro e w50 ⟨rfl, hb⟩; refine ⟨_, rfl, ?_⟩; replace BK101 := Z_ (blk_below (g := gb101) (o := .cells #[.int .i64 a0_0, .int .i64 a0_1] 23 (0, 0)) (K_ BK101) hb); replace HB := Z_ (below_step B_ hb); (try clear hb)))
       go_ret
       exact ⟨E_, B_⟩
  ·replace c8 := Bool.eq_false_iff.mpr c8
   subst c8
   rw [if_neg (show ¬ (false = true) by decide)] at H
   obtain rfl := Option.some.inj H
   go_enter Tryz.func3, Tryz.ntmps3
   go_wp2_with (first | ((with_reducible refine gate_dst (N := 4) rfl ?_); (try (refine gate_guard (by rfl) ?_; dsimp only)); refine X_ 4 #[.int .i64 a0_0, .int .i64 a0_1] 23 ?_; intro gb101 hg w51 hbox hb; have BK101 := Z_ (hbox); have GW101 := Z_ ((G2_ hg : w.heap.size ≤ _)); have GE101 := Z_ ((G2_ hg : w.heap.size ≤ _)); replace HB := Z_ (below_step B_ hb); clear hb hbox hg) | (refine G_ 18 Tryz.func8 #[] ?_; (with_reducible refine (descanttop_awake.calls  true _ A5.out).mono ?_); rintro e w52 ⟨rfl, hb⟩; refine ⟨_, rfl, ?_⟩; replace BK101 := Z_ (blk_below (g := gb101) (o := .cells #[.int .i64 a0_0, .int .i64 a0_1] 23 (0, 0)) (K_ BK101) hb); replace HB := Z_ (below_step B_ hb); (try clear hb); have hcz53_0 : w52.cell? ⟨gb101, 0, none⟩ = some (.int .i64 a0_0) := (blk_cell BK101.out 0).trans rfl; have hcz53_1 : w52.cell? ⟨gb101, 1, none⟩ = some (.int .i64 a0_1) := (blk_cell BK101.out 1).trans rfl; have hfz53_0 := blk_frozen BK101.out 0; have hfz53_1 := blk_frozen BK101.out 1) | (refine G_ 21 Tryz.func9 #[.agg #[.int .i64 a0_0, .int .i64 a0_1]] ?_; (with_reducible refine (descantref13_FormatMay.calls a0_0 a0_1 false _ A7.out).mono ?_); rintro e w54 ⟨rfl, hb⟩; refine ⟨_, rfl, ?_⟩; replace BK101 := Z_ (blk_below (g := gb101) (o := .cells #[.int .i64 a0_0, .int .i64 a0_1] 23 (0, 0)) (K_ BK101) hb); replace HB := Z_ (below_step B_ hb); (try clear hb)))
   go_ret
   exact ⟨E_, B_⟩
 ·replace c6 := Bool.eq_false_iff.mpr c6
  subst c6
  rw [if_neg (show ¬ (false = true) by decide)] at H
  obtain rfl := Option.some.inj H
  go_enter Tryz.func3, Tryz.ntmps3
  go_wp2_with (first | ((with_reducible refine gate_dst (N := 4) rfl ?_); (try (refine gate_guard (by rfl) ?_; dsimp only)); refine X_ 4 #[.int .i64 a0_0, .int .i64 a0_1] 23 ?_; intro gb101 hg w55 hbox hb; have BK101 := Z_ (hbox); have GW101 := Z_ ((G2_ hg : w.heap.size ≤ _)); have GE101 := Z_ ((G2_ hg : w.heap.size ≤ _)); replace HB := Z_ (below_step B_ hb); clear hb hbox hg) | (refine G_ 18 Tryz.func8 #[] ?_; (with_reducible refine (descanttop_awake.calls  false _ A5.out).mono ?_); rintro e w56 ⟨rfl, hb⟩; refine ⟨_, rfl, ?_⟩; replace BK101 := Z_ (blk_below (g := gb101) (o := .cells #[.int .i64 a0_0, .int .i64 a0_1] 23 (0, 0)) (K_ BK101) hb); replace HB := Z_ (below_step B_ hb); (try clear hb)))
  go_ret
  exact ⟨E_, B_⟩
end Go.Proofs.YtfghldonnffldaaGreatDoor.MTopSilence
namespace Go.Proofs.YtfghldonnffldaaGreatDoor
open Go.RowKit Go.Proofs.YtfghldonnffldaaGreatDoorW.PrintWords Go.Proofs.YtfghldonnffldaaGreatDoorW.PrintLast Go.Proofs.YtfghldonnffldaaGreatDoorW.PrintMore Go.Proofs.YtfghldonnffldaaGreatDoor.TBase
open Go.Proofs.YtfghldonnffldaaGreatDoor.UOne Go.Proofs.YtfghldonnffldaaGreatDoor.VTwo Go.Proofs.YtfghldonnffldaaGreatDoor.YFou Go.Proofs.YtfghldonnffldaaGreatDoor.ZFiv Go.Proofs.YtfghldonnffldaaGreatDoor.QSix Go.Proofs.YtfghldonnffldaaGreatDoor.ESev
def cnt (m ks i : Nat) : Nat := min ks (m - i * ks)
def segsUp (m ks f : Nat) (v : UInt8) (j : Nat) : List ByteArray := (List.range j).map fun i => told 2 0 (cnt m ks i) (rep f v)
def dataUp (m ks f : Nat) (v : UInt8) (j : Nat) : List ByteArray := (List.range j).map fun i => rep (cnt m ks i * f) v
theorem segsUp_len (m ks f : Nat) (v : UInt8) (j : Nat) : (segsUp m ks f v j).length = j := by unfold segsUp; rw [List.length_map, List.length_range]
theorem dataUp_len (m ks f : Nat) (v : UInt8) (j : Nat) : (dataUp m ks f v j).length = j := by unfold dataUp; rw [List.length_map, List.length_range]
theorem segsUp_succ (m ks f : Nat) (v : UInt8) (j : Nat) : segsUp m ks f v (j + 1) = segsUp m ks f v j ++ [told 2 0 (cnt m ks j) (rep f v)] := by unfold segsUp; rw [List.range_succ, List.map_append]; rfl
theorem dataUp_succ (m ks f : Nat) (v : UInt8) (j : Nat) : dataUp m ks f v (j + 1) = dataUp m ks f v j ++ [rep (cnt m ks j * f) v] := by unfold dataUp; rw [List.range_succ, List.map_append]; rfl
theorem segsUp_at (m ks f : Nat) (v : UInt8) (j i : Nat) (h : i < j) : (segsUp m ks f v j).getD i ByteArray.empty = told 2 0 (cnt m ks i) (rep f v) := by
 rw [List.getD_eq_getElem?_getD, List.getElem?_eq_getElem (by rw [segsUp_len]; exact h)]
 unfold segsUp
 simp
theorem dataUp_at (m ks f : Nat) (v : UInt8) (j i : Nat) (h : i < j) : (dataUp m ks f v j).getD i ByteArray.empty = rep (cnt m ks i * f) v := by
 rw [List.getD_eq_getElem?_getD, List.getElem?_eq_getElem (by rw [dataUp_len]; exact h)]
 unfold dataUp
 simp
theorem flat_data (m ks f : Nat) (v : UInt8) : ∀ j, flat (dataUp m ks f v j) = List.replicate (min m (j * ks) * f) v := by
 intro j
 induction j with
 | zero => rw [Nat.zero_mul, Nat.min_zero, Nat.zero_mul]; rfl
 | succ j ih =>
  have e : flat (dataUp m ks f v (j + 1)) = flat (dataUp m ks f v j) ++ List.replicate (cnt m ks j * f) v := by
   rw [dataUp_succ]
   unfold flat
   rw [List.map_append, List.flatten_append]
   simp [rep_list]
  rw [e, ih, List.replicate_append_replicate, ← Nat.add_mul]
  congr 2
  unfold cnt
  rw [Nat.add_mul, Nat.one_mul]
  omega
theorem tot_segs (m ks f : Nat) (v : UInt8) : ∀ j, tot (segsUp m ks f v j) = j * (9 + f) := by
 intro j
 induction j with
 | zero => rw [Nat.zero_mul]; rfl
 | succ j ih =>
  have e : tot (segsUp m ks f v (j + 1)) = tot (segsUp m ks f v j) + (told 2 0 (cnt m ks j) (rep f v)).size := by
   rw [segsUp_succ]
   unfold tot
   rw [List.map_append, List.sum_append]
   simp
  rw [e, ih, told_size, rep_size, Nat.add_mul, Nat.one_mul]
def nseg (m ks : Nat) : Nat := (m + ks - 1) / ks
theorem nseg_lt (m ks i : Nat) (hk : 1 ≤ ks) : i < nseg m ks ↔ i * ks < m := by
 unfold nseg
 rw [Nat.lt_iff_add_one_le, Nat.le_div_iff_mul_le (by omega), Nat.add_mul, Nat.one_mul]
 omega
theorem nseg_le (m ks : Nat) (hk : 1 ≤ ks) : nseg m ks ≤ m := by
 rcases Nat.lt_or_ge m (nseg m ks) with h | h
 ·exfalso
  have := (nseg_lt m ks m hk).1 h
  have h2 : m * 1 ≤ m * ks := Nat.mul_le_mul_left m hk
  omega
 ·exact h
theorem nseg_all (m ks : Nat) (hk : 1 ≤ ks) : m ≤ nseg m ks * ks := by
 rcases Nat.lt_or_ge (nseg m ks * ks) m with h | h
 ·exact absurd ((nseg_lt m ks _ hk).2 h) (Nat.lt_irrefl _)
 ·exact h
theorem many_nat (m ks : Nat) (hk : 1 ≤ ks) (hm : m ≤ 100000) (hks : ks ≤ 100000) : wrap64 (Int.tdiv (wrap64 ((wrap64 ((m : Int) + (ks : Int))) - 1)) (ks : Int)) = (nseg m ks : Int) := by
 have w1 : wrap64 ((m : Int) + (ks : Int)) = ((m + ks : Nat) : Int) := wrap_id _ (by omega) (by omega)
 have w2 : wrap64 (((m + ks : Nat) : Int) - 1) = ((m + ks - 1 : Nat) : Int) := by rw [wrap_id _ (by omega) (by omega)]; omega
 have w3 : Int.tdiv ((m + ks - 1 : Nat) : Int) (ks : Int) = (nseg m ks : Int) := rfl
 have hle := nseg_le m ks hk
 rw [w1, w2, w3]
 exact wrap_id _ (by omega) (by omega)
theorem smany_f (m ks : Nat) (hk : 1 ≤ ks) (hm : m ≤ 100000) (hks : ks ≤ 100000) : stream_Many.f (m : Int) (ks : Int) = some (nseg m ks : Int) := by
 unfold stream_Many.f
 rw [if_neg (by omega), many_nat m ks hk hm hks]
theorem rmany_f (m ks : Nat) (hk : 1 ≤ ks) (hm : m ≤ 100000) (hks : ks ≤ 100000) : descantref13_Many.f (m : Int) (ks : Int) = some (nseg m ks : Int) := by
 unfold descantref13_Many.f
 rw [if_neg (by omega), many_nat m ks hk hm hks]
theorem cnt_bd (m ks i : Nat) (h : i * ks < m) (hk : 1 ≤ ks) : 1 ≤ cnt m ks i ∧ cnt m ks i ≤ ks := by unfold cnt; omega
theorem enc_step (k ks f a c M : Nat) (ch bi m : Int) (hd d tl s : ByteArray) (L : List ByteArray) (hM : d.size = M) (ha : a < M) (hc : ks * f = c) (hMb : M ≤ 4096) (hcb : c ≤ 4096) (hL : L.length ≤ 4096)
  (hs : segment_Put.f k (d.extract a (min (a + c) M)) ch bi = some (s, 0)) :
  file_Encode.l0 (k + 1) (ks : Int) (f : Int) (a : Int) ch bi hd d tl ch bi (ks : Int) m hd tl L = file_Encode.l0 k (ks : Int) (f : Int) ((a + c : Nat) : Int) ch bi hd d tl ch bi (ks : Int) m hd tl (L ++ [s]) := by
 have w1 : wrap64 ((ks : Int) * (f : Int)) = (c : Int) := by rw [← Int.natCast_mul, hc]; exact wrap_id _ (by omega) (by omega)
 have w2 : wrap64 ((a : Int) + (c : Int)) = ((a + c : Nat) : Int) := wrap_id _ (by omega) (by omega)
 have w3 : mn ((a + c : Nat) : Int) (M : Int) = ((min (a + c) M : Nat) : Int) := by clear w1 w2 hs; unfold mn; split <;> omega
 have c1 : (a : Int) < (M : Int) := Int.ofNat_lt.2 ha
 have c2 : (0 : Int) ≤ (a : Int) := Int.natCast_nonneg _
 have c3 : (a : Int) ≤ ((min (a + c) M : Nat) : Int) := by clear w1 w2 w3 hs; omega
 have c4 : ((min (a + c) M : Nat) : Int) ≤ (M : Int) := by clear w1 w2 w3 hs; omega
 have c5 : L.length < 8796093022208 := Nat.lt_of_le_of_lt hL (by decide)
 rw [file_Encode.l0, hM, w1, w2, w3, if_pos c1, if_pos c2, if_pos c3, if_pos c4, Int.toNat_natCast, Int.toNat_natCast, hs, Option.bind_some, if_pos c5]
theorem enc_end (k ks f a : Nat) (ch bi m : Int) (hd d tl : ByteArray) (L : List ByteArray) (r : ByteArray) (ha : d.size ≤ a) (hput : stream_Put.f ch bi (ks : Int) m hd tl L = some (r, 0)) :
  file_Encode.l0 (k + 1) (ks : Int) (f : Int) (a : Int) ch bi hd d tl ch bi (ks : Int) m hd tl L = some (r, 0) := by
 rw [file_Encode.l0, if_neg (by omega), hput, Option.bind_some]
 rfl
theorem enc_l0 (k ch bi ks m : Nat) (v : UInt8) (hd tl r : ByteArray) (hc : ch = 1 ∨ ch = 2) (hb : bi = 8 ∨ bi = 16) (hk : 1 ≤ ks) (hks : ks ≤ 64) (hm : m ≤ 600) (hkk : 5002 ≤ k)
  (hput : stream_Put.f (ch : Int) (bi : Int) (ks : Int) (m : Int) hd tl (segsUp m ks (fsz ch bi) v (nseg m ks)) = some (r, 0)) :
  ∀ d i, i + d = nseg m ks → file_Encode.l0 (k + d + 1) (ks : Int) ((fsz ch bi : Nat) : Int) ((i * ks * fsz ch bi : Nat) : Int) (ch : Int) (bi : Int) hd (rep (m * fsz ch bi) v) tl (ch : Int) (bi : Int) (ks : Int) (m : Int) hd tl (segsUp m ks (fsz ch bi) v i) = some (r, 0) := by
 have hf := fsz_pos ch bi hc hb
 have hmf : m * fsz ch bi ≤ 600 * 4 := Nat.mul_le_mul hm hf.2
 have hcle : ks * fsz ch bi ≤ 64 * 4 := Nat.mul_le_mul hks hf.2
 have hn := nseg_le m ks hk
 intro d
 induction d with
 | zero =>
  intro i hi
  obtain rfl : i = nseg m ks := hi
  exact enc_end k ks _ _ _ _ _ _ _ _ _ _ (by rw [rep_size]; exact Nat.mul_le_mul_right _ (nseg_all m ks hk)) hput
 | succ d ih =>
  intro i hi
  have hlt : i * ks < m := (nseg_lt m ks i hk).1 (by omega)
  have hcb := cnt_bd m ks i hlt hk
  have ha : i * ks * fsz ch bi < m * fsz ch bi := Nat.mul_lt_mul_of_pos_right hlt hf.1
  have hnext : i * ks * fsz ch bi + ks * fsz ch bi = (i + 1) * ks * fsz ch bi := by rw [Nat.add_mul, Nat.one_mul, Nat.add_mul]
  have hcnt : min (i * ks * fsz ch bi + ks * fsz ch bi) (m * fsz ch bi) - i * ks * fsz ch bi = cnt m ks i * fsz ch bi := by
   unfold cnt
   rw [← Nat.add_mul, Nat.mul_min_mul_right, ← Nat.sub_mul]
   congr 1
   omega
  have hp := segPut_rep (k + d + 1) ch bi (cnt m ks i) v (by omega) hc hb hcb.1 (Nat.le_trans hcb.2 hks)
  have hx : (rep (m * fsz ch bi) v).extract (i * ks * fsz ch bi) (min (i * ks * fsz ch bi + ks * fsz ch bi) (m * fsz ch bi)) = rep (cnt m ks i * fsz ch bi) v := by
   rw [rep_extract _ _ _ v (Nat.le_min.2 ⟨Nat.le_add_right _ _, Nat.le_of_lt ha⟩) (Nat.min_le_right _ _), hcnt]
  rw [show k + (d + 1) + 1 = (k + d + 1) + 1 from rfl, enc_step (k + d + 1) ks (fsz ch bi) _ (ks * fsz ch bi) (m * fsz ch bi) _ _ _ _ _ _ (told 2 0 (cnt m ks i) (rep (fsz ch bi) v)) _ (rep_size _ _) ha rfl (by omega) (by omega) (by rw [segsUp_len]; omega) (by rw [hx]; exact hp), hnext, ← segsUp_succ]
  exact ih (i + 1) (by omega)
end Go.Proofs.YtfghldonnffldaaGreatDoor
namespace Go.Proofs.YtfghldonnffldaaGreatDoor
open Go.RowKit Go.Proofs.YtfghldonnffldaaGreatDoorW.PrintWords Go.Proofs.YtfghldonnffldaaGreatDoorW.PrintLast Go.Proofs.YtfghldonnffldaaGreatDoorW.PrintMore Go.Proofs.YtfghldonnffldaaGreatDoor.TBase
open Go.Proofs.YtfghldonnffldaaGreatDoor.UOne Go.Proofs.YtfghldonnffldaaGreatDoor.VTwo Go.Proofs.YtfghldonnffldaaGreatDoor.YFou Go.Proofs.YtfghldonnffldaaGreatDoor.ZFiv Go.Proofs.YtfghldonnffldaaGreatDoor.QSix Go.Proofs.YtfghldonnffldaaGreatDoor.ESev Go.Proofs.YtfghldonnffldaaGreatDoor.MTopSilence
def siW (ch bi m : Nat) (v : UInt8) : ByteArray := wavB ch bi (rep (m * fsz ch bi) v)
def siHd (ch bi m : Nat) (v : UInt8) : ByteArray := (siW ch bi m v).extract 0 44
def siTl (ch bi m : Nat) (v : UInt8) : ByteArray := (siW ch bi m v).extract (44 + m * fsz ch bi) (siW ch bi m v).size
def siE (ch bi ks m : Nat) (v : UInt8) : ByteArray := sput ch bi ks m (siHd ch bi m v) (siTl ch bi m v) (segsUp m ks (fsz ch bi) v (nseg m ks))
theorem siW_size (ch bi m : Nat) (v : UInt8) : (siW ch bi m v).size = 56 + m * fsz ch bi + m * fsz ch bi % 2 := by
 unfold siW
 rw [wavB_size, rep_size]
theorem siW_at (ch bi m : Nat) (v : UInt8) : ∃ p, WavAt (siW ch bi m v) ch bi (siW ch bi m v).size p (rep (m * fsz ch bi) v) := by
 have h := wavB_at ch bi (rep (m * fsz ch bi) v)
 rw [← wavB_size] at h
 exact ⟨_, h⟩
theorem siHd_size (ch bi m : Nat) (v : UInt8) : (siHd ch bi m v).size = 44 := by
 have := siW_size ch bi m v
 unfold siHd
 rw [ByteArray.size_extract]
 omega
theorem siTl_size (ch bi m : Nat) (v : UInt8) : (siTl ch bi m v).size ≤ 13 := by
 have := siW_size ch bi m v
 unfold siTl
 rw [ByteArray.size_extract]
 omega
theorem seg_sz (m ks f : Nat) (v : UInt8) (j : Nat) (hf : f ≤ 4) : ∀ x ∈ segsUp m ks f v j, szB x = true := by
 intro x hx
 unfold segsUp at hx
 obtain ⟨i, _, rfl⟩ := List.mem_map.1 hx
 unfold szB
 rw [told_size, rep_size]
 exact decide_eq_true ⟨by omega, by omega⟩
theorem si_head (ch bi ks m : Nat) (v : UInt8) (hc : ch = 1 ∨ ch = 2) (hb : bi = 8 ∨ bi = 16) (hk : 1 ≤ ks) (hks : ks ≤ 64) (hm : m ≤ 600) : headOk (ch : Int) (bi : Int) (ks : Int) (m : Int) (siHd ch bi m v) (siTl ch bi m v) := by
 have h1 := siHd_size ch bi m v
 have h2 := siTl_size ch bi m v
 exact ⟨by omega, by omega, by omega, by omega, by omega, by omega, by omega, by omega⟩
theorem si_put (ch bi ks m : Nat) (v : UInt8) (hc : ch = 1 ∨ ch = 2) (hb : bi = 8 ∨ bi = 16) (hk : 1 ≤ ks) (hks : ks ≤ 64) (hm : m ≤ 600) : stream_Put.f (ch : Int) (bi : Int) (ks : Int) (m : Int) (siHd ch bi m v) (siTl ch bi m v) (segsUp m ks (fsz ch bi) v (nseg m ks)) = some (siE ch bi ks m v, 0) := by
 have hn := nseg_le m ks hk
 have hf := fsz_pos ch bi hc hb
 unfold stream_Put.f
 rw [if_pos ⟨si_head ch bi ks m v hc hb hk hks hm, by rw [segsUp_len]; exact smany_f m ks hk (by omega) (by omega), by rw [segsUp_len]; omega, List.all_eq_true.2 (seg_sz m ks _ v _ hf.2)⟩]
 rfl
theorem si_enc (k ch bi ks m : Nat) (v : UInt8) (hkk : 6000 ≤ k) (hc : ch = 1 ∨ ch = 2) (hb : bi = 8 ∨ bi = 16) (hk : 1 ≤ ks) (hks : ks ≤ 64) (hm : m ≤ 600) : file_Encode.f k (siW ch bi m v) (ks : Int) = some (siE ch bi ks m v, 0) := by
 have hf := fsz_pos ch bi hc hb
 have hmf : m * fsz ch bi ≤ 600 * 4 := Nat.mul_le_mul hm hf.2
 have hz := siW_size ch bi m v
 have hn := nseg_le m ks hk
 obtain ⟨p, hat⟩ := siW_at ch bi m v
 have hp := parse_go k (by omega) hat (by omega) hc hb
 rw [rep_size, if_pos (Nat.mul_mod_left _ _)] at hp
 obtain ⟨k, rfl⟩ : ∃ j, k = (j + nseg m ks + 1) + 1 := ⟨k - nseg m ks - 2, by omega⟩
 have e1 : ((m * fsz ch bi : Nat) : Int) / ((fsz ch bi : Nat) : Int) = (m : Int) := by rw [← Int.natCast_ediv, Nat.mul_div_cancel _ hf.1]
 have c1 : ¬ ((ks : Int) < 1) := by omega
 have c2 : ¬ (decide ((ks : Int) > 64) = true) := by rw [decide_eq_true_iff]; omega
 have c3 : ¬ (((fsz ch bi : Nat) : Int) = 0) := by omega
 have w1 : wrap64 (m : Int) = (m : Int) := wrap_id _ (by omega) (by omega)
 have hl := enc_l0 k ch bi ks m v (siHd ch bi m v) (siTl ch bi m v) (siE ch bi ks m v) hc hb hk hks hm (by omega) (si_put ch bi ks m v hc hb hk hks hm) (nseg m ks) 0 (by omega)
 rw [Nat.zero_mul, Nat.zero_mul] at hl
 unfold file_Encode.f
 rw [hp, Option.bind_some]
 dsimp only
 rw [if_pos rfl, if_neg c1, file_Encode.j0, if_neg c2, pframe_f ch bi hc hb, Option.bind_some, if_neg c3, rep_size, e1, w1]
 exact hl
theorem e_lem (f q : Nat) : (11 + f) * q = 2 * q + q * (9 + f) := by
 rw [Nat.mul_comm q, ← Nat.add_mul]
 congr 1
 omega
theorem s_lem (a b c x y z q : Nat) (h1 : x = 44) (h2 : y ≤ 13) (a1 : a ≤ 2) (a2 : b ≤ 2) (a3 : c ≤ 2) : 7 + a + b + c + x + y + 2 * q + 4 + z ≤ 100 + (2 * q + z) := by omega
theorem si_size (ch bi ks m : Nat) (v : UInt8) (hm : m ≤ 600) : (siE ch bi ks m v).size ≤ 100 + (11 + fsz ch bi) * nseg m ks := by
 have h1 := siHd_size ch bi m v
 have h2 := siTl_size ch bi m v
 have a1 := vb_len m
 have a2 := vb_len (siHd ch bi m v).size
 have a3 := vb_len (siTl ch bi m v).size
 rw [strOfNums_size] at a1 a2 a3
 have e := e_lem (fsz ch bi) (nseg m ks)
 have hs : (siE ch bi ks m v).size = 7 + (Le.vb m).length + (Le.vb (siHd ch bi m v).size).length + (Le.vb (siTl ch bi m v).size).length + (siHd ch bi m v).size + (siTl ch bi m v).size + 2 * nseg m ks + 4 + nseg m ks * (9 + fsz ch bi) := by
  have h5 := sput_size ch bi ks m (siHd ch bi m v) (siTl ch bi m v) (segsUp m ks (fsz ch bi) v (nseg m ks))
  rw [sputL_len, tot_segs, segsUp_len] at h5
  exact h5
 rw [hs, e]
 exact s_lem _ _ _ _ _ _ _ h1 h2 a1 a2 a3
theorem w_mul1 (i ks m : Nat) (h : i * ks < m) (hm : m ≤ 600) : wrap64 ((i : Int) * (ks : Int)) = ((i * ks : Nat) : Int) := by rw [← Int.natCast_mul]; exact wrap_id _ (by omega) (by omega)
theorem w_sub1 (i ks m : Nat) (h : i * ks < m) (hm : m ≤ 600) : wrap64 ((m : Int) - ((i * ks : Nat) : Int)) = ((m - i * ks : Nat) : Int) := by
 generalize i * ks = z at *
 rw [wrap_id _ (by omega) (by omega)]
 omega
theorem mn_cnt (m ks i : Nat) : mn (ks : Int) ((m - i * ks : Nat) : Int) = (cnt m ks i : Int) := by
 unfold mn cnt
 generalize m - i * ks = z
 split <;> omega
theorem w_mul2 (c f : Nat) (h : c * f ≤ 64 * 4) : wrap64 ((c : Int) * (f : Int)) = ((c * f : Nat) : Int) := by rw [← Int.natCast_mul]; exact wrap_id _ (by omega) (by omega)
theorem w_mul3 (c f : Nat) (h : c * f ≤ 600 * 15) : wrap64 ((c : Int) * (f : Int)) = ((c * f : Nat) : Int) := by rw [← Int.natCast_mul]; exact wrap_id _ (by omega) (by omega)
theorem w_add3 (c f : Nat) (h1 : c ≤ 10000) (h : f ≤ 10000) : wrap64 ((c : Int) + (f : Int)) = ((c + f : Nat) : Int) := wrap_id _ (by omega) (by omega)
theorem si_dec (k ch bi ks m : Nat) (v : UInt8) (hkk : 6000 ≤ k) (hc : ch = 1 ∨ ch = 2) (hb : bi = 8 ∨ bi = 16) (hk : 1 ≤ ks) (hks : ks ≤ 64) (h1 : 1 ≤ m) (hm : m ≤ 600) : DecRes k (siE ch bi ks m v) (siW ch bi m v) := by
 have hf := fsz_pos ch bi hc hb
 have hmf : m * fsz ch bi ≤ 600 * 4 := Nat.mul_le_mul hm hf.2
 have hz := siW_size ch bi m v
 have hn := nseg_le m ks hk
 have hsz := si_size ch bi ks m v hm
 have hb1 : (11 + fsz ch bi) * nseg m ks ≤ 15 * 600 := Nat.mul_le_mul (by omega) (by omega)
 obtain ⟨p, hat⟩ := siW_at ch bi m v
 obtain ⟨p1, p2, p3, p5, q, ho⟩ := sput_ok ch bi ks m (siHd ch bi m v) (siTl ch bi m v) (segsUp m ks (fsz ch bi) v (nseg m ks)) (si_head ch bi ks m v hc hb hk hks hm) (by rw [segsUp_len]; exact smany_f m ks hk (by omega) (by omega)) (seg_sz m ks _ v _ hf.2) (by show (siE ch bi ks m v).size ≤ 65536; omega)
 have hfl := flat_data m ks (fsz ch bi) v (nseg m ks)
 rw [Nat.min_eq_left (nseg_all m ks hk)] at hfl
 refine ⟨ch, bi, ks, m, siHd ch bi m v, siTl ch bi m v, _, dataUp m ks (fsz ch bi) v (nseg m ks), p1, p2, p3, p5, q, ho, by rw [dataUp_len, segsUp_len], ?_, ?_, ?_⟩
 ·intro i hi
  rw [segsUp_len] at hi
  have hlt : i * ks < m := (nseg_lt m ks i hk).1 hi
  have hcb := cnt_bd m ks i hlt hk
  have hg := segGet_rep k ch bi (cnt m ks i) v (by omega) hc hb hcb.1 (Nat.le_trans hcb.2 hks)
  have hrd : rdOf ByteArray.empty (segsUp m ks (fsz ch bi) v (nseg m ks)) (i : Int) = told 2 0 (cnt m ks i) (rep (fsz ch bi) v) := by
   unfold rdOf
   rw [Int.toNat_natCast]
   exact segsUp_at m ks _ v _ i hi
  have hcf : cnt m ks i * fsz ch bi ≤ 64 * 4 := Nat.mul_le_mul (Nat.le_trans hcb.2 hks) hf.2
  have w1 := w_mul1 i ks m hlt hm
  have w2 := w_sub1 i ks m hlt hm
  have w3 := mn_cnt m ks i
  have w4 := w_mul2 (cnt m ks i) (fsz ch bi) hcf
  unfold file_whole_data.f file_whole_frames.f
  rw [if_pos (Int.natCast_nonneg _), if_pos (by rw [segsUp_len]; exact Int.ofNat_lt.2 hi), hrd, hg, Option.bind_some]
  dsimp only
  rw [if_pos rfl, w1, w2, w3, Option.bind_some, pframe_f ch bi hc hb, Option.bind_some, w4, rep_size, if_pos rfl, dataUp_at _ _ _ _ _ _ hi]
 ·rw [← flat_len, hfl, List.length_replicate]
  omega
 ·rw [hfl]
  have hbd := build_f k (by omega) hat (by omega) hc hb (by rw [rep_size]; exact Nat.mul_mod_left _ _)
  rw [rep_size] at hbd
  exact hbd
theorem byte_rep (x : Int) : strOfNums [x % 256] = rep 1 (UInt8.ofNat (x % 256).toNat) := rfl
theorem rep_add (i : Nat) (v : UInt8) : rep i v ++ rep 1 v = rep (i + 1) v := by
 refine ByteArray.ext ?_
 apply Array.toList_inj.1
 rw [ByteArray.data_append, Array.toList_append, rep_list, rep_list, rep_list, List.replicate_append_replicate]
theorem si_loop (k ch bi ks m : Nat) (x : Int) (hkk : 6000 ≤ k) (hc : ch = 1 ∨ ch = 2) (hb : bi = 8 ∨ bi = 16) (hk : 1 ≤ ks) (hks : ks ≤ 64) (h1 : 1 ≤ m) (hm : m ≤ 600) :
  ∀ d i, i + d = m * fsz ch bi → descanttop_TopSilence.l0 (k + d + 1) x (ks : Int) (m : Int) ((fsz ch bi : Nat) : Int) (rep i (UInt8.ofNat (x % 256).toNat)) (i : Int) (ch : Int) (bi : Int) = some true := by
 have hf := fsz_pos ch bi hc hb
 have hmf : m * fsz ch bi ≤ 600 * 4 := Nat.mul_le_mul hm hf.2
 have hn := nseg_le m ks hk
 have w0 : wrap64 ((m : Int) * ((fsz ch bi : Nat) : Int)) = ((m * fsz ch bi : Nat) : Int) := by rw [← Int.natCast_mul]; exact wrap_id _ (by omega) (by omega)
 intro d
 induction d with
 | zero =>
  intro i hi
  obtain rfl : i = m * fsz ch bi := hi
  have hw : descanttop_wav.f k (ch : Int) (bi : Int) (rep (m * fsz ch bi) (UInt8.ofNat (x % 256).toNat)) = some (siW ch bi m (UInt8.ofNat (x % 256).toNat)) := wav_f k ch bi _ hc hb (by rw [rep_size]; exact Nat.le_trans hmf (by decide)) (Nat.lt_of_lt_of_le (by decide) hkk)
  have hsz := si_size ch bi ks m (UInt8.ofNat (x % 256).toNat) hm
  have hb1 : (11 + fsz ch bi) * nseg m ks ≤ 15 * 600 := Nat.mul_le_mul (Nat.add_le_add_left hf.2 11) (Nat.le_trans hn hm)
  have w1 : wrap64 (11 + ((fsz ch bi : Nat) : Int)) = ((11 + fsz ch bi : Nat) : Int) := w_add3 11 (fsz ch bi) (by decide) (Nat.le_trans hf.2 (by decide))
  have w2 := w_mul3 (11 + fsz ch bi) (nseg m ks) (Nat.le_trans hb1 (by decide))
  have w3 : wrap64 (100 + (((11 + fsz ch bi) * nseg m ks : Nat) : Int)) = ((100 + (11 + fsz ch bi) * nseg m ks : Nat) : Int) := w_add3 100 _ (by decide) (Nat.le_trans hb1 (by decide))
  rw [Nat.add_zero, descanttop_TopSilence.l0, w0, if_neg (Int.lt_irrefl _), hw, Option.bind_some, si_enc k ch bi ks m _ hkk hc hb hk hks hm, Option.bind_some]
  unfold descantlaw0_Num.f
  simp only [Option.bind_some, if_true]
  rw [file_Decode.f_of (si_dec k ch bi ks m _ hkk hc hb hk hks h1 hm), Option.bind_some]
  dsimp only
  rw [if_pos rfl, rmany_f m ks hk (Nat.le_trans hm (by decide)) (Nat.le_trans hks (by decide)), Option.bind_some, w1, w2, w3]
  rw [if_pos rfl]
  congr 1
  rw [decide_eq_true_iff]
  exact Int.ofNat_le.2 hsz
 | succ d ih =>
  intro i hi
  have wi : wrap64 ((i : Int) + 1) = ((i + 1 : Nat) : Int) := wrap_id _ (by omega) (by omega)
  have hlt : (i : Int) < ((m * fsz ch bi : Nat) : Int) := Int.ofNat_lt.2 (by omega)
  rw [show k + (d + 1) + 1 = (k + d + 1) + 1 from rfl, descanttop_TopSilence.l0, w0, if_pos hlt, Option.bind_some, byte_rep, if_pos (by rw [rep_size, rep_size]; omega), rep_add, wi]
  exact ih (i + 1) (by omega)
theorem up_nat (a : Int) (n : Nat) (hn : 1 ≤ n) (hb : n ≤ 1000) : ∃ x : Nat, 1 ≤ x ∧ x ≤ n ∧ wrap64 (1 + (wrap64 (Int.tmod (IntKind.u64.wrap a) (n : Int)))) = (x : Int) := by
 have h0 : 0 ≤ IntKind.u64.wrap a := Int.emod_nonneg _ (by decide)
 have h1 := Int.tmod_nonneg (n : Int) h0
 have h2 := Int.tmod_lt_of_pos (IntKind.u64.wrap a) (show (0 : Int) < (n : Int) by omega)
 obtain ⟨y, hy⟩ : ∃ y, Int.tmod (IntKind.u64.wrap a) (n : Int) = y := ⟨_, rfl⟩
 rw [hy] at h1 h2 ⊢
 rw [wrap_id y (by omega) (by omega), wrap_id _ (by omega) (by omega)]
 exact ⟨(1 + y).toNat, by omega, by omega, by omega⟩
theorem fmay_f (x y : Int) : ∃ t, descantref13_FormatMay.f x y = some t ∧ (t = true → ∃ ch bi : Nat, x = (ch : Int) ∧ y = (bi : Int) ∧ (ch = 1 ∨ ch = 2) ∧ (bi = 8 ∨ bi = 16)) := by
 by_cases h1 : x = 1
 ·subst h1
  refine ⟨if y = 8 then true else (y == 16), ?_, fun h => ?_⟩
  ·show (if y = 8 then some true else some (y == 16)) = _
   split <;> rfl
  ·refine ⟨1, y.toNat, rfl, ?_, .inl rfl, ?_⟩ <;> (split at h <;> first | omega | (rw [beq_iff_eq] at h; omega))
 ·by_cases h2 : x = 2
  ·subst h2
   refine ⟨if y = 8 then true else (y == 16), ?_, fun h => ?_⟩
   ·show (if y = 8 then some true else some (y == 16)) = _
    split <;> rfl
   ·refine ⟨2, y.toNat, rfl, ?_, .inr rfl, ?_⟩ <;> (split at h <;> first | omega | (rw [beq_iff_eq] at h; omega))
  ·refine ⟨false, ?_, fun h => by cases h⟩
   unfold descantref13_FormatMay.f descantref13_upTo.f
   by_cases h3 : x ≥ 1
   ·rw [if_pos h3, Option.bind_some, if_neg (by rw [decide_eq_true_iff]; omega)]
   ·rw [if_neg h3, Option.bind_some, if_neg (by decide)]
theorem TopSilence_pure (x y a1 a2 a3 : Int) : ∃ k, descanttop_TopSilence.f k x y a1 a2 a3 = some true := by
 obtain ⟨t, ht, hf⟩ := fmay_f x y
 cases t with
 | false =>
  refine ⟨0, ?_⟩
  unfold descanttop_TopSilence.f descanttop_awake.f
  rw [Option.bind_some, if_pos rfl, ht, Option.bind_some, if_neg (by decide)]
 | true =>
  obtain ⟨ch, bi, rfl, rfl, hc, hb⟩ := hf rfl
  obtain ⟨ks, k1, k2, hk⟩ := up_nat a2 64 (by decide) (by decide)
  obtain ⟨m, m1, m2, hm⟩ := up_nat a1 600 (by decide) (by decide)
  refine ⟨6000 + m * fsz ch bi + 1, ?_⟩
  unfold descanttop_TopSilence.f descanttop_awake.f
  rw [Option.bind_some, if_pos rfl, ht, Option.bind_some, if_pos rfl]
  rw [show wrap64 (1 + (wrap64 (Int.tmod (IntKind.u64.wrap (a2)) 64))) = (ks : Int) from hk, show wrap64 (1 + (wrap64 (Int.tmod (IntKind.u64.wrap (a1)) 600))) = (m : Int) from hm, frame_nat ch bi hc hb]
  exact si_loop 6000 ch bi ks m a3 (Nat.le_refl _) hc hb k1 k2 m1 m2 (m * fsz ch bi) 0 (by omega)
end Go.Proofs.YtfghldonnffldaaGreatDoor
namespace Go.Proofs.YtfghldonnffldaaGreatDoor
open Go.RowKit Go.Proofs.YtfghldonnffldaaGreatDoorW.PrintWords Go.Proofs.YtfghldonnffldaaGreatDoorW.PrintLast Go.Proofs.YtfghldonnffldaaGreatDoorW.PrintMore Go.Proofs.YtfghldonnffldaaGreatDoor.TBase
open Go.Proofs.YtfghldonnffldaaGreatDoor.MTopSilence
theorem topSilence_call (x y a1 a2 a3 : Int) (w : World) (hT : Tabs w) : Calls Tryz.prog 3 #[.agg #[.int .i64 x, .int .i64 y], .int .i64 a1, .int .i64 a2, .int .i64 a3] w fun e w' => e = .returned (.bool true) ∧ Below w.heap.size w w' := by
 obtain ⟨k, h⟩ := TopSilence_pure x y a1 a2 a3
 exact descanttop_TopSilence.calls k x y a1 a2 a3 true w h hT
end Go.Proofs.YtfghldonnffldaaGreatDoor
namespace Go.Proofs.YtfghldonnffldaaGreatDoor
open Go.RowKit Go.Proofs.YtfghldonnffldaaGreatDoorW.PrintWords Go.Proofs.YtfghldonnffldaaGreatDoorW.PrintLast Go.Proofs.YtfghldonnffldaaGreatDoorW.PrintMore Go.Proofs.YtfghldonnffldaaGreatDoor.TBase
open Go.RowKit
theorem gDeb : Tryz.prog.globalNamed "math/bits.deBruijn64tab" = some 2 := by kernel_rfl
theorem gDebT : (Tryz.prog.globals[2]?).map (·.type) = some 225 := by kernel_rfl
theorem gStr : Tryz.prog.globalNamed "descant/stretch.table" = some 3 := by kernel_rfl
theorem gStrT : (Tryz.prog.globals[3]?).map (·.type) = some 228 := by kernel_rfl
theorem cells225 : Tryz.prog.cellsOf 225 = 64 := by kernel_rfl
theorem cells228 : Tryz.prog.cellsOf 228 = 33 := by kernel_rfl
theorem cells5_ : Tryz.prog.cellsOf 5 = 1 := by kernel_rfl
theorem cells3_ : Tryz.prog.cellsOf 3 = 1 := by kernel_rfl
def laidL : List (String × DataW Unit) := [("math/bits.deBruijn32tab", Rows.laid_math_bits_deBruijn32tab), ("math/bits.deBruijn64tab", Rows.laid_math_bits_deBruijn64tab), ("descant/stretch.table", Rows.laid_descant_stretch_table)]
theorem laidTabs {W : World} (h0 : laidMetH Tryz.prog laidL W) : Tabs W := by
 have h : laidMet Tryz.prog laidL W := h0
 have h1 := laidMet.tail h
 have h2 := laidMet.tail h1
 have t1 : Lib.TabIs Tryz.prog W "math/bits.deBruijn64tab" .u8 Sq.deb := Lib.tabIs_of_head gDeb gDebT Tryz.underlying225 Tryz.underlying5 cells5_ cells225 h1
 have t2 : Lib.TabIs Tryz.prog W "descant/stretch.table" .i64 Sq.tab := Lib.tabIs_of_head gStr gStrT Tryz.underlying228 Tryz.underlying3 cells3_ cells228 h2
 exact ⟨fun j hj => t2.cell gStr j hj, fun j hj => t1.cell gDeb j hj⟩
def dataCells : DataW Unit → Array Value
 | .agg l => (l.map fun | .lit (.int k z) => Value.int k z | _ => Value.bool false).toArray
 | _ => #[]
def layCells (cs : Array Value) : Obj → Obj
 | .cells _ t frozen => .cells cs t frozen
 | o => o
noncomputable def laidWorld (os : Os) : World :=
 { World.holding Tryz.prog os ⟨#[], #[], []⟩ with heap := (((World.holding Tryz.prog os ⟨#[], #[], []⟩).heap.modify 1 (layCells (dataCells Rows.laid_math_bits_deBruijn32tab))).modify 2 (layCells (dataCells Rows.laid_math_bits_deBruijn64tab))).modify 3 (layCells (dataCells Rows.laid_descant_stretch_table)) }
end Go.Proofs.YtfghldonnffldaaGreatDoor
namespace Go.Proofs.YtfghldonnffldaaGreatDoor.topSilence
open Go.ChangeShapes Go.WideShapes Go.ChangeAt Go.RowKit Go.Joins
open Go.ChangeMaps (open_string shut_string)
theorem own : ownKnob Tryz.prog.godebug = none := by kernel_rfl
theorem laidOut : laidOutB Tryz.prog = true := by kernel_rfl
theorem two {α : Type} (l : List α) (h : l.length = 2) : ∃ a b, l = [a, b] := by
 rcases l with _ | ⟨a, _ | ⟨b, l⟩⟩ <;> simp at h
 subst h
 exact ⟨a, b, rfl⟩
theorem opened {H : Type} {enc : TypeId × Value → H} {W : World} {b0 b1 : Nat} {r : Reach} {spare : Nat → Bool} {held : Bool} {v : Value} {d : DataW H} {p : List MemPlace} (hv : Value.okWide Tryz.prog W r b0 23 v) (h : DataW.Trod enc Tryz.prog W b1 spare held 23 v d p) :
  ∃ (x y : Int), v = .agg #[.int .i64 x, .int .i64 y] := by
 obtain ⟨cs, rfl, hsz⟩ := okWide_struct Tryz.underlying23 hv
 have h5 : cs.toList.length = 2 := by rw [Array.length_toList]; exact hsz.trans (by kernel_rfl)
 obtain ⟨c0, c1, hl⟩ := two _ h5
 obtain ⟨fuel, hf⟩ := h
 obtain ⟨xs, n, _, _, _, hlen, hg⟩ := DataW.trod_struct Tryz.underlying23 hf
 obtain ⟨y0, y1, rfl⟩ := two xs hlen
 have k3 : Tryz.prog.cellsOf 3 = 1 := by kernel_rfl
 have g0 := hg 0 _ rfl
 have g1 := hg 1 _ rfl
 simp [Value.cells, hl, k3] at g0 g1
 obtain ⟨a0, e0, _, _⟩ := DataW.trod_int Tryz.underlying3 g0
 obtain ⟨a1, e1, _, _⟩ := DataW.trod_int Tryz.underlying3 g1
 simp at e0 e1
 subst e0 e1
 refine ⟨a0, a1, ?_⟩
 congr 1
 exact Array.ext' hl
theorem laid_met (os : Os) : laidMet Tryz.prog Rows.topSilenceRow.laid ((laidWorld os).forCall (fun _ _ => 0) ⟨#[], #[.agg #[.int .i64 0, .int .i64 0], .int .i64 0, .int .i64 0, .int .i64 0], []⟩).memory :=
 laidMet_of_run' 8 (by kernel_rfl) (by kernel_rfl)
theorem reads (os : Os) {H : Type} (enc : TypeId × Value → H) : ∃ dgp, DataW.whole enc Tryz.prog ((laidWorld os).forCall (fun _ _ => 0) ⟨#[], #[.agg #[.int .i64 0, .int .i64 0], .int .i64 0, .int .i64 0, .int .i64 0], []⟩).memory Tryz.f3.params.toList (OpenSpec.ofChange Rows.topSilenceSpec).vars false (#[.agg #[.int .i64 0, .int .i64 0], .int .i64 0, .int .i64 0, .int .i64 0] : Array Value).toList 8 = some ([.agg [.lit (.int .i64 0), .lit (.int .i64 0)], .lit (.int .i64 0), .lit (.int .i64 0), .lit (.int .i64 0)], [], dgp) :=
 ⟨[], by kernel_rfl⟩
theorem lifted (os : Os) (started : os.Started) (H : Type) (enc : TypeId × Value → H) (F : Stop.Interp) :
  ReturnsInHanded {} Tryz.checked os 3 .any ((OpenSpec.ofChange Rows.topSilenceSpec).preRow enc Tryz.prog Tryz.f3 Rows.topSilenceRow.domain false Rows.topSilenceRow.laid) (((OpenSpec.ofChange Rows.topSilenceSpec).at F).post enc Tryz.prog Tryz.f3 false true false false) := by
 obtain ⟨places, hx⟩ := reads os enc
 refine returnsInHanded_of_row (C := Tryz.checked) (s := OpenSpec.ofChange Rows.topSilenceSpec) own started (by kernel_rfl) Tryz.func3
  (witness_row_at (enc := enc) (C := Tryz.checked) false (laidWorld os) #[.agg #[.int .i64 0, .int .i64 0], .int .i64 0, .int .i64 0, .int .i64 0] rfl (by kernel_rfl) (by kernel_rfl) (by kernel_rfl)
   (OpenSpec.preRow_of_cond 8 hx (by kernel_rfl) (fun k hk => by cases hk) (by kernel_rfl) (laid_met os))) ?_
 intro W base args ds gs before hval0 hW hcnd _ hsz0 hL _ _
 have hsz : (DataW.weightsEach Tryz.prog (Tryz.f3.params.toList ++ Rows.topSilenceSpec.plain.varTypes Tryz.prog) (ds ++ gs)).all (· ≤ reachBytes) = true := hsz0
 have hval : ∀ (j : Nat) t v, Tryz.f3.params[j]? = some t → args[j]? = some v → Value.okWide Tryz.prog W .any base t v := hval0
 have hW' := hW
 obtain ⟨p, q, hA0, hV, rfl, hfz, hnd⟩ := hW
 have hA : DataW.TrodAll enc Tryz.prog W 0 (fun _ => true) true Tryz.f3.params.toList args.toList ds p := hA0
 rw [Tryz.params3] at hA hval hsz
 obtain ⟨v0, vs0, d0, ds0, p0, q0, hargs, rfl, rfl, h0, r0⟩ := trodAll_cons hA
 obtain ⟨v1, vs1, d1, ds1, p1, q1, rfl, rfl, rfl, h1, r1⟩ := trodAll_cons r0
 obtain ⟨v2, vs2, d2, ds2, p2, q2, rfl, rfl, rfl, h2, r2⟩ := trodAll_cons r1
 obtain ⟨v3, vs3, d3, ds3, p3, q3, rfl, rfl, rfl, h3, r3⟩ := trodAll_cons r2
 obtain ⟨rfl, rfl, rfl⟩ := trodAll_nil r3
 obtain rfl : args = #[v0, v1, v2, v3] := by cases args; simp_all
 obtain ⟨rfl, rfl⟩ := trodVars_none hV
 have k0 := h0
 have lt0 : ∀ x ∈ p0, x.block < W.heap.size := by obtain ⟨m, hm⟩ := k0; exact DataW.trod_lt m _ _ _ hm
 obtain ⟨x0, y0, ev0⟩ := opened (hval 0 23 v0 rfl rfl) h0
 subst ev0
 obtain ⟨a1, rfl, rfl, rfl, w1⟩ := open_int Tryz.underlying3 (hval 1 3 v1 rfl rfl) h1
 obtain ⟨a2, rfl, rfl, rfl, w2⟩ := open_int Tryz.underlying3 (hval 2 3 v2 rfl rfl) h2
 obtain ⟨a3, rfl, rfl, rfl, w3⟩ := open_int Tryz.underlying3 (hval 3 3 v3 rfl rfl) h3
 clear hA0 hval0 hsz0 hsz
 refine (topSilence_call x0 y0 a1 a2 a3 W (laidTabs hL)).mono fun e W' ⟨he, bel⟩ => ?_
 subst he
 exact ⟨_, rfl, _, _, _, [], _, [], hW', trodAll_mk1 (shut_bool Tryz.underlying4 _), (trodAll_cons_mk (Below.trod laidOut (by kernel_rfl) (of_decide_eq_true (by kernel_rfl)) k0 bel lt0) (trodAll_cons_mk (shut_int Tryz.underlying3 w1) (trodAll_cons_mk (shut_int Tryz.underlying3 w2) (trodAll_cons_mk (shut_int Tryz.underlying3 w3) trodAll_mk0)))), rfl, bel.frame _, fun h => by cases h⟩
theorem over : Rows.TopSilenceSaid :=
 OpenClaim.holds_of_cond 3 Tryz.f3 rfl rfl rfl rfl rfl rfl rfl ⟨rfl, rfl, rfl, rfl, rfl⟩ rfl rfl rfl rfl rfl (by kernel_rfl) Tryz.func3 (by kernel_rfl)
  (of_decide_eq_true (by kernel_rfl)) (by unfold Func.isWrapper; first | (rw [if_pos (by decide +kernel)]; kernel_rfl) | (rw [if_neg (by decide +kernel)]; exact ⟨rfl, rfl⟩))
  (fun os started H enc _ F => by rw [OpenClaim.pre_eq_preRow]; exact lifted os started H enc F)
theorem plain (f : FuncId) (fn : Func) (hf : Tryz.pinned.checked.prog.funcNamed "descant/descanttop.TopSilence" = some f) (hfn : Tryz.pinned.checked.prog.funcs[f]? = some fn) :
  false = Tryz.pinned.checked.prog.looks [] ∧ ∀ (j : Nat) t, fn.params[j]? = some t → Tryz.pinned.checked.prog.wantsStandIn t = false := by
 obtain rfl : f = 3 := Option.some.inj ((show Tryz.prog.funcNamed "descant/descanttop.TopSilence" = some 3 by kernel_rfl).symm.trans hf) |>.symm
 obtain rfl : fn = Tryz.f3 := (Option.some.inj (Tryz.func3.symm.trans hfn)).symm
 refine ⟨by kernel_rfl, fun j t ht => ?_⟩
 rw [Tryz.params3] at ht
 have hm := Array.mem_of_getElem? ht
 simp at hm
 rcases hm with rfl | rfl
 ·exact (show Tryz.prog.wantsStandIn 23 = false by kernel_rfl)
 ·exact (show Tryz.prog.wantsStandIn 3 = false by kernel_rfl)
theorem card : Rows.TopSilenceCardSaid :=
 Claim7.holds_tied_plain_at .later [] _ _ _ _ over (fun _ h => by cases h) (by kernel_rfl) (fun _ h => by cases h) topSilence_row_tie rfl ⟨rfl, rfl⟩ (by kernel_rfl) rfl plain (by kernel_rfl)
#print axioms card
end Go.Proofs.YtfghldonnffldaaGreatDoor.topSilence
namespace Go.Proofs.YtfghldonnffldaaGreatDoor
theorem topSilence_holds : Rows.TopSilenceCardSaid := topSilence.card
end Go.Proofs.YtfghldonnffldaaGreatDoor
