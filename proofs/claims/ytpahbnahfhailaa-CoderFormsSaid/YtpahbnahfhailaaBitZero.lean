/- coder.Bit at a bit 0. -/
import Derived.Test.YtpahbnahfhailaaBit
namespace Go.Proofs.Ytpahbnahfhailaa
open Go.RowKit Go.Proofs.YtpahbnahfhailaaW.PrintWords Go.Proofs.YtpahbnahfhailaaW.PrintLast Go.Proofs.YtpahbnahfhailaaW.PrintMore Go.Proofs.Ytpahbnahfhailaa.CBase

set_option maxHeartbeats 2000000 in
theorem bit_zero (lo hi : Int) (out : ByteArray) (p : Int) (w : World) (hm : Cd.may lo hi out = true) (hp : Cd.chance p = true) (m : Int) (hmid : coder_Middle.f lo hi p = some m) (hm0 : lo ≤ m) (hm1 : m < hi) :
    Calls Try.prog 9 #[.agg #[.int .i64 lo, .int .i64 hi, .string out], .int .i64 0, .int .i64 p] w fun e w' => e = .returned (resV (Cd.fin (Cd.sh 4 (m + 1) hi out))) ∧ Below w.heap.size w w' := by
  have hu23 := Try.underlying23
  have HM := Lib.hid (may_some lo hi out)
  rw [hm] at HM
  have HC := Lib.hid (chance_some p)
  rw [hp] at HC
  have HD := Lib.hid hmid
  have HB : 0 ≤ lo ∧ hi ≤ 4294967295 ∧ out.size ≤ 65536 := by
    have := of_decide_eq_true hm
    exact ⟨this.1, this.2.1, this.2.2.2⟩
  clear hm hp hmid
  obtain ⟨hl0, hh0, ho0⟩ := HB
  go_enter Try.func9, Try.ntmps9
  go_wp2_with (first
    | (go_at_call 14; refine (coder_May.calls lo hi out _ _ HM.out).mono ?_; rintro e w1 ⟨rfl, hb⟩; obtain ⟨hc, hf⟩ := bcell hb)
    | (go_at_call 19; refine (chance_calls p _ _ HC.out).mono ?_; rintro e w2 ⟨rfl, rfl⟩)
    | (go_at_call 20; refine (coder_Middle.calls lo hi p m _ HD.out).mono ?_; rintro e w3 ⟨rfl, ⟨nd, rfl⟩⟩))
  have hg3 := hb.block w.heap.size (by simp; omega)
  rw [heap_alloc2_old] at hg3
  have hg6 := hb.block (w.heap.size + 1) (by simp)
  rw [heap_alloc2_new] at hg6
  have hgb : Below w.heap.size w ((w1.drewN nd).setCell ⟨w.heap.size, 0, none⟩ (.int .i64 (m + 1))) := below_set (pw_below_drewN (below_two hb) nd) (Nat.le_refl _)
  have A3 : Aside0 (((w1.drewN nd).setCell ⟨w.heap.size, 0, none⟩ (.int .i64 (m + 1))).heap[w.heap.size]? = some (box (m + 1) hi out)) := ⟨blk_put (blk_drewN hg3 nd) 0 _ rfl⟩
  have A6 : Aside0 (((w1.drewN nd).setCell ⟨w.heap.size, 0, none⟩ (.int .i64 (m + 1))).heap[w.heap.size + 1]? = some (box 0 0 ⟨#[]⟩)) := ⟨blk_far (blk_drewN hg6 nd) (p := ⟨w.heap.size, 0, none⟩) (by simp) _⟩
  have AB := Aside0.mk hgb
  have hrs : Cd.Inv 4 (m + 1) hi := Cd.Inv.start (by omega) (by omega) (by omega) (by omega)
  have AI := Aside0.mk hrs
  clear hg3 hg6 hgb hrs hc hf hb
  generalize ((w1.drewN nd).setCell ⟨w.heap.size, 0, none⟩ (.int .i64 (m + 1))) = wx at A3 A6 AB ⊢
  go_loopg [] 4 (fun d wr => ∃ (l h : Int) (o : ByteArray), Aside0 (Cd.Inv d l h) ∧ Aside0 (Cd.sh d l h o = Cd.sh 4 (m + 1) hi out) ∧ Aside0 (o.size + d ≤ 65540) ∧ Aside0 (wr.heap[w.heap.size]? = some (box l h o)) ∧ Aside0 (wr.heap[w.heap.size + 1]? = some (box 0 0 ⟨#[]⟩)) ∧ Aside0 (Below w.heap.size w wr))
  case atStart => exact ⟨m + 1, hi, out, AI, ⟨rfl⟩, ⟨by omega⟩, A3, A6, AB⟩
  case round =>
    clear A3 A6 AB AI
    obtain ⟨l, h, o, AI, AS, AO, A3, A6, AB⟩ := hrel
    have c0 : wr.cell? ⟨w.heap.size, 0, none⟩ = some (.int .i64 l) := blk_cell A3.out 0
    have c1 : wr.cell? ⟨w.heap.size, 1, none⟩ = some (.int .i64 h) := blk_cell A3.out 1
    have c2 : wr.cell? ⟨w.heap.size, 2, none⟩ = some (.string o) := blk_cell A3.out 2
    have l3 := blk_lt A3.out
    have l6 := blk_lt A6.out
    have f0 := blk_frozen A3.out 0
    have f1 := blk_frozen A3.out 1
    have f2 := blk_frozen A3.out 2
    by_cases hgone : l / 16777216 = h / 16777216
    · cases gk with
      | zero => exact absurd hgone AI.out.zero
      | succ d =>
        have heq : (l / 16777216 == h / 16777216) = true := beq_iff_eq.2 hgone
        have AN := Aside0.mk (AI.out.next hgone)
        have AG := Aside0.mk hgone
        have hcv := conv_one
        have hz : (strOfNums [l / 16777216 % 256]).size = 1 := strOfNums_size _
        have hos := AO.out
        clear hgone
        go_wp2_with (first | (go_at_call 21; refine (gone_calls l h _).mono ?_; rintro e w2 ⟨rfl, rfl⟩))
        have hul := up_lo l AI.out.2.1 AI.out.2.2.1
        have hur := up_hi h AI.out.2.2.2.1 AI.out.2.2.2.2.1
        go_region_with (go_at_call 22; refine (up_calls _ _ _).mono ?_; rintro e w2 ⟨rfl, rfl⟩)
        all_goals
          go_wp2
          go_roundg d
          case measure => omega
          case rel =>
            have hne : w.heap.size + 1 ≠ w.heap.size := by omega
            have hle := Nat.le_refl w.heap.size
            refine ⟨l * 256 % 4294967296, h * 256 % 4294967296 + 255, o ++ strOfNums [l / 16777216 % 256], AN, ⟨?_⟩, ⟨?_⟩, ⟨?_⟩, ⟨?_⟩, ⟨?_⟩⟩
            · have := AS.out
              simp only [Cd.sh] at this
              rw [if_pos AG.out] at this
              exact this
            · rw [ByteArray.size_append, hz]; omega
            · refine blk_drew (blk_alloc ?_ _)
              first | exact blk_set (blk_set (blk_set A3.out 2 _) 0 _) 1 _ | exact blk_set (blk_set (blk_set A3.out 2 _) 1 _) 0 _
            · exact blk_drew (blk_alloc (blk_far (p := ⟨w.heap.size, _, none⟩) (blk_far (p := ⟨w.heap.size, _, none⟩) (blk_far (p := ⟨w.heap.size, _, none⟩) A6.out hne _) hne _) hne _) _)
            · exact below_drew1 (below_alloc (below_set (below_set (below_set AB.out hle) hle) hle) _)
    · have hne : (l / 16777216 == h / 16777216) = false := beq_eq_false_iff_ne.2 hgone
      have AE := AS.out
      rw [AI.out.stop o hgone] at AE
      clear hgone
      by_cases hs : o.size ≤ 65536
      · have hfin : Cd.fin (Cd.sh 4 (m + 1) hi out) = (l, h, o, 0) := by rw [← AE]; unfold Cd.fin; rw [if_pos hs]
        have HF := Lib.hid hfin
        have hs' : ¬ 65536 < o.size := by omega
        clear AE hfin
        have f6 := blk_frozen A6.out
        have d0 : wr.cell? ⟨w.heap.size + 1, 0, none⟩ = some (.int .i64 0) := blk_cell A6.out 0
        have d1 : wr.cell? ⟨w.heap.size + 1, 1, none⟩ = some (.int .i64 0) := blk_cell A6.out 1
        have d2 : wr.cell? ⟨w.heap.size + 1, 2, none⟩ = some (.string ⟨#[]⟩) := blk_cell A6.out 2
        go_wp2_with (first | (go_at_call 21; refine (gone_calls l h _).mono ?_; rintro e w2 ⟨rfl, rfl⟩))
        refine bodyPost_ret (results_ct rfl _ _ (w.heap.size + 1) 23 #[.int .i64 l, .int .i64 h, .string o] (0, 0) _ rfl (blk_set (blk_set (blk_set A6.out 0 _) 1 _) 2 _) Try.underlying23 rfl info23) rfl ⟨by rw [HF.out]; rfl, ?_⟩
        exact below_set (below_set (below_set AB.out (by omega)) (by omega)) (by omega)
      · have hfin : Cd.fin (Cd.sh 4 (m + 1) hi out) = (0, 0, ⟨#[]⟩, 400) := by rw [← AE]; unfold Cd.fin; rw [if_neg hs]
        have HF := Lib.hid hfin
        have hs' : 65536 < o.size := by omega
        clear AE hfin
        have f6 := blk_frozen A6.out
        have d0 : wr.cell? ⟨w.heap.size + 1, 0, none⟩ = some (.int .i64 0) := blk_cell A6.out 0
        have d1 : wr.cell? ⟨w.heap.size + 1, 1, none⟩ = some (.int .i64 0) := blk_cell A6.out 1
        have d2 : wr.cell? ⟨w.heap.size + 1, 2, none⟩ = some (.string ⟨#[]⟩) := blk_cell A6.out 2
        go_wp2_with (first | (go_at_call 21; refine (gone_calls l h _).mono ?_; rintro e w2 ⟨rfl, rfl⟩))
        refine bodyPost_ret (results_ct rfl _ _ (w.heap.size + 1) 23 #[.int .i64 0, .int .i64 0, .string ⟨#[]⟩] (0, 0) _ rfl (blk_set (blk_set (blk_set A6.out 0 _) 1 _) 2 _) Try.underlying23 rfl info23) rfl ⟨by rw [HF.out]; rfl, ?_⟩
        exact below_set (below_set (below_set AB.out (by omega)) (by omega)) (by omega)
end Go.Proofs.Ytpahbnahfhailaa
