/- The document's CodeBit: what it answers. -/
import Derived.Test.YtpahbnahfhailaaBit
namespace Go.Proofs.Ytpahbnahfhailaa
open Go.RowKit Go.Proofs.YtpahbnahfhailaaW.PrintWords Go.Proofs.YtpahbnahfhailaaW.PrintLast Go.Proofs.YtpahbnahfhailaaW.PrintMore Go.Proofs.Ytpahbnahfhailaa.CBase

theorem ref_may_some (lo hi : Int) (out : ByteArray) : descantref1_CoderMay.f lo hi out = some (Cd.may lo hi out) := by
  unfold descantref1_CoderMay.f descantref1_between.f descantref1_word.f descantref1_upTo.f Cd.may
  by_cases h1 : 0 ≤ lo ∧ hi ≤ 4294967295 ∧ lo / 16777216 < hi / 16777216 ∧ out.size ≤ 65536
  · rw [decide_eq_true h1]
    obtain ⟨h1, h2, h3, h4⟩ := h1
    have h5 : lo ≤ 4294967295 := by omega
    have h6 : 0 ≤ hi := by omega
    have h7 : (out.size : Int) ≤ 65536 := by omega
    simp [h1, h2, h3, h5, h6, h7]
  · rw [decide_eq_false h1]
    by_cases a1 : lo ≥ 0
    · by_cases a2 : lo ≤ 4294967295
      · by_cases a3 : hi ≥ 0
        · by_cases a4 : hi ≤ 4294967295
          · by_cases a5 : hi / 16777216 > lo / 16777216
            · have a6 : ¬ (out.size : Int) ≤ 65536 := by omega
              simp [a1, a2, a3, a4, a5, a6]
            · simp [a1, a2, a3, a4, a5]
          · simp [a1, a2, a3, a4]
        · simp [a1, a2, a3]
      · simp [a1, a2]
    · simp [a1]
theorem ref_chance_some (p : Int) : descantref1_chance.f p = some (Cd.chance p) := by
  unfold descantref1_chance.f descantref1_upTo.f Cd.chance
  by_cases h : p ≥ 1
  · by_cases h2 : p ≤ 4095
    · simp [h, h2]
    · simp [h, h2]
  · simp [h]
theorem ref_bit_some (b : Int) : descantref1_bitMay.f b = some (decide (b = 0 ∨ b = 1)) := by
  unfold descantref1_bitMay.f
  by_cases h : b = 0
  · simp [h]
  · rw [if_neg h]
    congr 1
    rw [Bool.eq_iff_iff]
    simp [h]
theorem low_some (x : Int) : descantref1_Low.f 5 x 1 = some (strOfNums [x % 256]) := by
  simp [descantref1_Low.f, descantref1_Low.l0, shr, wrap64]
theorem low_calls (x : Int) (w : World) : Calls Try.prog 26 #[.int .i64 x, .int .i64 1] w fun e w' => e = .returned (.string (strOfNums [x % 256])) ∧ Below w.heap.size w w' :=
  descantref1_Low.calls 5 x 1 _ w (low_some x)
theorem and_up (x : Int) (h0 : 0 ≤ x) (h1 : x ≤ 4294967295) : Go.bits .and .i64 (wrap64 (x * 256)) 4294967295 = x * 256 % 4294967296 := by
  obtain ⟨n, rfl⟩ := Int.eq_ofNat_of_zero_le h0
  have hw : wrap64 ((n : Int) * 256) = ((n * 256 : Nat) : Int) := by unfold wrap64; omega
  have ha := and64 (n * 256) 4294967295 (by omega) (by omega)
  rw [Nat.and_two_pow_sub_one_eq_mod _ 32] at ha
  rw [hw]
  have ha' : Go.bits .and .i64 ((n * 256 : Nat) : Int) 4294967295 = ((n * 256 % 2 ^ 32 : Nat) : Int) := ha
  rw [ha']
  omega
theorem or_up (x : Int) (h0 : 0 ≤ x) (h1 : x ≤ 4294967295) : Go.bits .or .i64 (x * 256 % 4294967296) 255 = x * 256 % 4294967296 + 255 := by
  have h := up_hi x h0 h1
  rwa [and_up x h0 h1] at h
set_option maxHeartbeats 2000000 in
theorem ref_one (lo hi : Int) (out : ByteArray) (p : Int) (w : World) (hm : Cd.may lo hi out = true) (hp : Cd.chance p = true) (m : Int) (hmid : descantref1_middle.f lo hi p = some m) (hm0 : lo ≤ m) (hm1 : m < hi) :
    Calls Try.prog 10 #[.agg #[.int .i64 lo, .int .i64 hi, .string out], .int .i64 1, .int .i64 p] w fun e w' => e = .returned (resV (Cd.fin (Cd.sh 4 lo m out))) ∧ Below w.heap.size w w' := by
  have hu23 := Try.underlying23
  have HM := Lib.hid (ref_may_some lo hi out)
  rw [hm] at HM
  have HC := Lib.hid (ref_chance_some p)
  rw [hp] at HC
  have HD := Lib.hid hmid
  have HB : 0 ≤ lo ∧ hi ≤ 4294967295 ∧ out.size ≤ 65536 := by
    have := of_decide_eq_true hm
    exact ⟨this.1, this.2.1, this.2.2.2⟩
  clear hm hp hmid
  obtain ⟨hl0, hh0, ho0⟩ := HB
  go_enter Try.func10, Try.ntmps10
  go_wp2_with (first
    | (go_at_call 15; refine (descantref1_CoderMay.calls lo hi out _ _ HM.out).mono ?_; rintro e w1 ⟨rfl, hb⟩; obtain ⟨hc, hf⟩ := bcell hb)
    | (go_at_call 23; refine (descantref1_bitMay.calls 1 true _ (ref_bit_some _)).mono ?_; rintro e w2 ⟨rfl, ⟨nb, rfl⟩⟩)
    | (go_at_call 24; refine (descantref1_chance.calls p _ _ HC.out).mono ?_; rintro e w2 ⟨rfl, ⟨nc, rfl⟩⟩)
    | (go_at_call 25; refine (descantref1_middle.calls lo hi p m _ HD.out).mono ?_; rintro e w3 ⟨rfl, ⟨nd, rfl⟩⟩))
  have hg3 := hb.block w.heap.size (by simp; omega)
  rw [heap_alloc2_old] at hg3
  have hg6 := hb.block (w.heap.size + 1) (by simp)
  rw [heap_alloc2_new] at hg6
  have hgb : Below w.heap.size w ((w1.drewN (nb + nc + nd)).setCell ⟨w.heap.size, 1, none⟩ (.int .i64 m)) := below_set (pw_below_drewN (below_two hb) (nb + nc + nd)) (Nat.le_refl _)
  have A3 : Aside0 (((w1.drewN (nb + nc + nd)).setCell ⟨w.heap.size, 1, none⟩ (.int .i64 m)).heap[w.heap.size]? = some (box lo m out)) := ⟨blk_put (blk_drewN hg3 (nb + nc + nd)) 1 _ rfl⟩
  have A6 : Aside0 (((w1.drewN (nb + nc + nd)).setCell ⟨w.heap.size, 1, none⟩ (.int .i64 m)).heap[w.heap.size + 1]? = some (box 0 0 ⟨#[]⟩)) := ⟨blk_far (blk_drewN hg6 (nb + nc + nd)) (p := ⟨w.heap.size, 1, none⟩) (by simp) _⟩
  have AB := Aside0.mk hgb
  have hrs : Cd.Inv 4 lo m := Cd.Inv.start (by omega) (by omega) (by omega) (by omega)
  have AI := Aside0.mk hrs
  clear hg3 hg6 hgb hrs hc hf hb
  generalize ((w1.drewN (nb + nc + nd)).setCell ⟨w.heap.size, 1, none⟩ (.int .i64 m)) = wx at A3 A6 AB ⊢
  go_loopg [] 4 (fun d wr => ∃ (l h : Int) (o : ByteArray), Aside0 (Cd.Inv d l h) ∧ Aside0 (Cd.sh d l h o = Cd.sh 4 lo m out) ∧ Aside0 (o.size + d ≤ 65540) ∧ Aside0 (wr.heap[w.heap.size]? = some (box l h o)) ∧ Aside0 (wr.heap[w.heap.size + 1]? = some (box 0 0 ⟨#[]⟩)) ∧ Aside0 (Below w.heap.size w wr))
  case atStart => exact ⟨lo, m, out, AI, ⟨rfl⟩, ⟨by omega⟩, A3, A6, AB⟩
  case round =>
    clear A3 A6 AB AI
    obtain ⟨l, h, o, AI, AS, AO, A3, A6, AB⟩ := hrel
    have c0 : wr.cell? ⟨w.heap.size, 0, none⟩ = some (.int .i64 l) := blk_cell A3.out 0
    have c1 : wr.cell? ⟨w.heap.size, 1, none⟩ = some (.int .i64 h) := blk_cell A3.out 1
    have c2 : wr.cell? ⟨w.heap.size, 2, none⟩ = some (.string o) := blk_cell A3.out 2
    have l3 := blk_lt A3.out
    have l6 := blk_lt A6.out
    have f0 := blk_frozen A3.out 0
    have f1 := blk_frozen A3.out 1
    have f2 := blk_frozen A3.out 2
    by_cases hgone : l / 16777216 = h / 16777216
    · cases gk with
      | zero => exact absurd hgone AI.out.zero
      | succ d =>
        have heq : (l / 16777216 == h / 16777216) = true := beq_iff_eq.2 hgone
        have AN := Aside0.mk (AI.out.next hgone)
        have AG := Aside0.mk hgone
        have hz : (strOfNums [l / 16777216 % 256]).size = 1 := strOfNums_size _
        have hos := AO.out
        have hul := and_up l AI.out.2.1 AI.out.2.2.1
        have hur := and_up h AI.out.2.2.2.1 AI.out.2.2.2.2.1
        have hor := or_up h AI.out.2.2.2.1 AI.out.2.2.2.2.1
        clear hgone
        go_wp2
        go_region_with (go_at_call 26; refine (low_calls _ _).mono ?_; rintro e w2 ⟨rfl, hb2⟩; have Y3 := Aside0.mk (blk_below (blk_drew A3.out) hb2); have Y6 := Aside0.mk (blk_below (blk_drew A6.out) hb2); have YB := Aside0.mk (below_step (below_drew1 AB.out) hb2); have e0 : w2.cell? ⟨w.heap.size, 0, none⟩ = some (.int .i64 l) := blk_cell Y3.out 0; have e1 : w2.cell? ⟨w.heap.size, 1, none⟩ = some (.int .i64 h) := blk_cell Y3.out 1; have e2 : w2.cell? ⟨w.heap.size, 2, none⟩ = some (.string o) := blk_cell Y3.out 2; have g0 := blk_frozen Y3.out 0; have g1 := blk_frozen Y3.out 1; have g2 := blk_frozen Y3.out 2; clear hb2)
        all_goals
          have hne : w.heap.size + 1 ≠ w.heap.size := by omega
          have hle := Nat.le_refl w.heap.size
          go_wp2
          go_roundg d
          case measure => omega
          case rel =>
            refine ⟨l * 256 % 4294967296, h * 256 % 4294967296 + 255, o ++ strOfNums [l / 16777216 % 256], AN, ⟨?_⟩, ⟨?_⟩, ⟨?_⟩, ⟨?_⟩, ⟨?_⟩⟩
            · have := AS.out
              simp only [Cd.sh] at this
              rw [if_pos AG.out] at this
              exact this
            · rw [ByteArray.size_append, hz]; omega
            · exact blk_set (blk_set (blk_set Y3.out 2 _) 0 _) 1 _
            · exact blk_far (p := ⟨w.heap.size, _, none⟩) (blk_far (p := ⟨w.heap.size, _, none⟩) (blk_far (p := ⟨w.heap.size, _, none⟩) Y6.out hne _) hne _) hne _
            · exact below_set (below_set (below_set YB.out hle) hle) hle
    · have hne : (l / 16777216 == h / 16777216) = false := beq_eq_false_iff_ne.2 hgone
      have AE := AS.out
      rw [AI.out.stop o hgone] at AE
      clear hgone
      by_cases hs : o.size ≤ 65536
      · have hfin : Cd.fin (Cd.sh 4 lo m out) = (l, h, o, 0) := by rw [← AE]; unfold Cd.fin; rw [if_pos hs]
        have HF := Lib.hid hfin
        have hs' : ¬ 65536 < o.size := by omega
        clear AE hfin
        have f6 := blk_frozen A6.out
        have d0 : wr.cell? ⟨w.heap.size + 1, 0, none⟩ = some (.int .i64 0) := blk_cell A6.out 0
        have d1 : wr.cell? ⟨w.heap.size + 1, 1, none⟩ = some (.int .i64 0) := blk_cell A6.out 1
        have d2 : wr.cell? ⟨w.heap.size + 1, 2, none⟩ = some (.string ⟨#[]⟩) := blk_cell A6.out 2
        go_wp2
        refine bodyPost_ret (results_ct rfl _ _ (w.heap.size + 1) 23 #[.int .i64 l, .int .i64 h, .string o] (0, 0) _ rfl (blk_set (blk_set (blk_set A6.out 0 _) 1 _) 2 _) Try.underlying23 rfl info23) rfl ⟨by rw [HF.out]; rfl, ?_⟩
        exact below_set (below_set (below_set AB.out (by omega)) (by omega)) (by omega)
      · have hfin : Cd.fin (Cd.sh 4 lo m out) = (0, 0, ⟨#[]⟩, 400) := by rw [← AE]; unfold Cd.fin; rw [if_neg hs]
        have HF := Lib.hid hfin
        have hs' : 65536 < o.size := by omega
        clear AE hfin
        have f6 := blk_frozen A6.out
        have d0 : wr.cell? ⟨w.heap.size + 1, 0, none⟩ = some (.int .i64 0) := blk_cell A6.out 0
        have d1 : wr.cell? ⟨w.heap.size + 1, 1, none⟩ = some (.int .i64 0) := blk_cell A6.out 1
        have d2 : wr.cell? ⟨w.heap.size + 1, 2, none⟩ = some (.string ⟨#[]⟩) := blk_cell A6.out 2
        go_wp2
        refine bodyPost_ret (results_ct rfl _ _ (w.heap.size + 1) 23 #[.int .i64 0, .int .i64 0, .string ⟨#[]⟩] (0, 0) _ rfl (blk_set (blk_set (blk_set A6.out 0 _) 1 _) 2 _) Try.underlying23 rfl info23) rfl ⟨by rw [HF.out]; rfl, ?_⟩
        exact below_set (below_set (below_set AB.out (by omega)) (by omega)) (by omega)
end Go.Proofs.Ytpahbnahfhailaa
