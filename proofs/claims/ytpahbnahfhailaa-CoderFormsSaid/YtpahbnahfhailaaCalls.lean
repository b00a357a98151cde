/- coder.Bit and the document's CodeBit: one contract each, at every coder, bit and chance. -/
import Derived.Test.YtpahbnahfhailaaBitZero
import Derived.Test.YtpahbnahfhailaaRefZero
namespace Go.Proofs.Ytpahbnahfhailaa
open Go.RowKit Go.Proofs.YtpahbnahfhailaaW.PrintWords Go.Proofs.YtpahbnahfhailaaW.PrintLast Go.Proofs.YtpahbnahfhailaaW.PrintMore Go.Proofs.Ytpahbnahfhailaa.CBase

set_option maxHeartbeats 1000000 in
/-- A coder that may not be, or a bit, or a chance. -/
theorem ref_no (lo hi : Int) (out : ByteArray) (b p : Int) (w : World) (hbad : Cd.may lo hi out = false ∨ (b < 0 ∨ b > 1) ∨ Cd.chance p = false) :
    Calls Try.prog 10 #[.agg #[.int .i64 lo, .int .i64 hi, .string out], .int .i64 b, .int .i64 p] w fun e w' => e = .returned badV ∧ Below w.heap.size w w' := by
  have hu23 := Try.underlying23
  have HM := Lib.hid (ref_may_some lo hi out)
  have HC := Lib.hid (ref_chance_some p)
  have HT := Lib.hid (ref_bit_some b)
  cases hm : Cd.may lo hi out with
  | false =>
    rw [hm] at HM
    clear hm hbad HC HT
    go_enter Try.func10, Try.ntmps10
    go_wp2_with (first
      | (go_at_call 15; refine (descantref1_CoderMay.calls lo hi out _ _ HM.out).mono ?_; rintro e w1 ⟨rfl, hb⟩; obtain ⟨hc, hf⟩ := bcell hb))
    have hg := hb.block (w.heap.size + 1) (by simp)
    rw [heap_alloc2_new] at hg
    refine bodyPost_ret (results_ct rfl _ _ (w.heap.size + 1) 23 #[.int .i64 0, .int .i64 0, .string ⟨#[]⟩] (0, 0) _ rfl (blk_put (blk_put (blk_put (hg) 0 _ rfl) 1 _ rfl) 2 _ rfl) Try.underlying23 rfl info23) rfl ⟨rfl, ?_⟩
    exact below_set (below_set (below_set (below_two hb) (by omega)) (by omega)) (by omega)
  | true =>
    have hbad' : (b < 0 ∨ b > 1) ∨ Cd.chance p = false := hbad.resolve_left (by rw [hm]; decide)
    rw [hm] at HM
    clear hm hbad
    by_cases hbit : b = 0 ∨ b = 1
    · rw [decide_eq_true hbit] at HT
      have hch : Cd.chance p = false := hbad'.resolve_left (by omega)
      rw [hch] at HC
      clear hbad' hbit hch
      go_enter Try.func10, Try.ntmps10
      go_wp2_with (first
        | (go_at_call 15; refine (descantref1_CoderMay.calls lo hi out _ _ HM.out).mono ?_; rintro e w1 ⟨rfl, hb⟩; obtain ⟨hc, hf⟩ := bcell hb)
        | (go_at_call 23; refine (descantref1_bitMay.calls b _ _ HT.out).mono ?_; rintro e w2 ⟨rfl, ⟨nb, rfl⟩⟩)
        | (go_at_call 24; refine (descantref1_chance.calls p _ _ HC.out).mono ?_; rintro e w2 ⟨rfl, ⟨nc, rfl⟩⟩))
      have hg := hb.block (w.heap.size + 1) (by simp)
      rw [heap_alloc2_new] at hg
      refine bodyPost_ret (results_ct rfl _ _ (w.heap.size + 1) 23 #[.int .i64 0, .int .i64 0, .string ⟨#[]⟩] (0, 0) _ rfl (blk_put (blk_put (blk_put (blk_drewN hg _) 0 _ rfl) 1 _ rfl) 2 _ rfl) Try.underlying23 rfl info23) rfl ⟨rfl, ?_⟩
      exact below_set (below_set (below_set (pw_below_drewN (below_two hb) _) (by omega)) (by omega)) (by omega)
    · rw [decide_eq_false hbit] at HT
      clear hbad' hbit HC
      go_enter Try.func10, Try.ntmps10
      go_wp2_with (first
        | (go_at_call 15; refine (descantref1_CoderMay.calls lo hi out _ _ HM.out).mono ?_; rintro e w1 ⟨rfl, hb⟩; obtain ⟨hc, hf⟩ := bcell hb)
        | (go_at_call 23; refine (descantref1_bitMay.calls b _ _ HT.out).mono ?_; rintro e w2 ⟨rfl, ⟨nb, rfl⟩⟩))
      have hg := hb.block (w.heap.size + 1) (by simp)
      rw [heap_alloc2_new] at hg
      refine bodyPost_ret (results_ct rfl _ _ (w.heap.size + 1) 23 #[.int .i64 0, .int .i64 0, .string ⟨#[]⟩] (0, 0) _ rfl (blk_put (blk_put (blk_put (blk_drewN hg _) 0 _ rfl) 1 _ rfl) 2 _ rfl) Try.underlying23 rfl info23) rfl ⟨rfl, ?_⟩
      exact below_set (below_set (below_set (pw_below_drewN (below_two hb) _) (by omega)) (by omega)) (by omega)

/-! ### The contracts -/
theorem middle_same (lo hi p : Int) : descantref1_middle.f lo hi p = coder_Middle.f lo hi p := rfl
theorem middle_some (lo hi p : Int) (h0 : 0 ≤ lo) (h : lo < hi) (h2 : hi ≤ 4294967295) (hp : 1 ≤ p) (hp2 : p ≤ 4095) : coder_Middle.f lo hi p = some (Cd.mid lo hi p) := by
  have hx := Cd.mid_parts h0 h h2 (by omega) hp2
  have hy := Cd.mid_hi h (by omega) hp2
  have hz := Cd.mid_lo (Int.le_of_lt h) (show 0 ≤ p by omega)
  unfold coder_Middle.f
  have w64 : ∀ {x : Int}, -9223372036854775808 ≤ x → x ≤ 9223372036854775807 → wrap64 x = x := by
    intro x a b
    unfold wrap64
    omega
  have e1 : wrap64 (hi - lo) = hi - lo := w64 (by omega) (by omega)
  have e2 : Int.tdiv (hi - lo) 4096 = (hi - lo) / 4096 := Int.tdiv_eq_ediv_of_nonneg (by omega)
  have e3 : Int.tmod (hi - lo) 4096 = (hi - lo) % 4096 := Int.tmod_eq_emod_of_nonneg (by omega)
  have e4 : wrap64 ((hi - lo) / 4096) = (hi - lo) / 4096 := w64 (by omega) (by omega)
  rw [e1, e2, e3, e4]
  clear e1 e2 e3 e4
  unfold Cd.mid at hy hz ⊢
  generalize (hi - lo) / 4096 * p = X at *
  generalize (hi - lo) % 4096 * p = Y at *
  have e5 : Int.tdiv Y 4096 = Y / 4096 := Int.tdiv_eq_ediv_of_nonneg (by omega)
  rw [w64 (x := X) (by omega) (by omega), w64 (x := Y) (by omega) (by omega), e5, w64 (x := lo + X) (by omega) (by omega), w64 (x := Y / 4096) (by omega) (by omega), w64 (by omega) (by omega)]
theorem bit_dec (lo hi : Int) (out : ByteArray) (b p : Int) :
    (Cd.may lo hi out = true ∧ Cd.chance p = true ∧ (b = 1 ∨ b = 0) ∧ Cd.bit lo hi out b p = Cd.fin (if b = 1 then Cd.sh 4 lo (Cd.mid lo hi p) out else Cd.sh 4 (Cd.mid lo hi p + 1) hi out) ∧ coder_Middle.f lo hi p = some (Cd.mid lo hi p) ∧ lo ≤ Cd.mid lo hi p ∧ Cd.mid lo hi p < hi) ∨
    ((Cd.may lo hi out = false ∨ (b < 0 ∨ b > 1) ∨ Cd.chance p = false) ∧ Cd.bit lo hi out b p = (0, 0, ⟨#[]⟩, 400)) := by
  by_cases h : Cd.may lo hi out = true ∧ (b = 0 ∨ b = 1) ∧ Cd.chance p = true
  · obtain ⟨h1, h2, h3⟩ := h
    have hm := of_decide_eq_true h1
    have hc := of_decide_eq_true h3
    refine .inl ⟨h1, h3, h2.symm, ?_, middle_some lo hi p hm.1 (by omega) hm.2.1 hc.1 hc.2, Cd.mid_lo (by omega) (by omega), Cd.mid_hi (by omega) (by omega) hc.2⟩
    unfold Cd.bit
    rw [if_pos ⟨h1, h2, h3⟩]
  · refine .inr ⟨?_, by unfold Cd.bit; rw [if_neg h]; rfl⟩
    by_cases h1 : Cd.may lo hi out = true
    · by_cases h3 : Cd.chance p = true
      · have : ¬ (b = 0 ∨ b = 1) := fun h2 => h ⟨h1, h2, h3⟩
        exact .inr (.inl (by omega))
      · exact .inr (.inr (by simpa using h3))
    · exact .inl (by simpa using h1)
def coder_Bit.f (a0_0 a0_1 : Int) (a0_2 : ByteArray) (a1 a2 : Int) : Option (Int × Int × ByteArray × Int) := some (Cd.bit a0_0 a0_1 a0_2 a1 a2)
theorem coder_Bit.calls (a0_0 : Int) (a0_1 : Int) (a0_2 : ByteArray) (a1 : Int) (a2 : Int) (r1 : Int) (r2 : Int) (r3 : ByteArray) (r4 : Int) (w : World) (h : coder_Bit.f a0_0 a0_1 a0_2 a1 a2 = some (r1, r2, r3, r4)) :
    Calls Try.prog 9 #[.agg #[.int .i64 a0_0, .int .i64 a0_1, .string a0_2], .int .i64 a1, .int .i64 a2] w fun e w' => e = .returned (.tuple #[.agg #[.int .i64 r1, .int .i64 r2, .string r3], .int .i64 r4]) ∧ Below w.heap.size w w' := by
  have h := Option.some.inj h
  rcases bit_dec a0_0 a0_1 a0_2 a1 a2 with ⟨h1, h3, h2, he, hmid, hlo, hhi⟩ | ⟨hbad, he⟩
  · rw [he] at h
    rcases h2 with rfl | rfl
    · rw [if_pos rfl] at h
      refine (bit_one a0_0 a0_1 a0_2 a2 w h1 h3 _ hmid hlo hhi).mono fun e w' hh => ?_
      rw [h] at hh
      exact hh
    · rw [if_neg (by decide)] at h
      refine (bit_zero a0_0 a0_1 a0_2 a2 w h1 h3 _ hmid hlo hhi).mono fun e w' hh => ?_
      rw [h] at hh
      exact hh
  · rw [he] at h
    injection h with h1 h
    injection h with h2 h
    injection h with h3 h4
    subst h1 h2 h3 h4
    exact bit_no a0_0 a0_1 a0_2 a1 a2 w hbad
def descantref1_CodeBit.f (a0_0 a0_1 : Int) (a0_2 : ByteArray) (a1 a2 : Int) : Option (Int × Int × ByteArray × Int) := some (Cd.bit a0_0 a0_1 a0_2 a1 a2)
theorem descantref1_CodeBit.calls (a0_0 : Int) (a0_1 : Int) (a0_2 : ByteArray) (a1 : Int) (a2 : Int) (r1 : Int) (r2 : Int) (r3 : ByteArray) (r4 : Int) (w : World) (h : descantref1_CodeBit.f a0_0 a0_1 a0_2 a1 a2 = some (r1, r2, r3, r4)) :
    Calls Try.prog 10 #[.agg #[.int .i64 a0_0, .int .i64 a0_1, .string a0_2], .int .i64 a1, .int .i64 a2] w fun e w' => e = .returned (.tuple #[.agg #[.int .i64 r1, .int .i64 r2, .string r3], .int .i64 r4]) ∧ Below w.heap.size w w' := by
  have h := Option.some.inj h
  rcases bit_dec a0_0 a0_1 a0_2 a1 a2 with ⟨h1, h3, h2, he, hmid, hlo, hhi⟩ | ⟨hbad, he⟩
  · rw [he] at h
    rcases h2 with rfl | rfl
    · rw [if_pos rfl] at h
      refine (ref_one a0_0 a0_1 a0_2 a2 w h1 h3 _ hmid hlo hhi).mono fun e w' hh => ?_
      rw [h] at hh
      exact hh
    · rw [if_neg (by decide)] at h
      refine (ref_zero a0_0 a0_1 a0_2 a2 w h1 h3 _ hmid hlo hhi).mono fun e w' hh => ?_
      rw [h] at hh
      exact hh
  · rw [he] at h
    injection h with h1 h
    injection h with h2 h
    injection h with h3 h4
    subst h1 h2 h3 h4
    exact ref_no a0_0 a0_1 a0_2 a1 a2 w hbad
end Go.Proofs.Ytpahbnahfhailaa
