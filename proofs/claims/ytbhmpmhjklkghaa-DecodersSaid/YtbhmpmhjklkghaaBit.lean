/- The decoder's Bit: one contract. -/
import Derived.Test.YtbhmpmhjklkghaaBit0
namespace Go.Proofs.Ytbhmpmhjklkghaa
open Go.RowKit Go.Proofs.YtbhmpmhjklkghaaW.PrintWords Go.Proofs.YtbhmpmhjklkghaaW.PrintLast Go.Proofs.YtbhmpmhjklkghaaW.PrintMore Go.Proofs.Ytbhmpmhjklkghaa.CBase
set_option linter.unusedVariables false
set_option linter.unusedSimpArgs false
set_option maxHeartbeats 1000000 in
theorem dbit_no (lo hi now : Int) (t : ByteArray) (a p : Int) (w : World) (hbad : Dd.may lo hi now t a = false ∨ Cd.chance p = false) :
    Calls Try.prog 8 #[.agg #[.int .i64 lo, .int .i64 hi, .int .i64 now, .string t, .int .i64 a], .int .i64 p] w fun e w' => e = .returned (dres Dd.bad) ∧ Below w.heap.size w w' := by
  have hu23 := Try.underlying23
  have HM := Lib.hid (dmay_some lo hi now t a)
  have HC := Lib.hid (chance_some p)
  cases hm : Dd.may lo hi now t a with
  | false =>
    rw [hm] at HM
    clear hm hbad HC
    go_enter Try.func8, Try.ntmps8
    go_wp2_with (go_at_call 13; refine (decoder_May.calls lo hi now t a _ _ HM.out).mono ?_; rintro e w1 ⟨rfl, hb⟩; obtain ⟨hc, hf⟩ := bcell hb)
    have hg := hb.block (w.heap.size + 1) (by simp)
    rw [heap_alloc2_new] at hg
    refine bodyPost_ret (results_ctt rfl _ _ (w.heap.size + 1) 23 #[.int .i64 0, .int .i64 0, .int .i64 0, .string ⟨#[]⟩, .int .i64 0] (0, 0) _ rfl (blk_put (blk_put (blk_put (blk_put (blk_put (hg) 0 _ rfl) 1 _ rfl) 2 _ rfl) 3 _ rfl) 4 _ rfl) Try.underlying23 rfl info23) rfl ⟨rfl, ?_⟩
    exact below_set (below_set (below_set (below_set (below_set (below_two hb) (by omega)) (by omega)) (by omega)) (by omega)) (by omega)
  | true =>
    have hch : Cd.chance p = false := hbad.resolve_left (by rw [hm]; decide)
    rw [hm] at HM
    rw [hch] at HC
    clear hm hbad hch
    go_enter Try.func8, Try.ntmps8
    go_wp2_with (first
      | (go_at_call 13; refine (decoder_May.calls lo hi now t a _ _ HM.out).mono ?_; rintro e w1 ⟨rfl, hb⟩; obtain ⟨hc, hf⟩ := bcell hb)
      | (go_at_call 19; refine (coder_Chance.calls p _ _ HC.out).mono ?_; rintro e w2 ⟨rfl, ⟨nc, rfl⟩⟩))
    have hg := hb.block (w.heap.size + 1) (by simp)
    rw [heap_alloc2_new] at hg
    refine bodyPost_ret (results_ctt rfl _ _ (w.heap.size + 1) 23 #[.int .i64 0, .int .i64 0, .int .i64 0, .string ⟨#[]⟩, .int .i64 0] (0, 0) _ rfl (blk_put (blk_put (blk_put (blk_put (blk_put (blk_drewN hg _) 0 _ rfl) 1 _ rfl) 2 _ rfl) 3 _ rfl) 4 _ rfl) Try.underlying23 rfl info23) rfl ⟨rfl, ?_⟩
    exact below_set (below_set (below_set (below_set (below_set (pw_below_drewN (below_two hb) _) (by omega)) (by omega)) (by omega)) (by omega)) (by omega)
def decoder_Bit.f (lo hi now : Int) (t : ByteArray) (a p : Int) : Option (Int × Int × Int × ByteArray × Int × Int × Int) := some (Dd.bit lo hi now t a p)
theorem decoder_Bit.calls (a0_0 a0_1 a0_2 : Int) (a0_3 : ByteArray) (a0_4 a1 : Int) (r1 r2 r3 : Int) (r4 : ByteArray) (r5 r6 r7 : Int) (w : World) (h : decoder_Bit.f a0_0 a0_1 a0_2 a0_3 a0_4 a1 = some (r1, r2, r3, r4, r5, r6, r7)) :
    Calls Try.prog 8 #[.agg #[.int .i64 a0_0, .int .i64 a0_1, .int .i64 a0_2, .string a0_3, .int .i64 a0_4], .int .i64 a1] w fun e w' => e = .returned (.tuple #[.agg #[.int .i64 r1, .int .i64 r2, .int .i64 r3, .string r4, .int .i64 r5], .int .i64 r6, .int .i64 r7]) ∧ Below w.heap.size w w' := by
  have h := Option.some.inj h
  have hr : Value.tuple #[.agg #[.int .i64 r1, .int .i64 r2, .int .i64 r3, .string r4, .int .i64 r5], .int .i64 r6, .int .i64 r7] = dres (Dd.bit a0_0 a0_1 a0_2 a0_3 a0_4 a1) := by rw [h]; rfl
  rw [hr]
  clear hr h
  unfold Dd.bit
  by_cases hc : Dd.may a0_0 a0_1 a0_2 a0_3 a0_4 = true ∧ Cd.chance a1 = true
  · obtain ⟨h1, h2⟩ := hc
    rw [if_pos ⟨h1, h2⟩]
    have q := of_decide_eq_true h1
    have q2 := of_decide_eq_true h2
    have hmid := middle_some a0_0 a0_1 a1 q.1 (by omega) q.2.1 q2.1 q2.2
    have hlo := Cd.mid_lo (show a0_0 ≤ a0_1 by omega) (show 0 ≤ a1 by omega)
    have hhi := Cd.mid_hi (show a0_0 < a0_1 by omega) (show 0 ≤ a1 by omega) q2.2
    by_cases hn : a0_2 ≤ Cd.mid a0_0 a0_1 a1
    · rw [if_pos hn]
      exact dbit_one _ _ _ _ _ _ w h1 h2 _ hmid hlo hhi hn
    · rw [if_neg hn]
      exact dbit_zero _ _ _ _ _ _ w h1 h2 _ hmid hlo hhi (by omega)
  · rw [if_neg hc]
    refine dbit_no _ _ _ _ _ _ w ?_
    by_cases h1 : Dd.may a0_0 a0_1 a0_2 a0_3 a0_4 = true
    · exact .inr (by cases hh : Cd.chance a1 with | false => rfl | true => exact absurd ⟨h1, hh⟩ hc)
    · exact .inl (by cases hh : Dd.may a0_0 a0_1 a0_2 a0_3 a0_4 with | false => rfl | true => exact absurd hh h1)
end Go.Proofs.Ytbhmpmhjklkghaa
