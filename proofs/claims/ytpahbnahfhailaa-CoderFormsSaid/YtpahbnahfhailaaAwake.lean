/- The coder's 'awake' answers true. -/
import Derived.Test.YtpahbnahfhailaaCalls
namespace Go.Proofs.Ytpahbnahfhailaa
open Go.RowKit Go.Proofs.YtpahbnahfhailaaW.PrintWords Go.Proofs.YtpahbnahfhailaaW.PrintLast Go.Proofs.YtpahbnahfhailaaW.PrintMore Go.Proofs.Ytpahbnahfhailaa.CBase

theorem num_calls (x : Int) (w : World) : Calls Try.prog 13 #[.int .i64 x] w fun e w' => e = .returned (.int .i64 x) ∧ w = w' := by
  go_enter Try.func13, Try.ntmps13
  go_wp2
  go_ret
  exact ⟨rfl, rfl⟩
def descantlaw4_awake.f : Option Bool := some true
set_option maxRecDepth 100000 in
set_option maxHeartbeats 4000000 in
theorem descantlaw4_awake.calls (r : Bool) (w : World) (h : descantlaw4_awake.f = some r) :
    Calls Try.prog 18 #[] w fun e w' => e = .returned (.bool r) ∧ Below w.heap.size w w' := by
  obtain rfl := Option.some.inj h
  clear h
  have hu23 := Try.underlying23
  go_enter Try.func18, Try.ntmps18
  go_wp2_with fail
  refine (coder_New.calls 0 4294967295 (⟨#[]⟩ : ByteArray) _ (by decide +kernel)).mono ?_
  rintro e w1 ⟨rfl, hb1⟩
  obtain ⟨hc1, hf1⟩ := bcell hb1
  go_wp2_with fail
  refine (coder_Bit.calls 0 4294967295 (⟨#[]⟩ : ByteArray) 1 2048 0 2147483647 (⟨#[]⟩ : ByteArray) 0 _ (by decide +kernel)).mono ?_
  rintro e w2 ⟨rfl, hb2⟩
  obtain ⟨hc2, hf2⟩ := bcell hb2
  have hz1_2 : w1.heap.size < w2.heap.size := by have := hb2.size; (try simp at this); omega
  have hy1_2 : w1.heap.size < w2.heap.size + 1 := by omega
  go_wp2_with fail
  refine (coder_Bit.calls 0 4294967295 (⟨#[]⟩ : ByteArray) 0 4095 4026531840 4294967295 (⟨#[255]⟩ : ByteArray) 0 _ (by decide +kernel)).mono ?_
  rintro e w3 ⟨rfl, hb3⟩
  obtain ⟨hc3, hf3⟩ := bcell hb3
  have hz1_3 : w1.heap.size < w3.heap.size := by have := hb3.size; (try simp at this); omega
  have hy1_3 : w1.heap.size < w3.heap.size + 1 := by omega
  have hz2_3 : w2.heap.size < w3.heap.size := by have := hb3.size; (try simp at this); omega
  have hy2_3 : w2.heap.size < w3.heap.size + 1 := by omega
  go_wp2_with fail
  refine (coder_End.calls 4026531840 4294967295 (⟨#[255]⟩ : ByteArray) (⟨#[255, 240, 0, 0, 0]⟩ : ByteArray) 0 _ (by decide +kernel)).mono ?_
  rintro e w4 ⟨rfl, hb4⟩
  obtain ⟨hc4, hf4⟩ := bcell hb4
  have hz1_4 : w1.heap.size < w4.heap.size := by have := hb4.size; (try simp at this); omega
  have hy1_4 : w1.heap.size < w4.heap.size + 1 := by omega
  have hz2_4 : w2.heap.size < w4.heap.size := by have := hb4.size; (try simp at this); omega
  have hy2_4 : w2.heap.size < w4.heap.size + 1 := by omega
  have hz3_4 : w3.heap.size < w4.heap.size := by have := hb4.size; (try simp at this); omega
  have hy3_4 : w3.heap.size < w4.heap.size + 1 := by omega
  go_wp2_with fail
  refine (coder_Bit.calls 0 4294967295 (⟨#[]⟩ : ByteArray) 2 2048 0 0 (⟨#[]⟩ : ByteArray) 400 _ (by decide +kernel)).mono ?_
  rintro e w5 ⟨rfl, hb5⟩
  obtain ⟨hc5, hf5⟩ := bcell hb5
  have hz1_5 : w1.heap.size < w5.heap.size := by have := hb5.size; (try simp at this); omega
  have hy1_5 : w1.heap.size < w5.heap.size + 1 := by omega
  have hz2_5 : w2.heap.size < w5.heap.size := by have := hb5.size; (try simp at this); omega
  have hy2_5 : w2.heap.size < w5.heap.size + 1 := by omega
  have hz3_5 : w3.heap.size < w5.heap.size := by have := hb5.size; (try simp at this); omega
  have hy3_5 : w3.heap.size < w5.heap.size + 1 := by omega
  go_wp2_with fail
  refine (coder_Bit.calls 0 4294967295 (⟨#[]⟩ : ByteArray) 1 0 0 0 (⟨#[]⟩ : ByteArray) 400 _ (by decide +kernel)).mono ?_
  rintro e w6 ⟨rfl, hb6⟩
  obtain ⟨hc6, hf6⟩ := bcell hb6
  have hz1_6 : w1.heap.size < w6.heap.size := by have := hb6.size; (try simp at this); omega
  have hy1_6 : w1.heap.size < w6.heap.size + 1 := by omega
  have hz2_6 : w2.heap.size < w6.heap.size := by have := hb6.size; (try simp at this); omega
  have hy2_6 : w2.heap.size < w6.heap.size + 1 := by omega
  have hz3_6 : w3.heap.size < w6.heap.size := by have := hb6.size; (try simp at this); omega
  have hy3_6 : w3.heap.size < w6.heap.size + 1 := by omega
  have hz5_6 : w5.heap.size < w6.heap.size := by have := hb6.size; (try simp at this); omega
  have hy5_6 : w5.heap.size < w6.heap.size + 1 := by omega
  go_wp2_with fail
  refine (coder_End.calls 0 0 (⟨#[]⟩ : ByteArray) (⟨#[]⟩ : ByteArray) 400 _ (by decide +kernel)).mono ?_
  rintro e w7 ⟨rfl, hb7⟩
  obtain ⟨hc7, hf7⟩ := bcell hb7
  have hz1_7 : w1.heap.size < w7.heap.size := by have := hb7.size; (try simp at this); omega
  have hy1_7 : w1.heap.size < w7.heap.size + 1 := by omega
  have hz2_7 : w2.heap.size < w7.heap.size := by have := hb7.size; (try simp at this); omega
  have hy2_7 : w2.heap.size < w7.heap.size + 1 := by omega
  have hz3_7 : w3.heap.size < w7.heap.size := by have := hb7.size; (try simp at this); omega
  have hy3_7 : w3.heap.size < w7.heap.size + 1 := by omega
  have hz5_7 : w5.heap.size < w7.heap.size := by have := hb7.size; (try simp at this); omega
  have hy5_7 : w5.heap.size < w7.heap.size + 1 := by omega
  have hz6_7 : w6.heap.size < w7.heap.size := by have := hb7.size; (try simp at this); omega
  have hy6_7 : w6.heap.size < w7.heap.size + 1 := by omega
  go_wp2_with fail
  go_wp2_with (first
    | (go_at_call 13; refine (num_calls _ _).mono ?_; rintro e w8 ⟨rfl, rfl⟩)
    | (go_at_call 14; refine (coder_May.calls 0 4294967295 (⟨#[]⟩ : ByteArray) true _ (by decide +kernel)).mono ?_; rintro e w9 ⟨rfl, hb9⟩))
  go_ret
  have X1 := below_step (Below.refl _ w) hb1
  have X2 := below_step (below_alloc X1 _) hb2
  have X3 := below_step (below_alloc X2 _) hb3
  have X4 := below_step (below_alloc X3 _) hb4
  have X5 := below_step X4 hb5
  have X6 := below_step (below_alloc X5 _) hb6
  have X7 := below_step (below_alloc X6 _) hb7
  exact ⟨rfl, below_step X7 hb9⟩
end Go.Proofs.Ytpahbnahfhailaa
