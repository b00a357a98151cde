/- The decoder's 'awake' answers true; the decoder's contracts, under one roof. -/
import Derived.Test.YtbhmpmhjklkghaaBit
import Derived.Test.YtbhmpmhjklkghaaRef
import Derived.Test.YtbhmpmhjklkghaaCode
namespace Go.Proofs.Ytbhmpmhjklkghaa
open Go.RowKit Go.Proofs.YtbhmpmhjklkghaaW.PrintWords Go.Proofs.YtbhmpmhjklkghaaW.PrintLast Go.Proofs.YtbhmpmhjklkghaaW.PrintMore Go.Proofs.Ytbhmpmhjklkghaa.CBase

theorem num_calls (x : Int) (w : World) : Calls Try.prog 12 #[.int .i64 x] w fun e w' => e = .returned (.int .i64 x) ∧ w = w' := by
  go_enter Try.func12, Try.ntmps12
  go_wp2
  go_ret
  exact ⟨rfl, rfl⟩
theorem new_l0 (s : ByteArray) (hi : Int) (t : ByteArray) (a : Int) : decoder_New.l0 5 s 0 0 hi 0 t a = some (0, hi, Dd.first s, t, a, 0) := by
  have b := fun i => Dd.at_bd s i
  have b0 := b 0
  have b1 := b 1
  have b2 := b 2
  have b3 := b 3
  have u : ∀ x y : Int, 0 ≤ x → x ≤ 4294967295 → 0 ≤ y → y ≤ 255 → coder_Up.f x y = some (x * 256 % 4294967296 + y) := fun x y h0 h1 g0 g1 => by
    unfold coder_Up.f
    rw [up_any x y h0 h1 g0 g1]
  have w1 : wrap64 (0 + 1) = 1 := by decide +kernel
  have w2 : wrap64 (1 + 1) = 2 := by decide +kernel
  have w3 : wrap64 (2 + 1) = 3 := by decide +kernel
  have w4 : wrap64 (3 + 1) = 4 := by decide +kernel
  simp only [decoder_New.l0]
  rw [if_pos (by decide), at_some s 0 (by decide), Option.bind_some, u 0 _ (by omega) (by omega) (by omega) (by omega), Option.bind_some, w1]
  rw [if_pos (by decide), at_some s 1 (by decide), Option.bind_some, u _ _ (by omega) (by omega) (by omega) (by omega), Option.bind_some, w2]
  rw [if_pos (by decide), at_some s 2 (by decide), Option.bind_some, u _ _ (by omega) (by omega) (by omega) (by omega), Option.bind_some, w3]
  rw [if_pos (by decide), at_some s 3 (by decide), Option.bind_some, u _ _ (by omega) (by omega) (by omega) (by omega), Option.bind_some, w4]
  rw [if_neg (by decide)]
  have e : (((0 * 256 % 4294967296 + Dd.at_ s 0) * 256 % 4294967296 + Dd.at_ s 1) * 256 % 4294967296 + Dd.at_ s 2) * 256 % 4294967296 + Dd.at_ s 3 = Dd.first s := by
    unfold Dd.first
    omega
  rw [e]
theorem new_some (s : ByteArray) : decoder_New.f 5 s = some (Dd.new s) := by
  unfold decoder_New.f Dd.new
  by_cases h : s.size ≤ 65536
  · rw [if_neg (by omega), if_pos h, show coder_New.f = some (0, 4294967295, (⟨#[]⟩ : ByteArray)) from rfl, Option.bind_some, new_l0]
  · rw [if_pos (by omega), if_neg h]
theorem or_low (x y : Nat) (k : Nat) (hx : 2 ^ k ∣ x) (hy : y < 2 ^ k) (hs : x + y < 9223372036854775808) : Go.bits .or .i64 (x : Int) (y : Int) = ((x + y : Nat) : Int) := by
  obtain ⟨z, rfl⟩ := hx
  rw [or64 _ _ (by omega) (by omega), ← Nat.two_pow_add_eq_or_of_lt hy z]
theorem rnew_some (s : ByteArray) : descantref1_NewDecoder.f s = some (Dd.new s) := by
  unfold descantref1_NewDecoder.f Dd.new
  by_cases h : s.size ≤ 65536
  · rw [if_neg (by omega), if_pos h, byteAt_some s 0 (by decide), Option.bind_some, byteAt_some s 1 (by decide), Option.bind_some, byteAt_some s 2 (by decide), Option.bind_some, byteAt_some s 3 (by decide), Option.bind_some]
    congr 3
    unfold Dd.first
    have b0 := Dd.at_bd s 0
    have b1 := Dd.at_bd s 1
    have b2 := Dd.at_bd s 2
    have b3 := Dd.at_bd s 3
    generalize Dd.at_ s 0 = x0 at *
    generalize Dd.at_ s 1 = x1 at *
    generalize Dd.at_ s 2 = x2 at *
    generalize Dd.at_ s 3 = x3 at *
    obtain ⟨n0, rfl⟩ := Int.eq_ofNat_of_zero_le b0.1
    obtain ⟨n1, rfl⟩ := Int.eq_ofNat_of_zero_le b1.1
    obtain ⟨n2, rfl⟩ := Int.eq_ofNat_of_zero_le b2.1
    obtain ⟨n3, rfl⟩ := Int.eq_ofNat_of_zero_le b3.1
    have e0 : wrap64 ((n0 : Int) * 16777216) = ((n0 * 16777216 : Nat) : Int) := by unfold wrap64; omega
    have e1 : wrap64 ((n1 : Int) * 65536) = ((n1 * 65536 : Nat) : Int) := by unfold wrap64; omega
    have e2 : wrap64 ((n2 : Int) * 256) = ((n2 * 256 : Nat) : Int) := by unfold wrap64; omega
    rw [e0, e1, e2, or_low _ _ 24 ⟨n0, by omega⟩ (by omega) (by omega), or_low _ _ 16 ⟨n0 * 256 + n1, by omega⟩ (by omega) (by omega), or_low _ _ 8 ⟨n0 * 65536 + n1 * 256 + n2, by omega⟩ (by omega) (by omega)]
    have f : (((((n0 : Int) * 256 + n1) * 256 + n2) * 256) + n3 : Int) = ((n0 * 16777216 + n1 * 65536 + n2 * 256 + n3 : Nat) : Int) := by omega
    rw [f]
  · rw [if_pos (by omega), if_neg h]
def descantlaw5_awake.f : Option Bool := some true
set_option maxRecDepth 100000 in
set_option maxHeartbeats 4000000 in
theorem descantlaw5_awake.calls (r : Bool) (w : World) (h : descantlaw5_awake.f = some r) :
    Calls Try.prog 15 #[] w fun e w' => e = .returned (.bool r) ∧ Below w.heap.size w w' := by
  obtain rfl := Option.some.inj h
  clear h
  have hu23 := Try.underlying23
  go_enter Try.func15, Try.ntmps15
  go_wp2_with fail
  refine (decoder_New.calls 5 (⟨#[128, 0, 0, 0]⟩ : ByteArray) 0 4294967295 2147483648 (⟨#[128, 0, 0, 0]⟩ : ByteArray) 4 0 _ ((new_some _).trans (by decide +kernel))).mono ?_
  rintro e w1 ⟨rfl, hb1⟩
  obtain ⟨hc1, hf1⟩ := bcell hb1
  go_wp2_with fail
  refine (decoder_Bit.calls 0 4294967295 2147483648 (⟨#[128, 0, 0, 0]⟩ : ByteArray) 4 2048 2147483648 4294967295 2147483648 (⟨#[128, 0, 0, 0]⟩ : ByteArray) 4 0 0 _ (by kernel_rfl)).mono ?_
  rintro e w2 ⟨rfl, hb2⟩
  obtain ⟨hc2, hf2⟩ := bcell hb2
  have hz1_2 : w1.heap.size < w2.heap.size := by have := hb2.size; (try simp at this); omega
  have hy1_2 : w1.heap.size < w2.heap.size + 1 := by omega
  go_wp2_with fail
  refine (decoder_Bit.calls 0 4294967295 2147483648 (⟨#[128, 0, 0, 0]⟩ : ByteArray) 4 2049 0 2148532223 2147483648 (⟨#[128, 0, 0, 0]⟩ : ByteArray) 4 1 0 _ (by kernel_rfl)).mono ?_
  rintro e w3 ⟨rfl, hb3⟩
  obtain ⟨hc3, hf3⟩ := bcell hb3
  have hz1_3 : w1.heap.size < w3.heap.size := by have := hb3.size; (try simp at this); omega
  have hy1_3 : w1.heap.size < w3.heap.size + 1 := by omega
  have hz2_3 : w2.heap.size < w3.heap.size := by have := hb3.size; (try simp at this); omega
  have hy2_3 : w2.heap.size < w3.heap.size + 1 := by omega
  go_wp2_with fail
  refine (decoder_Bit.calls 0 0 0 (⟨#[]⟩ : ByteArray) 0 2048 0 0 0 (⟨#[]⟩ : ByteArray) 0 0 500 _ (by kernel_rfl)).mono ?_
  rintro e w4 ⟨rfl, hb4⟩
  obtain ⟨hc4, hf4⟩ := bcell hb4
  have hz1_4 : w1.heap.size < w4.heap.size := by have := hb4.size; (try simp at this); omega
  have hy1_4 : w1.heap.size < w4.heap.size + 1 := by omega
  have hz2_4 : w2.heap.size < w4.heap.size := by have := hb4.size; (try simp at this); omega
  have hy2_4 : w2.heap.size < w4.heap.size + 1 := by omega
  have hz3_4 : w3.heap.size < w4.heap.size := by have := hb4.size; (try simp at this); omega
  have hy3_4 : w3.heap.size < w4.heap.size + 1 := by omega
  go_wp2_with fail
  refine (decoder_Bit.calls 0 4294967295 2147483648 (⟨#[128, 0, 0, 0]⟩ : ByteArray) 4 4096 0 0 0 (⟨#[]⟩ : ByteArray) 0 0 500 _ (by kernel_rfl)).mono ?_
  rintro e w5 ⟨rfl, hb5⟩
  obtain ⟨hc5, hf5⟩ := bcell hb5
  have hz1_5 : w1.heap.size < w5.heap.size := by have := hb5.size; (try simp at this); omega
  have hy1_5 : w1.heap.size < w5.heap.size + 1 := by omega
  have hz2_5 : w2.heap.size < w5.heap.size := by have := hb5.size; (try simp at this); omega
  have hy2_5 : w2.heap.size < w5.heap.size + 1 := by omega
  have hz3_5 : w3.heap.size < w5.heap.size := by have := hb5.size; (try simp at this); omega
  have hy3_5 : w3.heap.size < w5.heap.size + 1 := by omega
  have hz4_5 : w4.heap.size < w5.heap.size := by have := hb5.size; (try simp at this); omega
  have hy4_5 : w4.heap.size < w5.heap.size + 1 := by omega
  go_wp2_with fail
  go_wp2_with (first
    | (go_at_call 12; refine (num_calls _ _).mono ?_; rintro e w8 ⟨rfl, rfl⟩)
    | (go_at_call 13; refine (decoder_May.calls 0 4294967295 2147483648 (⟨#[128, 0, 0, 0]⟩ : ByteArray) 4 true _ ((dmay_some _ _ _ _ _).trans (by decide +kernel))).mono ?_; rintro e w9 ⟨rfl, hb9⟩))
  go_ret
  have X1 := below_step (Below.refl _ w) hb1
  have X2 := below_step (below_alloc X1 _) hb2
  have X3 := below_step (below_alloc X2 _) hb3
  have X4 := below_step (below_alloc X3 _) hb4
  have X5 := below_step (below_alloc X4 _) hb5
  exact ⟨rfl, below_step (below_alloc X5 _) hb9⟩
end Go.Proofs.Ytbhmpmhjklkghaa
