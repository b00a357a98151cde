/- Numbers, places and texts that may not be are refused. -/
import Derived.Test.YtdfmdenhhamclaaPVarintFormsx
namespace Go.Proofs.Ytdfmdenhhamclaa.Pure
open Go.RowKit Go.Proofs.Ytdfmdenhhamclaa.PVarintForms Go.Proofs.YtdfmdenhhamclaaW.PrintWords Go.Proofs.YtdfmdenhhamclaaW.PrintLast

/-! ### Numbers -/
theorem w64 {x : Int} (h0 : -9223372036854775808 ≤ x) (h1 : x ≤ 9223372036854775807) : wrap64 x = x := by
  unfold wrap64
  omega
theorem w64e {x y : Int} (h : x = y) (h0 : -9223372036854775808 ≤ y) (h1 : y ≤ 9223372036854775807) : wrap64 x = y := by
  rw [h]
  exact w64 h0 h1
theorem wi64 (n : Int) (h₀ : 0 ≤ n) (h₁ : n < 2 ^ 63) : IntKind.i64.wrap n = n := by rw [IntKind.wrap_i64]; omega
theorem and64 (a b : Nat) (ha : a < 9223372036854775808) (hb : b < 9223372036854775808) : Go.bits .and .i64 (a : Int) (b : Int) = ((a &&& b : Nat) : Int) :=
  (bits_nat .i64 63 (by decide) wi64 a b ha hb).1
theorem or64 (a b : Nat) (ha : a < 9223372036854775808) (hb : b < 9223372036854775808) : Go.bits .or .i64 (a : Int) (b : Int) = ((a ||| b : Nat) : Int) :=
  (bits_nat .i64 63 (by decide) wi64 a b ha hb).2
theorem mask7 (n : Nat) (h : n < 9223372036854775808) : Go.bits .and .i64 (n : Int) 127 = ((n % 128 : Nat) : Int) := by
  have h1 := and64 n 127 h (by omega)
  rw [Nat.and_two_pow_sub_one_eq_mod n 7] at h1
  exact h1
theorem or128 (n : Nat) (h : n < 128) : Go.bits .or .i64 (n : Int) 128 = (n : Int) + 128 := by
  have h1 := or64 n 128 (by omega) (by omega)
  have h2 : n ||| 128 = n + 128 := by
    have h3 := Nat.two_pow_add_eq_or_of_lt (i := 7) (b := n) h 1
    rw [Nat.or_comm]
    simp only [Nat.mul_one, show (2 : Nat) ^ 7 = 128 from rfl] at h3
    omega
  rw [h2] at h1
  exact h1
theorem mask8 (b : Int) (h0 : 0 ≤ b) (h1 : b ≤ 255) : Go.bits .and .u8 b 127 = b % 128 := by
  have h := bits_mask .u8 8 (by decide) wraps_u8 7 (by decide) b h0 (by omega)
  simpa using h

/-! ### Put -/
/-- A number's bytes, the lowest seven bits first. -/
def pb (n : Nat) : List Int := if n < 128 then [(n : Int)] else (((n % 128 : Nat) : Int) + 128) :: pb (n / 128)
decreasing_by omega
theorem pb_small {n : Nat} (h : n < 128) : pb n = [(n : Int)] := by rw [pb, if_pos h]
theorem pb_big {n : Nat} (h : ¬ n < 128) : pb n = (((n % 128 : Nat) : Int) + 128) :: pb (n / 128) := by rw [pb, if_neg h]
theorem empty_app (b : ByteArray) : (⟨#[]⟩ : ByteArray) ++ b = b := by
  apply ByteArray.ext
  simp
theorem strOfNums_app (a b : List Int) : strOfNums (a ++ b) = strOfNums a ++ strOfNums b := by
  apply ByteArray.ext
  simp [strOfNums]

theorem put_l0 (n : Nat) : ∀ (k : Nat) (xs : List Int), n < k → n < 9223372036854775808 → xs.length + n < 140737488355328 → varint_Put.l0 k (n : Int) xs = some (strOfNums (xs ++ pb n), 0) := by
  induction n using Nat.strongRecOn with
  | _ n ih =>
    intro k xs hk hn hl
    obtain ⟨k, rfl⟩ : ∃ m, k = m + 1 := ⟨k - 1, by omega⟩
    simp only [varint_Put.l0]
    by_cases h : n < 128
    · rw [if_neg (by omega), if_pos (by omega), pb_small h, show (n : Int) % 256 = n by omega]
    · rw [if_pos (by omega), if_pos (by omega), pb_big h]
      have e1 : wrap64 (Int.tdiv (n : Int) 128) = ((n / 128 : Nat) : Int) := by
        rw [Int.tdiv_eq_ediv_of_nonneg (by omega), w64 (by omega) (by omega)]
        omega
      have e2 : (wrap64 ((Int.tmod (n : Int) 128) + 128)) % 256 = ((n % 128 : Nat) : Int) + 128 := by
        rw [Int.tmod_eq_emod_of_nonneg (by omega), w64 (by omega) (by omega)]
        omega
      rw [e1, e2, ih (n / 128) (by omega) k _ (by omega) (by omega) (by simp only [List.length_append, List.length_singleton]; omega)]
      simp
/-- What Put answers. -/
def putR (a : Int) : ByteArray × Int := if 0 ≤ a ∧ a ≤ 4294967295 then (strOfNums (pb a.toNat), 0) else ((⟨#[]⟩ : ByteArray), 200)
theorem putR_ok {n : Nat} (h : n ≤ 4294967295) : putR (n : Int) = (strOfNums (pb n), 0) := by
  unfold putR
  rw [if_pos (by omega), Int.toNat_natCast]
theorem put_f (a : Int) (k : Nat) (hk : 4294967300 < k) : varint_Put.f k a = some (putR a) := by
  obtain ⟨k, rfl⟩ : ∃ m, k = m + 1 := ⟨k - 1, by omega⟩
  unfold varint_Put.f putR
  by_cases h0 : a < 0
  · rw [if_pos h0, if_neg (by omega)]
    simp only [varint_Put.j0]
    simp
  · rw [if_neg h0]
    by_cases h1 : a > 4294967295
    · rw [if_neg (by omega)]
      simp only [varint_Put.j0]
      simp [h1]
    · rw [if_pos (by omega)]
      simp only [varint_Put.j0]
      obtain ⟨n, rfl⟩ := Int.eq_ofNat_of_zero_le (Int.not_lt.1 h0)
      simp only [h1, decide_false, Bool.false_eq_true, if_false]
      rw [put_l0 n k [] (by omega) (by omega) (by simp only [List.length_nil]; omega)]
      simp

/-! ### Get -/
/-- The number that is read on, and what is answered at the last byte. -/
def nx (s : ByteArray) (a : Int) (i : Nat) (x : Int) : Int := Go.bits .or .i64 x (shl .i64 (bt s (a + i) % 128) ((7 * i : Nat) : Int))
def fin (s : ByteArray) (a : Int) (i : Nat) (y : Int) : Int × Int × Int :=
  if (putR y).2 = 0 then (if (putR y).1.toList = (s.extract a.toNat (a + ((i + 1 : Nat) : Int)).toNat).toList then (y, a + ((i + 1 : Nat) : Int), 0) else (0, 0, 200)) else (0, 0, 200)
theorem fin_if (s : ByteArray) (a : Int) (i : Nat) (y : Int) : (if (putR y).2 = 0 then (if (putR y).1.toList = (s.extract a.toNat (a + ((i + 1 : Nat) : Int)).toNat).toList then some (y, a + ((i + 1 : Nat) : Int), (0 : Int)) else some (0, 0, 200)) else some (0, 0, 200)) = some (fin s a i y) := by
  unfold fin
  split
  · split <;> rfl
  · rfl
theorem code_out (s : ByteArray) (a x : Int) (i k : Nat) (h : ¬ (a + (i : Int) < s.size ∧ i < 5)) : varint_Get.l0 (k + 2) s a x ((7 * i : Nat) : Int) (a + i) = some (0, 0, 200) := by
  simp only [varint_Get.l0, varint_Get.j2]
  by_cases hlt : a + (i : Int) < s.size
  · have d1 : decide (((7 * i : Nat) : Int) < 35) = false := by rw [decide_eq_false_iff_not]; omega
    rw [if_pos hlt, d1]
    simp
  · rw [if_neg hlt]
    simp
theorem code_in (s : ByteArray) (a x : Int) (i k : Nat) (hs : s.size ≤ 140737488351232) (h0 : 0 ≤ a) (hlt : a + (i : Int) < s.size) (hi : i < 5) (hk : 4294967300 < k) :
    varint_Get.l0 (k + 2) s a x ((7 * i : Nat) : Int) (a + i) = if bt s (a + i) < 128 then some (fin s a i (nx s a i x)) else varint_Get.l0 k s a (nx s a i x) ((7 * (i + 1) : Nat) : Int) (a + ((i + 1 : Nat) : Int)) := by
  have c1 : 0 ≤ a + (i : Int) := by omega
  have c2 : 0 ≤ ((7 * i : Nat) : Int) := by omega
  have c3 : a ≤ a + ((i + 1 : Nat) : Int) := by omega
  have c4 : a + ((i + 1 : Nat) : Int) ≤ s.size := by omega
  have d1 : decide (((7 * i : Nat) : Int) < 35) = true := by rw [decide_eq_true_iff]; omega
  have hb := bt_range s (a + i)
  have wb : wrap64 (bt s (a + i)) = bt s (a + i) := w64 (by omega) (by omega)
  have mb : Int.tmod (bt s (a + i)) 128 = bt s (a + i) % 128 := Int.tmod_eq_emod_of_nonneg hb.1
  have w9 : wrap64 (a + (i : Int) + 1) = a + ((i + 1 : Nat) : Int) := by rw [w64 (by omega) (by omega)]; omega
  have w8 : wrap64 (((7 * i : Nat) : Int) + 7) = ((7 * (i + 1) : Nat) : Int) := by rw [w64 (by omega) (by omega)]; omega
  have hnx : Go.bits .or .i64 x (shl .i64 (bt s (a + i) % 128) ((7 * i : Nat) : Int)) = nx s a i x := rfl
  simp only [varint_Get.l0, varint_Get.j2]
  rw [if_pos hlt, d1, if_pos rfl, if_pos c1, if_pos hlt, if_pos c2]
  rw [wb, mb, w9, w8, hnx, put_f _ k hk, Option.bind_some, if_pos h0, if_pos c3, if_pos c4, fin_if]
  by_cases h : bt s (a + i) < 128
  · rw [if_pos h, if_neg (by omega)]
  · rw [if_neg h, if_pos (by omega)]
theorem awake20 : descantlaw2_awake.f 30 = some true := by decide +kernel
theorem awake_on (K : Nat) (h : 30 ≤ K) : descantlaw2_awake.f K = some true := at_rounds (fun k => descantlaw2_awake.mono k) h awake20
theorem and_le (a : Int) (m : Nat) (hm : m < 9223372036854775808) : ∃ n : Nat, n ≤ m ∧ Go.bits .and .i64 a (m : Int) = (n : Int) := by
  refine ⟨(BitVec.ofInt 64 a &&& BitVec.ofInt 64 (m : Int)).toNat, ?_, ?_⟩
  · rw [BitVec.toNat_and]
    refine Nat.le_trans Nat.and_le_right ?_
    rw [BitVec.ofInt_natCast, BitVec.toNat_ofNat]
    exact Nat.mod_le _ _
  · refine wi64 _ (by omega) ?_
    have h : (BitVec.ofInt 64 a &&& BitVec.ofInt 64 (m : Int)).toNat ≤ m := by
      rw [BitVec.toNat_and]
      refine Nat.le_trans Nat.and_le_right ?_
      rw [BitVec.ofInt_natCast, BitVec.toNat_ofNat]
      exact Nat.mod_le _ _
    show (((BitVec.ofInt 64 a &&& BitVec.ofInt 64 (m : Int)).toNat : Nat) : Int) < 2 ^ 63
    omega


theorem get_on (s : ByteArray) (a : Int) (r : Int × Int × Int) (h : varint_Get.f 40 s a = some r) (K : Nat) (hK : 40 ≤ K) : varint_Get.f K s a = some r := at_rounds (fun k => varint_Get.mono s a k) hK h
theorem get_far (s : ByteArray) (a : Int) (h : a < 0 ∨ a > (s.size : Int)) (K : Nat) (hK : 40 ≤ K) : varint_Get.f K s a = some (0, 0, 200) := by
  obtain ⟨k, rfl⟩ : ∃ m, K = m + 2 := ⟨K - 2, by omega⟩
  unfold varint_Get.f
  by_cases h0 : a < 0
  · simp [h0, varint_Get.j0]
  · have h1 : a > (s.size : Int) := by omega
    simp [h0, h1, varint_Get.j0]
theorem texts_bad (K : Nat) (hK : 40 ≤ K) (c : Nat) (hc : c ≤ 7) : varint_Get.f K (rdOf ByteArray.empty [(⟨#[]⟩ : ByteArray), (⟨#[128]⟩ : ByteArray), (⟨#[255, 255, 255, 255, 16]⟩ : ByteArray), (⟨#[128, 0]⟩ : ByteArray), (⟨#[255, 255, 255, 255, 255, 1]⟩ : ByteArray), (⟨#[129, 128, 0]⟩ : ByteArray), (⟨#[255, 255, 255, 255]⟩ : ByteArray), (⟨#[128, 128, 128, 128, 128, 128]⟩ : ByteArray)] (c : Int)) 0 = some (0, 0, 200) := by
  refine get_on _ _ _ ?_ K hK
  have : c = 0 ∨ c = 1 ∨ c = 2 ∨ c = 3 ∨ c = 4 ∨ c = 5 ∨ c = 6 ∨ c = 7 := by omega
  rcases this with rfl | rfl | rfl | rfl | rfl | rfl | rfl | rfl <;> decide +kernel
theorem w_forms (d : Nat) (hd : d ≤ 1023) : wrap64 (1 + (d : Int)) = 1 + d ∧ wrap64 (-(1 + (d : Int))) = -(1 + d) ∧ wrap64 (4294967295 + (1 + (d : Int))) = 4294967296 + d ∧ wrap64 (1 + (1 + (d : Int))) = 2 + d :=
  ⟨w64 (by omega) (by omega), w64 (by omega) (by omega), w64e (by omega) (by omega) (by omega), w64e (by omega) (by omega) (by omega)⟩
/-- YOURS -/
theorem VarintForms : descantlaw2_VarintForms.Pure := by
  intro a0 a1 _ _
  obtain ⟨d, hd, hd1⟩ := and_le a1 1023 (by omega)
  obtain ⟨c, hc, hc1⟩ := and_le a0 1 (by omega)
  obtain ⟨c7, hc7, hc71⟩ := and_le a0 7 (by omega)
  have hd1' : Go.bits .and .i64 a1 1023 = (d : Int) := hd1
  have hc1' : Go.bits .and .i64 a0 1 = (c : Int) := hc1
  have hc71' : Go.bits .and .i64 a0 7 = (c7 : Int) := hc71
  obtain ⟨K, hK⟩ : ∃ K : Nat, 4294967500 < K := ⟨4294967501, by omega⟩
  obtain ⟨w1, w2, w3, w4⟩ := w_forms d hd
  refine ⟨K, ?_⟩
  unfold descantlaw2_VarintForms.f
  rw [awake_on K (by omega), Option.bind_some, if_pos rfl, hd1', hc1', hc71', w1, w2, w3, w4]
  clear w1 w2 w3 w4 hd1 hc1 hc71 hd1' hc1' hc71'
  have e1 : ∃ x : Int, (x < 0 ∨ x > 4294967295) ∧ rd [-(1 + (d : Int)), 4294967296 + (d : Int)] (c : Int) = x := by
    rcases (show c = 0 ∨ c = 1 by omega) with rfl | rfl
    · exact ⟨_, .inl (show -(1 + (d : Int)) < 0 by omega), rfl⟩
    · exact ⟨_, .inr (show 4294967296 + (d : Int) > 4294967295 by omega), rfl⟩
  have e2 : ∃ x : Int, (x < 0 ∨ x > 1) ∧ rd [-(1 + (d : Int)), 2 + (d : Int)] (c : Int) = x := by
    rcases (show c = 0 ∨ c = 1 by omega) with rfl | rfl
    · exact ⟨_, .inl (show -(1 + (d : Int)) < 0 by omega), rfl⟩
    · exact ⟨_, .inr (show 2 + (d : Int) > 1 by omega), rfl⟩
  obtain ⟨x, hx, ex⟩ := e1
  obtain ⟨y, hy, ey⟩ := e2
  have hp : putR x = ((⟨#[]⟩ : ByteArray), 200) := by unfold putR; rw [if_neg (by omega)]
  have g1 := texts_bad K (by omega) c7 hc7
  have g2 := get_on (⟨#[1]⟩ : ByteArray) 1 (0, 0, 200) (by decide +kernel) K (by omega)
  have g3 := get_far (⟨#[1]⟩ : ByteArray) y (by simpa [ByteArray.size] using hy) K (by omega)
  have g4 := get_on (⟨#[255, 255, 255, 255, 15]⟩ : ByteArray) 0 (4294967295, 5, 0) (by decide +kernel) K (by omega)
  simp only [Option.bind_some, ex, ey, put_f x K (by omega), hp, g1, g2, g3, g4, descantlaw0_Num.f, List.length_cons, List.length_nil]
  rw [if_pos (by omega), if_pos (by omega), if_pos (by omega), if_pos (by omega), if_pos (by omega)]
  simp

end Go.Proofs.Ytdfmdenhhamclaa.Pure
