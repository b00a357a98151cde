/- A number takes as many bytes as it has groups of seven bits. -/
import Derived.Test.YtdfmdenhhamclaaPVarintSizesx
namespace Go.Proofs.Ytdfmdenhhamclaa.Pure
open Go.RowKit Go.Proofs.Ytdfmdenhhamclaa.PVarintSizes Go.Proofs.YtdfmdenhhamclaaW.PrintWords Go.Proofs.YtdfmdenhhamclaaW.PrintLast

/-! ### Numbers -/
theorem w64 {x : Int} (h0 : -9223372036854775808 ≤ x) (h1 : x ≤ 9223372036854775807) : wrap64 x = x := by
  unfold wrap64
  omega
theorem wi64 (n : Int) (h₀ : 0 ≤ n) (h₁ : n < 2 ^ 63) : IntKind.i64.wrap n = n := by rw [IntKind.wrap_i64]; omega
theorem and64 (a b : Nat) (ha : a < 9223372036854775808) (hb : b < 9223372036854775808) : Go.bits .and .i64 (a : Int) (b : Int) = ((a &&& b : Nat) : Int) :=
  (bits_nat .i64 63 (by decide) wi64 a b ha hb).1
theorem or64 (a b : Nat) (ha : a < 9223372036854775808) (hb : b < 9223372036854775808) : Go.bits .or .i64 (a : Int) (b : Int) = ((a ||| b : Nat) : Int) :=
  (bits_nat .i64 63 (by decide) wi64 a b ha hb).2
theorem mask7 (n : Nat) (h : n < 9223372036854775808) : Go.bits .and .i64 (n : Int) 127 = ((n % 128 : Nat) : Int) := by
  have h1 := and64 n 127 h (by omega)
  rw [Nat.and_two_pow_sub_one_eq_mod n 7] at h1
  exact h1
theorem or128 (n : Nat) (h : n < 128) : Go.bits .or .i64 (n : Int) 128 = (n : Int) + 128 := by
  have h1 := or64 n 128 (by omega) (by omega)
  have h2 : n ||| 128 = n + 128 := by
    have h3 := Nat.two_pow_add_eq_or_of_lt (i := 7) (b := n) h 1
    rw [Nat.or_comm]
    simp only [Nat.mul_one, show (2 : Nat) ^ 7 = 128 from rfl] at h3
    omega
  rw [h2] at h1
  exact h1
theorem mask8 (b : Int) (h0 : 0 ≤ b) (h1 : b ≤ 255) : Go.bits .and .u8 b 127 = b % 128 := by
  have h := bits_mask .u8 8 (by decide) wraps_u8 7 (by decide) b h0 (by omega)
  simpa using h

/-! ### Put -/
/-- A number's bytes, the lowest seven bits first. -/
def pb (n : Nat) : List Int := if n < 128 then [(n : Int)] else (((n % 128 : Nat) : Int) + 128) :: pb (n / 128)
decreasing_by omega
theorem pb_small {n : Nat} (h : n < 128) : pb n = [(n : Int)] := by rw [pb, if_pos h]
theorem pb_big {n : Nat} (h : ¬ n < 128) : pb n = (((n % 128 : Nat) : Int) + 128) :: pb (n / 128) := by rw [pb, if_neg h]
theorem empty_app (b : ByteArray) : (⟨#[]⟩ : ByteArray) ++ b = b := by
  apply ByteArray.ext
  simp
theorem strOfNums_app (a b : List Int) : strOfNums (a ++ b) = strOfNums a ++ strOfNums b := by
  apply ByteArray.ext
  simp [strOfNums]

theorem put_l0 (n : Nat) : ∀ (k : Nat) (xs : List Int), n < k → n < 9223372036854775808 → xs.length + n < 140737488355328 → varint_Put.l0 k (n : Int) xs = some (strOfNums (xs ++ pb n), 0) := by
  induction n using Nat.strongRecOn with
  | _ n ih =>
    intro k xs hk hn hl
    obtain ⟨k, rfl⟩ : ∃ m, k = m + 1 := ⟨k - 1, by omega⟩
    simp only [varint_Put.l0]
    by_cases h : n < 128
    · rw [if_neg (by omega), if_pos (by omega), pb_small h, show (n : Int) % 256 = n by omega]
    · rw [if_pos (by omega), if_pos (by omega), pb_big h]
      have e1 : wrap64 (Int.tdiv (n : Int) 128) = ((n / 128 : Nat) : Int) := by
        rw [Int.tdiv_eq_ediv_of_nonneg (by omega), w64 (by omega) (by omega)]
        omega
      have e2 : (wrap64 ((Int.tmod (n : Int) 128) + 128)) % 256 = ((n % 128 : Nat) : Int) + 128 := by
        rw [Int.tmod_eq_emod_of_nonneg (by omega), w64 (by omega) (by omega)]
        omega
      rw [e1, e2, ih (n / 128) (by omega) k _ (by omega) (by omega) (by simp only [List.length_append, List.length_singleton]; omega)]
      simp
/-- What Put answers. -/
def putR (a : Int) : ByteArray × Int := if 0 ≤ a ∧ a ≤ 4294967295 then (strOfNums (pb a.toNat), 0) else ((⟨#[]⟩ : ByteArray), 200)
theorem putR_ok {n : Nat} (h : n ≤ 4294967295) : putR (n : Int) = (strOfNums (pb n), 0) := by
  unfold putR
  rw [if_pos (by omega), Int.toNat_natCast]
theorem put_f (a : Int) (k : Nat) (hk : 4294967300 < k) : varint_Put.f k a = some (putR a) := by
  obtain ⟨k, rfl⟩ : ∃ m, k = m + 1 := ⟨k - 1, by omega⟩
  unfold varint_Put.f putR
  by_cases h0 : a < 0
  · rw [if_pos h0, if_neg (by omega)]
    simp only [varint_Put.j0]
    simp
  · rw [if_neg h0]
    by_cases h1 : a > 4294967295
    · rw [if_neg (by omega)]
      simp only [varint_Put.j0]
      simp [h1]
    · rw [if_pos (by omega)]
      simp only [varint_Put.j0]
      obtain ⟨n, rfl⟩ := Int.eq_ofNat_of_zero_le (Int.not_lt.1 h0)
      simp only [h1, decide_false, Bool.false_eq_true, if_false]
      rw [put_l0 n k [] (by omega) (by omega) (by simp only [List.length_nil]; omega)]
      simp

/-! ### Get -/
/-- The number that is read on, and what is answered at the last byte. -/
def nx (s : ByteArray) (a : Int) (i : Nat) (x : Int) : Int := Go.bits .or .i64 x (shl .i64 (bt s (a + i) % 128) ((7 * i : Nat) : Int))
def fin (s : ByteArray) (a : Int) (i : Nat) (y : Int) : Int × Int × Int :=
  if (putR y).2 = 0 then (if (putR y).1.toList = (s.extract a.toNat (a + ((i + 1 : Nat) : Int)).toNat).toList then (y, a + ((i + 1 : Nat) : Int), 0) else (0, 0, 200)) else (0, 0, 200)
theorem fin_if (s : ByteArray) (a : Int) (i : Nat) (y : Int) : (if (putR y).2 = 0 then (if (putR y).1.toList = (s.extract a.toNat (a + ((i + 1 : Nat) : Int)).toNat).toList then some (y, a + ((i + 1 : Nat) : Int), (0 : Int)) else some (0, 0, 200)) else some (0, 0, 200)) = some (fin s a i y) := by
  unfold fin
  split
  · split <;> rfl
  · rfl
theorem code_out (s : ByteArray) (a x : Int) (i k : Nat) (h : ¬ (a + (i : Int) < s.size ∧ i < 5)) : varint_Get.l0 (k + 2) s a x ((7 * i : Nat) : Int) (a + i) = some (0, 0, 200) := by
  simp only [varint_Get.l0, varint_Get.j2]
  by_cases hlt : a + (i : Int) < s.size
  · have d1 : decide (((7 * i : Nat) : Int) < 35) = false := by rw [decide_eq_false_iff_not]; omega
    rw [if_pos hlt, d1]
    simp
  · rw [if_neg hlt]
    simp
theorem code_in (s : ByteArray) (a x : Int) (i k : Nat) (hs : s.size ≤ 140737488351232) (h0 : 0 ≤ a) (hlt : a + (i : Int) < s.size) (hi : i < 5) (hk : 4294967300 < k) :
    varint_Get.l0 (k + 2) s a x ((7 * i : Nat) : Int) (a + i) = if bt s (a + i) < 128 then some (fin s a i (nx s a i x)) else varint_Get.l0 k s a (nx s a i x) ((7 * (i + 1) : Nat) : Int) (a + ((i + 1 : Nat) : Int)) := by
  have c1 : 0 ≤ a + (i : Int) := by omega
  have c2 : 0 ≤ ((7 * i : Nat) : Int) := by omega
  have c3 : a ≤ a + ((i + 1 : Nat) : Int) := by omega
  have c4 : a + ((i + 1 : Nat) : Int) ≤ s.size := by omega
  have d1 : decide (((7 * i : Nat) : Int) < 35) = true := by rw [decide_eq_true_iff]; omega
  have hb := bt_range s (a + i)
  have wb : wrap64 (bt s (a + i)) = bt s (a + i) := w64 (by omega) (by omega)
  have mb : Int.tmod (bt s (a + i)) 128 = bt s (a + i) % 128 := Int.tmod_eq_emod_of_nonneg hb.1
  have w9 : wrap64 (a + (i : Int) + 1) = a + ((i + 1 : Nat) : Int) := by rw [w64 (by omega) (by omega)]; omega
  have w8 : wrap64 (((7 * i : Nat) : Int) + 7) = ((7 * (i + 1) : Nat) : Int) := by rw [w64 (by omega) (by omega)]; omega
  have hnx : Go.bits .or .i64 x (shl .i64 (bt s (a + i) % 128) ((7 * i : Nat) : Int)) = nx s a i x := rfl
  simp only [varint_Get.l0, varint_Get.j2]
  rw [if_pos hlt, d1, if_pos rfl, if_pos c1, if_pos hlt, if_pos c2]
  rw [wb, mb, w9, w8, hnx, put_f _ k hk, Option.bind_some, if_pos h0, if_pos c3, if_pos c4, fin_if]
  by_cases h : bt s (a + i) < 128
  · rw [if_pos h, if_neg (by omega)]
  · rw [if_neg h, if_pos (by omega)]
theorem awake20 : descantlaw2_awake.f 30 = some true := by decide +kernel
theorem awake_on (K : Nat) (h : 30 ≤ K) : descantlaw2_awake.f K = some true := at_rounds (fun k => descantlaw2_awake.mono k) h awake20
theorem and_le (a : Int) (m : Nat) (hm : m < 9223372036854775808) : ∃ n : Nat, n ≤ m ∧ Go.bits .and .i64 a (m : Int) = (n : Int) := by
  refine ⟨(BitVec.ofInt 64 a &&& BitVec.ofInt 64 (m : Int)).toNat, ?_, ?_⟩
  · rw [BitVec.toNat_and]
    refine Nat.le_trans Nat.and_le_right ?_
    rw [BitVec.ofInt_natCast, BitVec.toNat_ofNat]
    exact Nat.mod_le _ _
  · refine wi64 _ (by omega) ?_
    have h : (BitVec.ofInt 64 a &&& BitVec.ofInt 64 (m : Int)).toNat ≤ m := by
      rw [BitVec.toNat_and]
      refine Nat.le_trans Nat.and_le_right ?_
      rw [BitVec.ofInt_natCast, BitVec.toNat_ofNat]
      exact Nat.mod_le _ _
    show (((BitVec.ofInt 64 a &&& BitVec.ofInt 64 (m : Int)).toNat : Nat) : Int) < 2 ^ 63
    omega


theorem pow_seven (j : Nat) : (2 : Nat) ^ (7 * j) = 128 ^ j := by rw [Nat.pow_mul]
theorem shr_seven (n j : Nat) (hj : j ≤ 5) : shr .i64 (n : Int) ((7 * j : Nat) : Int) = ((n / 128 ^ j : Nat) : Int) := by
  unfold shr
  rw [Int.toNat_natCast, Nat.min_eq_left (show 7 * j ≤ IntKind.i64.bits by simp only [IntKind.bits]; omega)]
  rw [← pow_seven]
  simp
theorem sizes_run (s : ByteArray) (n : Nat) (hn : n ≤ 4294967295) (m : Nat) : ∀ (j k : Nat), j ≤ 4 → m = n / 128 ^ j → s.size = j + (pb m).length → m < k →
    descantlaw2_VarintSizes.l0 k (n : Int) s 0 ((j + 1 : Nat) : Int) = some true := by
  induction m using Nat.strongRecOn with
  | _ m ih =>
    intro j k hj hm hs hk
    obtain ⟨k, rfl⟩ : ∃ q, k = q + 1 := ⟨k - 1, by omega⟩
    have e1 : wrap64 (7 * ((j + 1 : Nat) : Int)) = ((7 * (j + 1) : Nat) : Int) := by rw [w64 (by omega) (by omega)]; omega
    have e2 : wrap64 (((j + 1 : Nat) : Int) + 1) = ((j + 1 + 1 : Nat) : Int) := by rw [w64 (by omega) (by omega)]; omega
    have e3 : n / 128 ^ (j + 1) = m / 128 := by rw [Nat.pow_succ, ← Nat.div_div_eq_div_mul, hm]
    simp only [descantlaw2_VarintSizes.l0]
    rw [e1, if_pos (Int.natCast_nonneg _), shr_seven n (j + 1) (by omega), e3]
    clear e1
    by_cases h : m < 128
    · rw [if_neg (by omega)]
      simp only [descantlaw0_Num.f, Option.bind_some, if_true]
      rw [pb_small h] at hs
      simp only [List.length_singleton] at hs
      rw [hs]
      simp
    · have hj4 : j + 1 ≤ 4 := by
        rcases Nat.lt_or_ge j 4 with h4 | h4
        · omega
        · obtain rfl : j = 4 := by omega
          simp only [show (128 : Nat) ^ 4 = 268435456 from rfl] at hm
          omega
      rw [if_pos (by omega), e2]
      rw [pb_big h] at hs
      simp only [List.length_cons] at hs
      exact ih (m / 128) (by omega) (j + 1) k hj4 e3.symm (by omega) (by omega)
/-- YOURS -/
theorem VarintSizes : descantlaw2_VarintSizes.Pure := by
  intro a0 _
  obtain ⟨n, hn, he⟩ := and_le a0 4294967295 (by omega)
  obtain ⟨K, hK⟩ : ∃ K : Nat, 4294967500 < K := ⟨4294967501, by omega⟩
  refine ⟨K, ?_⟩
  unfold descantlaw2_VarintSizes.f
  have he' : Go.bits .and .i64 a0 4294967295 = (n : Int) := he
  rw [awake_on K (by omega), Option.bind_some, if_pos rfl, he', put_f (n : Int) K (by omega), Option.bind_some, putR_ok hn]
  exact sizes_run _ n hn n 0 K (by omega) (by simp) (by rw [strOfNums_size]; simp) (by omega)

end Go.Proofs.Ytdfmdenhhamclaa.Pure
