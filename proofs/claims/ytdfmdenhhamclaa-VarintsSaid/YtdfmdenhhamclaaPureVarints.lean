/- The varint law: for every number, text and place both programs put and get the same. -/
import Derived.Test.YtdfmdenhhamclaaPVarintsx
namespace Go.Proofs.Ytdfmdenhhamclaa.Pure
open Go.RowKit Go.Proofs.Ytdfmdenhhamclaa.PVarints Go.Proofs.YtdfmdenhhamclaaW.PrintWords Go.Proofs.YtdfmdenhhamclaaW.PrintLast

/-! ### Numbers -/
theorem w64 {x : Int} (h0 : -9223372036854775808 ≤ x) (h1 : x ≤ 9223372036854775807) : wrap64 x = x := by
  unfold wrap64
  omega
theorem wi64 (n : Int) (h₀ : 0 ≤ n) (h₁ : n < 2 ^ 63) : IntKind.i64.wrap n = n := by rw [IntKind.wrap_i64]; omega
theorem and64 (a b : Nat) (ha : a < 9223372036854775808) (hb : b < 9223372036854775808) : Go.bits .and .i64 (a : Int) (b : Int) = ((a &&& b : Nat) : Int) :=
  (bits_nat .i64 63 (by decide) wi64 a b ha hb).1
theorem or64 (a b : Nat) (ha : a < 9223372036854775808) (hb : b < 9223372036854775808) : Go.bits .or .i64 (a : Int) (b : Int) = ((a ||| b : Nat) : Int) :=
  (bits_nat .i64 63 (by decide) wi64 a b ha hb).2
theorem mask7 (n : Nat) (h : n < 9223372036854775808) : Go.bits .and .i64 (n : Int) 127 = ((n % 128 : Nat) : Int) := by
  have h1 := and64 n 127 h (by omega)
  rw [Nat.and_two_pow_sub_one_eq_mod n 7] at h1
  exact h1
theorem or128 (n : Nat) (h : n < 128) : Go.bits .or .i64 (n : Int) 128 = (n : Int) + 128 := by
  have h1 := or64 n 128 (by omega) (by omega)
  have h2 : n ||| 128 = n + 128 := by
    have h3 := Nat.two_pow_add_eq_or_of_lt (i := 7) (b := n) h 1
    rw [Nat.or_comm]
    simp only [Nat.mul_one, show (2 : Nat) ^ 7 = 128 from rfl] at h3
    omega
  rw [h2] at h1
  exact h1
theorem mask8 (b : Int) (h0 : 0 ≤ b) (h1 : b ≤ 255) : Go.bits .and .u8 b 127 = b % 128 := by
  have h := bits_mask .u8 8 (by decide) wraps_u8 7 (by decide) b h0 (by omega)
  simpa using h

/-! ### Put -/
/-- A number's bytes, the lowest seven bits first. -/
def pb (n : Nat) : List Int := if n < 128 then [(n : Int)] else (((n % 128 : Nat) : Int) + 128) :: pb (n / 128)
decreasing_by omega
theorem pb_small {n : Nat} (h : n < 128) : pb n = [(n : Int)] := by rw [pb, if_pos h]
theorem pb_big {n : Nat} (h : ¬ n < 128) : pb n = (((n % 128 : Nat) : Int) + 128) :: pb (n / 128) := by rw [pb, if_neg h]
theorem empty_app (b : ByteArray) : (⟨#[]⟩ : ByteArray) ++ b = b := by
  apply ByteArray.ext
  simp
theorem strOfNums_app (a b : List Int) : strOfNums (a ++ b) = strOfNums a ++ strOfNums b := by
  apply ByteArray.ext
  simp [strOfNums]

theorem put_l0 (n : Nat) : ∀ (k : Nat) (xs : List Int), n < k → n < 9223372036854775808 → xs.length + n < 140737488355328 → varint_Put.l0 k (n : Int) xs = some (strOfNums (xs ++ pb n), 0) := by
  induction n using Nat.strongRecOn with
  | _ n ih =>
    intro k xs hk hn hl
    obtain ⟨k, rfl⟩ : ∃ m, k = m + 1 := ⟨k - 1, by omega⟩
    simp only [varint_Put.l0]
    by_cases h : n < 128
    · rw [if_neg (by omega), if_pos (by omega), pb_small h, show (n : Int) % 256 = n by omega]
    · rw [if_pos (by omega), if_pos (by omega), pb_big h]
      have e1 : wrap64 (Int.tdiv (n : Int) 128) = ((n / 128 : Nat) : Int) := by
        rw [Int.tdiv_eq_ediv_of_nonneg (by omega), w64 (by omega) (by omega)]
        omega
      have e2 : (wrap64 ((Int.tmod (n : Int) 128) + 128)) % 256 = ((n % 128 : Nat) : Int) + 128 := by
        rw [Int.tmod_eq_emod_of_nonneg (by omega), w64 (by omega) (by omega)]
        omega
      rw [e1, e2, ih (n / 128) (by omega) k _ (by omega) (by omega) (by simp only [List.length_append, List.length_singleton]; omega)]
      simp
/-- What Put answers. -/
def putR (a : Int) : ByteArray × Int := if 0 ≤ a ∧ a ≤ 4294967295 then (strOfNums (pb a.toNat), 0) else ((⟨#[]⟩ : ByteArray), 200)
theorem putR_ok {n : Nat} (h : n ≤ 4294967295) : putR (n : Int) = (strOfNums (pb n), 0) := by
  unfold putR
  rw [if_pos (by omega), Int.toNat_natCast]
theorem put_f (a : Int) (k : Nat) (hk : 4294967300 < k) : varint_Put.f k a = some (putR a) := by
  obtain ⟨k, rfl⟩ : ∃ m, k = m + 1 := ⟨k - 1, by omega⟩
  unfold varint_Put.f putR
  by_cases h0 : a < 0
  · rw [if_pos h0, if_neg (by omega)]
    simp only [varint_Put.j0]
    simp
  · rw [if_neg h0]
    by_cases h1 : a > 4294967295
    · rw [if_neg (by omega)]
      simp only [varint_Put.j0]
      simp [h1]
    · rw [if_pos (by omega)]
      simp only [varint_Put.j0]
      obtain ⟨n, rfl⟩ := Int.eq_ofNat_of_zero_le (Int.not_lt.1 h0)
      simp only [h1, decide_false, Bool.false_eq_true, if_false]
      rw [put_l0 n k [] (by omega) (by omega) (by simp only [List.length_nil]; omega)]
      simp

/-! ### The document's Put -/
theorem ref_l0 (n : Nat) : ∀ (k : Nat) (s : ByteArray), n < k → n < 9223372036854775808 → s.size + n < 9223372036854775807 → descantref1_PutVarint.l0 k (n : Int) s = some (s ++ strOfNums (pb n), 0) := by
  induction n using Nat.strongRecOn with
  | _ n ih =>
    intro k s hk hn hl
    obtain ⟨k, rfl⟩ : ∃ m, k = m + 1 := ⟨k - 1, by omega⟩
    simp only [descantref1_PutVarint.l0, Option.bind_some, strOfNums_size, List.length_singleton]
    by_cases h : n < 128
    · rw [if_neg (by omega), if_pos (by omega), pb_small h, show (n : Int) % 256 = n by omega]
    · rw [if_pos (by omega), if_pos (by omega), pb_big h, mask7 n (by omega), or128 _ (by omega)]
      rw [show (((n % 128 : Nat) : Int) + 128) % 256 = ((n % 128 : Nat) : Int) + 128 by omega, show (n : Int) / 128 = ((n / 128 : Nat) : Int) by omega]
      rw [ih (n / 128) (by omega) k _ (by omega) (by omega) (by rw [ByteArray.size_append, strOfNums_size, List.length_singleton]; omega)]
      rw [show (((n % 128 : Nat) : Int) + 128) :: pb (n / 128) = [((n % 128 : Nat) : Int) + 128] ++ pb (n / 128) from rfl, strOfNums_app, ByteArray.append_assoc]
theorem ref_f (a : Int) (k : Nat) (hk : 4294967300 < k) : descantref1_PutVarint.f k a = some (putR a) := by
  unfold descantref1_PutVarint.f putR descantref1_upTo.f
  by_cases h0 : a < 0
  · rw [if_neg (by omega), if_neg (by omega)]
    simp
  · rw [if_pos (by omega)]
    by_cases h1 : a > 4294967295
    · rw [if_neg (by omega)]
      have : ¬ a ≤ 4294967295 := by omega
      simp [this]
    · rw [if_pos (by omega)]
      obtain ⟨n, rfl⟩ := Int.eq_ofNat_of_zero_le (Int.not_lt.1 h0)
      have : (n : Int) ≤ 4294967295 := by omega
      simp only [Option.bind_some, this, decide_true, if_true]
      rw [ref_l0 n k _ (by omega) (by omega) (by simp [ByteArray.size]; omega), empty_app]
      simp

/-! ### Get -/
/-- The number that is read on, and what is answered at the last byte. -/
def nx (s : ByteArray) (a : Int) (i : Nat) (x : Int) : Int := Go.bits .or .i64 x (shl .i64 (bt s (a + i) % 128) ((7 * i : Nat) : Int))
def fin (s : ByteArray) (a : Int) (i : Nat) (y : Int) : Int × Int × Int :=
  if (putR y).2 = 0 then (if (putR y).1.toList = (s.extract a.toNat (a + ((i + 1 : Nat) : Int)).toNat).toList then (y, a + ((i + 1 : Nat) : Int), 0) else (0, 0, 200)) else (0, 0, 200)
theorem fin_if (s : ByteArray) (a : Int) (i : Nat) (y : Int) : (if (putR y).2 = 0 then (if (putR y).1.toList = (s.extract a.toNat (a + ((i + 1 : Nat) : Int)).toNat).toList then some (y, a + ((i + 1 : Nat) : Int), (0 : Int)) else some (0, 0, 200)) else some (0, 0, 200)) = some (fin s a i y) := by
  unfold fin
  split
  · split <;> rfl
  · rfl
theorem code_out (s : ByteArray) (a x : Int) (i k : Nat) (h : ¬ (a + (i : Int) < s.size ∧ i < 5)) : varint_Get.l0 (k + 2) s a x ((7 * i : Nat) : Int) (a + i) = some (0, 0, 200) := by
  simp only [varint_Get.l0, varint_Get.j2]
  by_cases hlt : a + (i : Int) < s.size
  · have d1 : decide (((7 * i : Nat) : Int) < 35) = false := by rw [decide_eq_false_iff_not]; omega
    rw [if_pos hlt, d1]
    simp
  · rw [if_neg hlt]
    simp
theorem ref_out (s : ByteArray) (a x : Int) (i k : Nat) (hs : s.size ≤ 140737488351232) (h0 : 0 ≤ a) (h1 : a ≤ s.size) (hi : i ≤ 5) (h : ¬ (a + (i : Int) < s.size ∧ i < 5)) : descantref1_GetVarint.l0 (k + 2) s a x (i : Int) = some (0, 0, 200) := by
  have wi : wrap64 (a + (i : Int)) = a + i := w64 (by omega) (by omega)
  simp only [descantref1_GetVarint.l0, descantref1_GetVarint.j2, wi]
  by_cases h5 : (i : Int) < 5
  · have d2 : decide (a + (i : Int) < s.size) = false := by rw [decide_eq_false_iff_not]; omega
    rw [if_pos h5, d2]
    simp
  · rw [if_neg h5]
    simp
theorem code_in (s : ByteArray) (a x : Int) (i k : Nat) (hs : s.size ≤ 140737488351232) (h0 : 0 ≤ a) (hlt : a + (i : Int) < s.size) (hi : i < 5) (hk : 4294967300 < k) :
    varint_Get.l0 (k + 2) s a x ((7 * i : Nat) : Int) (a + i) = if bt s (a + i) < 128 then some (fin s a i (nx s a i x)) else varint_Get.l0 k s a (nx s a i x) ((7 * (i + 1) : Nat) : Int) (a + ((i + 1 : Nat) : Int)) := by
  have c1 : 0 ≤ a + (i : Int) := by omega
  have c2 : 0 ≤ ((7 * i : Nat) : Int) := by omega
  have c3 : a ≤ a + ((i + 1 : Nat) : Int) := by omega
  have c4 : a + ((i + 1 : Nat) : Int) ≤ s.size := by omega
  have d1 : decide (((7 * i : Nat) : Int) < 35) = true := by rw [decide_eq_true_iff]; omega
  have hb := bt_range s (a + i)
  have wb : wrap64 (bt s (a + i)) = bt s (a + i) := w64 (by omega) (by omega)
  have mb : Int.tmod (bt s (a + i)) 128 = bt s (a + i) % 128 := Int.tmod_eq_emod_of_nonneg hb.1
  have w9 : wrap64 (a + (i : Int) + 1) = a + ((i + 1 : Nat) : Int) := by rw [w64 (by omega) (by omega)]; omega
  have w8 : wrap64 (((7 * i : Nat) : Int) + 7) = ((7 * (i + 1) : Nat) : Int) := by rw [w64 (by omega) (by omega)]; omega
  have hnx : Go.bits .or .i64 x (shl .i64 (bt s (a + i) % 128) ((7 * i : Nat) : Int)) = nx s a i x := rfl
  simp only [varint_Get.l0, varint_Get.j2]
  rw [if_pos hlt, d1, if_pos rfl, if_pos c1, if_pos hlt, if_pos c2]
  rw [wb, mb, w9, w8, hnx, put_f _ k hk, Option.bind_some, if_pos h0, if_pos c3, if_pos c4, fin_if]
  by_cases h : bt s (a + i) < 128
  · rw [if_pos h, if_neg (by omega)]
  · rw [if_neg h, if_pos (by omega)]
theorem ref_in (s : ByteArray) (a x : Int) (i k : Nat) (hs : s.size ≤ 140737488351232) (h0 : 0 ≤ a) (hlt : a + (i : Int) < s.size) (hi : i < 5) (hk : 4294967300 < k) :
    descantref1_GetVarint.l0 (k + 2) s a x (i : Int) = if bt s (a + i) < 128 then some (fin s a i (nx s a i x)) else descantref1_GetVarint.l0 k s a (nx s a i x) ((i + 1 : Nat) : Int) := by
  have c0 : (i : Int) < 5 := by omega
  have c1 : 0 ≤ a + (i : Int) := by omega
  have c2 : 0 ≤ ((7 * i : Nat) : Int) := by omega
  have c3 : a ≤ a + ((i + 1 : Nat) : Int) := by omega
  have c4 : a + ((i + 1 : Nat) : Int) ≤ s.size := by omega
  have wi : wrap64 (a + (i : Int)) = a + i := w64 (by omega) (by omega)
  have hb := bt_range s (a + i)
  have m8 : Go.bits .and .u8 (bt s (a + i)) 127 = bt s (a + i) % 128 := mask8 _ hb.1 hb.2
  have wm : wrap64 (bt s (a + i) % 128) = bt s (a + i) % 128 := w64 (by omega) (by omega)
  have w7 : wrap64 (7 * (i : Int)) = ((7 * i : Nat) : Int) := by rw [w64 (by omega) (by omega)]; omega
  have d2 : decide (a + (i : Int) < s.size) = true := by rw [decide_eq_true_iff]; exact hlt
  have w9 : wrap64 (a + (i : Int) + 1) = a + ((i + 1 : Nat) : Int) := by rw [w64 (by omega) (by omega)]; omega
  have wi1 : wrap64 ((i : Int) + 1) = ((i + 1 : Nat) : Int) := by rw [w64 (by omega) (by omega)]; omega
  have hnx : Go.bits .or .i64 x (shl .i64 (bt s (a + i) % 128) ((7 * i : Nat) : Int)) = nx s a i x := rfl
  simp only [descantref1_GetVarint.l0, descantref1_GetVarint.j2]
  rw [if_pos c0, wi, d2, if_pos rfl, if_pos c1, if_pos hlt, w7, if_pos c2]
  rw [m8, wm, w9, wi1, hnx, ref_f _ k hk, Option.bind_some, if_pos h0, if_pos c3, if_pos c4, fin_if]
theorem get_same (s : ByteArray) (a : Int) (hs : s.size ≤ 140737488351232) (h0 : 0 ≤ a) (h1 : a ≤ s.size) : ∀ (d i : Nat) (x : Int), i + d = 5 →
    ∃ r, (∀ k, 4294967310 + 2 * d < k → varint_Get.l0 k s a x ((7 * i : Nat) : Int) (a + i) = some r) ∧ (∀ k, 4294967310 + 2 * d < k → descantref1_GetVarint.l0 k s a x (i : Int) = some r) := by
  intro d
  induction d with
  | zero =>
    intro i x hi
    refine ⟨(0, 0, 200), fun k hk => ?_, fun k hk => ?_⟩
    · obtain ⟨k, rfl⟩ : ∃ m, k = m + 2 := ⟨k - 2, by omega⟩
      exact code_out s a x i k (by omega)
    · obtain ⟨k, rfl⟩ : ∃ m, k = m + 2 := ⟨k - 2, by omega⟩
      exact ref_out s a x i k hs h0 h1 (by omega) (by omega)
  | succ d ih =>
    intro i x hi
    by_cases hlt : a + (i : Int) < s.size
    · by_cases h128 : bt s (a + i) < 128
      · refine ⟨fin s a i (nx s a i x), fun k hk => ?_, fun k hk => ?_⟩
        · obtain ⟨k, rfl⟩ : ∃ m, k = m + 2 := ⟨k - 2, by omega⟩
          rw [code_in s a x i k hs h0 hlt (by omega) (by omega), if_pos h128]
        · obtain ⟨k, rfl⟩ : ∃ m, k = m + 2 := ⟨k - 2, by omega⟩
          rw [ref_in s a x i k hs h0 hlt (by omega) (by omega), if_pos h128]
      · obtain ⟨r, hr1, hr2⟩ := ih (i + 1) (nx s a i x) (by omega)
        refine ⟨r, fun k hk => ?_, fun k hk => ?_⟩
        · obtain ⟨k, rfl⟩ : ∃ m, k = m + 2 := ⟨k - 2, by omega⟩
          rw [code_in s a x i k hs h0 hlt (by omega) (by omega), if_neg h128]
          exact hr1 k (by omega)
        · obtain ⟨k, rfl⟩ : ∃ m, k = m + 2 := ⟨k - 2, by omega⟩
          rw [ref_in s a x i k hs h0 hlt (by omega) (by omega), if_neg h128]
          exact hr2 k (by omega)
    · refine ⟨(0, 0, 200), fun k hk => ?_, fun k hk => ?_⟩
      · obtain ⟨k, rfl⟩ : ∃ m, k = m + 2 := ⟨k - 2, by omega⟩
        exact code_out s a x i k (by omega)
      · obtain ⟨k, rfl⟩ : ∃ m, k = m + 2 := ⟨k - 2, by omega⟩
        exact ref_out s a x i k hs h0 h1 (by omega) (by omega)

theorem get_f (s : ByteArray) (a : Int) (hs : s.size ≤ 140737488351232) : ∃ r, ∀ k, 4294967400 < k → varint_Get.f k s a = some r ∧ descantref1_GetVarint.f k s a = some r := by
  by_cases h0 : a < 0
  · refine ⟨(0, 0, 200), fun k hk => ?_⟩
    obtain ⟨k, rfl⟩ : ∃ m, k = m + 2 := ⟨k - 2, by omega⟩
    simp [varint_Get.f, descantref1_GetVarint.f, h0, varint_Get.j0, descantref1_GetVarint.j0]
  · by_cases h1 : a > s.size
    · refine ⟨(0, 0, 200), fun k hk => ?_⟩
      obtain ⟨k, rfl⟩ : ∃ m, k = m + 2 := ⟨k - 2, by omega⟩
      simp [varint_Get.f, descantref1_GetVarint.f, h0, h1, varint_Get.j0, descantref1_GetVarint.j0]
    · obtain ⟨r, hr1, hr2⟩ := get_same s a hs (by omega) (by omega) 5 0 0 (by omega)
      refine ⟨r, fun k hk => ?_⟩
      obtain ⟨k, rfl⟩ : ∃ m, k = m + 1 := ⟨k - 1, by omega⟩
      unfold varint_Get.f descantref1_GetVarint.f
      rw [if_neg h0, if_neg h0]
      simp only [varint_Get.j0, descantref1_GetVarint.j0, h1, decide_false, Bool.false_eq_true, if_false]
      have q1 := hr1 k (by omega)
      have q2 := hr2 k (by omega)
      simp only [Nat.mul_zero, Int.natCast_zero, Int.add_zero] at q1 q2
      exact ⟨q1, q2⟩

theorem awake20 : descantlaw2_awake.f 30 = some true := by decide +kernel

/-- YOURS -/
theorem Varints : descantlaw2_Varints.Pure := by
  intro a0 a1 a2 _ h1 _
  obtain ⟨K, hK⟩ : ∃ K : Nat, 4294967500 < K := ⟨4294967501, by omega⟩
  obtain ⟨r, hr⟩ := get_f a1 a2 h1
  obtain ⟨g1, g2⟩ := hr K (by omega)
  have aw := at_rounds (fun k => descantlaw2_awake.mono k) (show 30 ≤ K by omega) awake20
  refine ⟨K, ?_⟩
  unfold descantlaw2_Varints.f
  rw [put_f a0 K (by omega), ref_f a0 K (by omega), g1, g2, aw]
  simp [descantlaw0_Num.f]

end Go.Proofs.Ytdfmdenhhamclaa.Pure
