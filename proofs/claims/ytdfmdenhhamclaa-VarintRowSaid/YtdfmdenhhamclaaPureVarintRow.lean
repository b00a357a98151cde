/- Numbers one behind the other are taken one behind the other. -/
import Derived.Test.YtdfmdenhhamclaaPVarintRowx
namespace Go.Proofs.Ytdfmdenhhamclaa.Pure
open Go.RowKit Go.Proofs.Ytdfmdenhhamclaa.PVarintRow Go.Proofs.YtdfmdenhhamclaaW.PrintWords Go.Proofs.YtdfmdenhhamclaaW.PrintLast

/-! ### Numbers -/
theorem w64 {x : Int} (h0 : -9223372036854775808 ≤ x) (h1 : x ≤ 9223372036854775807) : wrap64 x = x := by
  unfold wrap64
  omega
theorem w64e {x y : Int} (h : x = y) (h0 : -9223372036854775808 ≤ y) (h1 : y ≤ 9223372036854775807) : wrap64 x = y := by
  rw [h]
  exact w64 h0 h1
theorem wi64 (n : Int) (h₀ : 0 ≤ n) (h₁ : n < 2 ^ 63) : IntKind.i64.wrap n = n := by rw [IntKind.wrap_i64]; omega
theorem and64 (a b : Nat) (ha : a < 9223372036854775808) (hb : b < 9223372036854775808) : Go.bits .and .i64 (a : Int) (b : Int) = ((a &&& b : Nat) : Int) :=
  (bits_nat .i64 63 (by decide) wi64 a b ha hb).1
theorem or64 (a b : Nat) (ha : a < 9223372036854775808) (hb : b < 9223372036854775808) : Go.bits .or .i64 (a : Int) (b : Int) = ((a ||| b : Nat) : Int) :=
  (bits_nat .i64 63 (by decide) wi64 a b ha hb).2
theorem mask7 (n : Nat) (h : n < 9223372036854775808) : Go.bits .and .i64 (n : Int) 127 = ((n % 128 : Nat) : Int) := by
  have h1 := and64 n 127 h (by omega)
  rw [Nat.and_two_pow_sub_one_eq_mod n 7] at h1
  exact h1
theorem or128 (n : Nat) (h : n < 128) : Go.bits .or .i64 (n : Int) 128 = (n : Int) + 128 := by
  have h1 := or64 n 128 (by omega) (by omega)
  have h2 : n ||| 128 = n + 128 := by
    have h3 := Nat.two_pow_add_eq_or_of_lt (i := 7) (b := n) h 1
    rw [Nat.or_comm]
    simp only [Nat.mul_one, show (2 : Nat) ^ 7 = 128 from rfl] at h3
    omega
  rw [h2] at h1
  exact h1
theorem mask8 (b : Int) (h0 : 0 ≤ b) (h1 : b ≤ 255) : Go.bits .and .u8 b 127 = b % 128 := by
  have h := bits_mask .u8 8 (by decide) wraps_u8 7 (by decide) b h0 (by omega)
  simpa using h

/-! ### Put -/
/-- A number's bytes, the lowest seven bits first. -/
def pb (n : Nat) : List Int := if n < 128 then [(n : Int)] else (((n % 128 : Nat) : Int) + 128) :: pb (n / 128)
decreasing_by omega
theorem pb_small {n : Nat} (h : n < 128) : pb n = [(n : Int)] := by rw [pb, if_pos h]
theorem pb_big {n : Nat} (h : ¬ n < 128) : pb n = (((n % 128 : Nat) : Int) + 128) :: pb (n / 128) := by rw [pb, if_neg h]
theorem empty_app (b : ByteArray) : (⟨#[]⟩ : ByteArray) ++ b = b := by
  apply ByteArray.ext
  simp
theorem strOfNums_app (a b : List Int) : strOfNums (a ++ b) = strOfNums a ++ strOfNums b := by
  apply ByteArray.ext
  simp [strOfNums]

theorem put_l0 (n : Nat) : ∀ (k : Nat) (xs : List Int), n < k → n < 9223372036854775808 → xs.length + n < 140737488355328 → varint_Put.l0 k (n : Int) xs = some (strOfNums (xs ++ pb n), 0) := by
  induction n using Nat.strongRecOn with
  | _ n ih =>
    intro k xs hk hn hl
    obtain ⟨k, rfl⟩ : ∃ m, k = m + 1 := ⟨k - 1, by omega⟩
    simp only [varint_Put.l0]
    by_cases h : n < 128
    · rw [if_neg (by omega), if_pos (by omega), pb_small h, show (n : Int) % 256 = n by omega]
    · rw [if_pos (by omega), if_pos (by omega), pb_big h]
      have e1 : wrap64 (Int.tdiv (n : Int) 128) = ((n / 128 : Nat) : Int) := by
        rw [Int.tdiv_eq_ediv_of_nonneg (by omega), w64 (by omega) (by omega)]
        omega
      have e2 : (wrap64 ((Int.tmod (n : Int) 128) + 128)) % 256 = ((n % 128 : Nat) : Int) + 128 := by
        rw [Int.tmod_eq_emod_of_nonneg (by omega), w64 (by omega) (by omega)]
        omega
      rw [e1, e2, ih (n / 128) (by omega) k _ (by omega) (by omega) (by simp only [List.length_append, List.length_singleton]; omega)]
      simp
/-- What Put answers. -/
def putR (a : Int) : ByteArray × Int := if 0 ≤ a ∧ a ≤ 4294967295 then (strOfNums (pb a.toNat), 0) else ((⟨#[]⟩ : ByteArray), 200)
theorem putR_ok {n : Nat} (h : n ≤ 4294967295) : putR (n : Int) = (strOfNums (pb n), 0) := by
  unfold putR
  rw [if_pos (by omega), Int.toNat_natCast]
theorem put_f (a : Int) (k : Nat) (hk : 4294967300 < k) : varint_Put.f k a = some (putR a) := by
  obtain ⟨k, rfl⟩ : ∃ m, k = m + 1 := ⟨k - 1, by omega⟩
  unfold varint_Put.f putR
  by_cases h0 : a < 0
  · rw [if_pos h0, if_neg (by omega)]
    simp only [varint_Put.j0]
    simp
  · rw [if_neg h0]
    by_cases h1 : a > 4294967295
    · rw [if_neg (by omega)]
      simp only [varint_Put.j0]
      simp [h1]
    · rw [if_pos (by omega)]
      simp only [varint_Put.j0]
      obtain ⟨n, rfl⟩ := Int.eq_ofNat_of_zero_le (Int.not_lt.1 h0)
      simp only [h1, decide_false, Bool.false_eq_true, if_false]
      rw [put_l0 n k [] (by omega) (by omega) (by simp only [List.length_nil]; omega)]
      simp

/-! ### Get -/
/-- The number that is read on, and what is answered at the last byte. -/
def nx (s : ByteArray) (a : Int) (i : Nat) (x : Int) : Int := Go.bits .or .i64 x (shl .i64 (bt s (a + i) % 128) ((7 * i : Nat) : Int))
def fin (s : ByteArray) (a : Int) (i : Nat) (y : Int) : Int × Int × Int :=
  if (putR y).2 = 0 then (if (putR y).1.toList = (s.extract a.toNat (a + ((i + 1 : Nat) : Int)).toNat).toList then (y, a + ((i + 1 : Nat) : Int), 0) else (0, 0, 200)) else (0, 0, 200)
theorem fin_if (s : ByteArray) (a : Int) (i : Nat) (y : Int) : (if (putR y).2 = 0 then (if (putR y).1.toList = (s.extract a.toNat (a + ((i + 1 : Nat) : Int)).toNat).toList then some (y, a + ((i + 1 : Nat) : Int), (0 : Int)) else some (0, 0, 200)) else some (0, 0, 200)) = some (fin s a i y) := by
  unfold fin
  split
  · split <;> rfl
  · rfl
theorem code_out (s : ByteArray) (a x : Int) (i k : Nat) (h : ¬ (a + (i : Int) < s.size ∧ i < 5)) : varint_Get.l0 (k + 2) s a x ((7 * i : Nat) : Int) (a + i) = some (0, 0, 200) := by
  simp only [varint_Get.l0, varint_Get.j2]
  by_cases hlt : a + (i : Int) < s.size
  · have d1 : decide (((7 * i : Nat) : Int) < 35) = false := by rw [decide_eq_false_iff_not]; omega
    rw [if_pos hlt, d1]
    simp
  · rw [if_neg hlt]
    simp
theorem code_in (s : ByteArray) (a x : Int) (i k : Nat) (hs : s.size ≤ 140737488351232) (h0 : 0 ≤ a) (hlt : a + (i : Int) < s.size) (hi : i < 5) (hk : 4294967300 < k) :
    varint_Get.l0 (k + 2) s a x ((7 * i : Nat) : Int) (a + i) = if bt s (a + i) < 128 then some (fin s a i (nx s a i x)) else varint_Get.l0 k s a (nx s a i x) ((7 * (i + 1) : Nat) : Int) (a + ((i + 1 : Nat) : Int)) := by
  have c1 : 0 ≤ a + (i : Int) := by omega
  have c2 : 0 ≤ ((7 * i : Nat) : Int) := by omega
  have c3 : a ≤ a + ((i + 1 : Nat) : Int) := by omega
  have c4 : a + ((i + 1 : Nat) : Int) ≤ s.size := by omega
  have d1 : decide (((7 * i : Nat) : Int) < 35) = true := by rw [decide_eq_true_iff]; omega
  have hb := bt_range s (a + i)
  have wb : wrap64 (bt s (a + i)) = bt s (a + i) := w64 (by omega) (by omega)
  have mb : Int.tmod (bt s (a + i)) 128 = bt s (a + i) % 128 := Int.tmod_eq_emod_of_nonneg hb.1
  have w9 : wrap64 (a + (i : Int) + 1) = a + ((i + 1 : Nat) : Int) := by rw [w64 (by omega) (by omega)]; omega
  have w8 : wrap64 (((7 * i : Nat) : Int) + 7) = ((7 * (i + 1) : Nat) : Int) := by rw [w64 (by omega) (by omega)]; omega
  have hnx : Go.bits .or .i64 x (shl .i64 (bt s (a + i) % 128) ((7 * i : Nat) : Int)) = nx s a i x := rfl
  simp only [varint_Get.l0, varint_Get.j2]
  rw [if_pos hlt, d1, if_pos rfl, if_pos c1, if_pos hlt, if_pos c2]
  rw [wb, mb, w9, w8, hnx, put_f _ k hk, Option.bind_some, if_pos h0, if_pos c3, if_pos c4, fin_if]
  by_cases h : bt s (a + i) < 128
  · rw [if_pos h, if_neg (by omega)]
  · rw [if_neg h, if_pos (by omega)]
theorem awake20 : descantlaw2_awake.f 30 = some true := by decide +kernel
theorem awake_on (K : Nat) (h : 30 ≤ K) : descantlaw2_awake.f K = some true := at_rounds (fun k => descantlaw2_awake.mono k) h awake20
theorem and_le (a : Int) (m : Nat) (hm : m < 9223372036854775808) : ∃ n : Nat, n ≤ m ∧ Go.bits .and .i64 a (m : Int) = (n : Int) := by
  refine ⟨(BitVec.ofInt 64 a &&& BitVec.ofInt 64 (m : Int)).toNat, ?_, ?_⟩
  · rw [BitVec.toNat_and]
    refine Nat.le_trans Nat.and_le_right ?_
    rw [BitVec.ofInt_natCast, BitVec.toNat_ofNat]
    exact Nat.mod_le _ _
  · refine wi64 _ (by omega) ?_
    have h : (BitVec.ofInt 64 a &&& BitVec.ofInt 64 (m : Int)).toNat ≤ m := by
      rw [BitVec.toNat_and]
      refine Nat.le_trans Nat.and_le_right ?_
      rw [BitVec.ofInt_natCast, BitVec.toNat_ofNat]
      exact Nat.mod_le _ _
    show (((BitVec.ofInt 64 a &&& BitVec.ofInt 64 (m : Int)).toNat : Nat) : Int) < 2 ^ 63
    omega

/-! ### What was put is got -/
/-- The bytes of these numbers, one behind the other. -/
def pbs : List Nat → List Int
  | [] => []
  | n :: r => pb n ++ pbs r
theorem pb_len (n : Nat) : 0 < (pb n).length := by
  by_cases h : n < 128
  · rw [pb_small h]; simp
  · rw [pb_big h]; simp
theorem pb_bytes (n : Nat) : ∀ x ∈ pb n, 0 ≤ x ∧ x ≤ 255 := by
  induction n using Nat.strongRecOn with
  | _ n ih =>
    by_cases h : n < 128
    · rw [pb_small h]
      intro x hx
      simp only [List.mem_singleton] at hx
      omega
    · rw [pb_big h]
      intro x hx
      simp only [List.mem_cons] at hx
      rcases hx with hx | hx
      · omega
      · exact ih (n / 128) (by omega) x hx
theorem bt_nums (L : List Int) (i : Nat) (x : Int) (hx : L[i]? = some x) (h0 : 0 ≤ x) (h1 : x ≤ 255) : bt (strOfNums L) (i : Int) = x := by
  obtain ⟨hi, he⟩ := List.getElem?_eq_some_iff.1 hx
  unfold bt
  rw [dif_pos (by rw [strOfNums_size, Int.toNat_natCast]; exact hi)]
  have : (strOfNums L)[(i : Int).toNat]'(by rw [strOfNums_size, Int.toNat_natCast]; exact hi) = UInt8.ofNat x.toNat := by
    show (strOfNums L).data[(i : Int).toNat]'_ = _
    simp [strOfNums, he]
  rw [this]
  simp only [UInt8.toNat_ofNat']
  omega
theorem extract_nums (P M Q : List Int) : (strOfNums (P ++ M ++ Q)).extract P.length (P.length + M.length) = strOfNums M := by
  apply ByteArray.ext
  rw [ByteArray.data_extract]
  apply Array.ext'
  simp only [strOfNums, Array.toList_extract, List.extract_eq_take_drop, List.map_append, List.append_assoc, Nat.add_sub_cancel_left]
  rw [List.drop_left' (by simp), List.take_left' (by simp)]
/-- The number's bytes stand at a place: they are read on, from the i-th one. -/
theorem get_run (P Q : List Int) (n : Nat) (hn : n ≤ 4294967295) (hs : (P ++ pb n ++ Q).length ≤ 140737488351232) (m : Nat) : ∀ (i k : Nat) (done : List Int), i ≤ 4 → m = n / 128 ^ i → pb n = done ++ pb m → done.length = i → 4294967320 + 2 * m < k →
    varint_Get.l0 k (strOfNums (P ++ pb n ++ Q)) (P.length : Int) ((n % 128 ^ i : Nat) : Int) ((7 * i : Nat) : Int) ((P.length : Int) + i) = some ((n : Int), (P.length : Int) + (pb n).length, 0) := by
  induction m using Nat.strongRecOn with
  | _ m ih =>
    intro i k done hi hm hd hl hk
    obtain ⟨k, rfl⟩ : ∃ q, k = q + 2 := ⟨k - 2, by omega⟩
    have hlen := pb_len m
    have hsz : (strOfNums (P ++ pb n ++ Q)).size = P.length + (pb n).length + Q.length := by rw [strOfNums_size, List.length_append, List.length_append]
    have hln : (pb n).length = i + (pb m).length := by rw [hd, List.length_append, hl]
    have hs' : (strOfNums (P ++ pb n ++ Q)).size ≤ 140737488351232 := by rw [strOfNums_size]; exact hs
    rw [code_in _ _ _ i k hs' (Int.natCast_nonneg _) (by rw [hsz]; omega) (by omega) (by omega)]
    obtain ⟨b, hb⟩ : ∃ b, (pb m)[0]? = some b := ⟨_, List.getElem?_eq_getElem hlen⟩
    have hbr := pb_bytes m b (List.mem_of_getElem? hb)
    have hbt : bt (strOfNums (P ++ pb n ++ Q)) ((P.length : Int) + i) = b := by
      have := bt_nums (P ++ pb n ++ Q) (P.length + i) b (by
        rw [List.append_assoc, List.getElem?_append_right (by omega), List.getElem?_append_left (by omega), hd, List.getElem?_append_right (by omega), ← hb]
        congr 1
        omega) hbr.1 hbr.2
      simpa using this
    rw [hbt]
    have hy : nx (strOfNums (P ++ pb n ++ Q)) (P.length : Int) i ((n % 128 ^ i : Nat) : Int) = ((n % 128 ^ (i + 1) : Nat) : Int) := by
      unfold nx
      rw [hbt]
      have hmod : b % 128 = ((m % 128 : Nat) : Int) := by
        by_cases h : m < 128
        · rw [pb_small h] at hb
          simp only [List.getElem?_cons_zero, Option.some.injEq] at hb
          omega
        · rw [pb_big h] at hb
          simp only [List.getElem?_cons_zero, Option.some.injEq] at hb
          omega
      rw [hmod]
      have hp : (128 : Nat) ^ i ≤ 268435456 := Nat.pow_le_pow_right (n := 128) (by omega) hi
      have hp0 : 0 < (128 : Nat) ^ i := Nat.pow_pos (by omega)
      have hsh : shl .i64 ((m % 128 : Nat) : Int) ((7 * i : Nat) : Int) = ((m % 128 * 128 ^ i : Nat) : Int) := by
        unfold shl
        rw [Int.toNat_natCast, Nat.min_eq_left (show 7 * i ≤ IntKind.i64.bits by simp only [IntKind.bits]; omega)]
        have e : ((m % 128 : Nat) : Int) * 2 ^ (7 * i) = ((m % 128 * 128 ^ i : Nat) : Int) := by
          rw [show (128 : Nat) ^ i = 2 ^ (7 * i) by rw [Nat.pow_mul]]
          simp
        rw [e]
        have hle : m % 128 * 128 ^ i ≤ 127 * 268435456 := Nat.mul_le_mul (by omega) hp
        exact wi64 _ (Int.natCast_nonneg _) (by omega)
      rw [hsh]
      have hlt1 : n % 128 ^ i < 128 ^ i := Nat.mod_lt _ hp0
      have hle : m % 128 * 128 ^ i ≤ 127 * 268435456 := Nat.mul_le_mul (by omega) hp
      rw [or64 _ _ (by omega) (by omega)]
      congr 1
      have e2 : n % 128 ^ i ||| m % 128 * 128 ^ i = 128 ^ i * (m % 128) + n % 128 ^ i := by
        have h7 : (128 : Nat) ^ i = 2 ^ (7 * i) := by rw [Nat.pow_mul]
        rw [Nat.or_comm, Nat.mul_comm (m % 128), h7]
        rw [h7] at hlt1
        exact (Nat.two_pow_add_eq_or_of_lt hlt1 _).symm
      rw [e2, Nat.pow_succ, Nat.mod_mul, hm, Nat.add_comm]
    rw [hy]
    by_cases h : m < 128
    · have hb1 : b = (m : Int) := by
        rw [pb_small h] at hb
        simp only [List.getElem?_cons_zero, Option.some.injEq] at hb
        exact hb.symm
      rw [if_pos (by omega)]
      have hfull : n % 128 ^ (i + 1) = n := by
        apply Nat.mod_eq_of_lt
        rw [Nat.pow_succ]
        rw [hm] at h
        exact (Nat.div_lt_iff_lt_mul (Nat.pow_pos (by omega))).1 h |> fun q => by rwa [Nat.mul_comm] at q
      have hl1 : (pb n).length = i + 1 := by rw [hln, pb_small h]; simp
      unfold fin
      rw [hfull, putR_ok hn]
      have hex : (strOfNums (P ++ pb n ++ Q)).extract (P.length : Int).toNat ((P.length : Int) + ((i + 1 : Nat) : Int)).toNat = strOfNums (pb n) := by
        rw [show ((P.length : Int) + ((i + 1 : Nat) : Int)).toNat = P.length + (pb n).length by omega, Int.toNat_natCast]
        exact extract_nums P (pb n) Q
      rw [hex, if_pos rfl, if_pos rfl, hl1]
    · have hi4 : i + 1 ≤ 4 := by
        rcases Nat.lt_or_ge i 4 with h4 | h4
        · omega
        · obtain rfl : i = 4 := by omega
          simp only [show (128 : Nat) ^ 4 = 268435456 from rfl] at hm
          omega
      have hb1 : ¬ b < 128 := by
        rw [pb_big h] at hb
        simp only [List.getElem?_cons_zero, Option.some.injEq] at hb
        omega
      rw [if_neg hb1]
      refine ih (m / 128) (by omega) (i + 1) k (done ++ [((m % 128 : Nat) : Int) + 128]) hi4 ?_ ?_ ?_ (by omega)
      · rw [Nat.pow_succ, ← Nat.div_div_eq_div_mul, hm]
      · rw [hd, pb_big h]; simp
      · simp [hl]
theorem get_back (P Q : List Int) (n : Nat) (hn : n ≤ 4294967295) (hs : (P ++ pb n ++ Q).length ≤ 140737488351232) (k : Nat) (hk : 4294967330 + 2 * n < k) : varint_Get.f k (strOfNums (P ++ pb n ++ Q)) (P.length : Int) = some ((n : Int), (P.length : Int) + (pb n).length, 0) := by
  obtain ⟨k, rfl⟩ : ∃ q, k = q + 1 := ⟨k - 1, by omega⟩
  unfold varint_Get.f
  have h1 : ¬ (P.length : Int) > ((strOfNums (P ++ pb n ++ Q)).size : Int) := by rw [strOfNums_size, List.length_append, List.length_append]; omega
  rw [if_neg (by omega)]
  simp only [varint_Get.j0, h1, decide_false, Bool.false_eq_true, if_false]
  have h := get_run P Q n hn hs n 0 k [] (by omega) (by simp) (by simp) rfl (by omega)
  simpa [Nat.mod_one] using h

/-! ### The law's two loops -/
def val (x : Int) : Nat := (BitVec.ofInt 64 x &&& BitVec.ofInt 64 4294967295).toNat
theorem val_le (x : Int) : val x ≤ 4294967295 := by
  unfold val
  rw [BitVec.toNat_and]
  exact Nat.and_le_right
theorem val_eq (x : Int) : Go.bits .and .i64 x 4294967295 = (val x : Int) := by
  have h := val_le x
  exact wi64 _ (Int.natCast_nonneg _) (by show (val x : Int) < 2 ^ 63; omega)
attribute [irreducible] val
theorem pbs_app (a b : List Nat) : pbs (a ++ b) = pbs a ++ pbs b := by
  induction a with
  | nil => rfl
  | cons n a ih => simp [pbs, ih]
theorem pb_le (n : Nat) : ∀ d, n < 128 ^ (d + 1) → (pb n).length ≤ d + 1 := by
  intro d
  induction d generalizing n with
  | zero => intro h; rw [pb_small (by simpa using h)]; simp
  | succ d ih =>
    intro h
    by_cases h1 : n < 128
    · rw [pb_small h1]; simp
    · rw [pb_big h1]
      have := ih (n / 128) (by rw [Nat.div_lt_iff_lt_mul (by omega)]; rwa [Nat.pow_succ] at h)
      simp only [List.length_cons]
      omega
theorem pb_five (x : Int) : (pb (val x)).length ≤ 5 := pb_le _ 4 (by have := val_le x; simp only [show (128 : Nat) ^ (4 + 1) = 34359738368 from rfl]; omega)
theorem pbs_len (l : List Int) : (pbs (l.map val)).length ≤ 5 * l.length := by
  induction l with
  | nil => simp [pbs]
  | cons x l ih =>
    have := pb_five x
    simp only [List.map_cons, pbs, List.length_append, List.length_cons]
    omega
theorem rd_at (xs : List Int) (i : Nat) (h : i < xs.length) : rd xs (i : Int) = xs[i] := by
  simp [rd, List.getD_eq_getElem?_getD, List.getElem?_eq_getElem h]
/-- The second loop: from number i on all are read. -/
theorem second (xs : List Int) (hx : xs.length ≤ 17592186043904) (t : List Int) (ht : t = xs.take 40) (d : Nat) : ∀ (i k : Nat), i + d = t.length → 13000000000 + 2 * d < k →
    descantlaw2_VarintRow.l1 k xs (strOfNums (pbs (t.map val))) (((pbs ((t.take i).map val)).length : Nat) : Int) (i : Int) = some true := by
  have htl : t.length ≤ 40 ∧ t.length ≤ xs.length := by rw [ht, List.length_take]; omega
  have hall : (pbs (t.map val)).length ≤ 200 := by have := pbs_len t; omega
  induction d with
  | zero =>
    intro i k hi hk
    obtain ⟨k, rfl⟩ : ∃ q, k = q + 2 := ⟨k - 2, by omega⟩
    have he : t.take i = t := by rw [show i = t.length by omega]; simp
    simp only [descantlaw2_VarintRow.l1, descantlaw2_VarintRow.j3]
    rw [he, strOfNums_size]
    by_cases h : (i : Int) < (xs.length : Int)
    · have h40 : decide ((i : Int) < 40) = false := by
        rw [decide_eq_false_iff_not]
        rw [ht, List.length_take] at hi
        omega
      rw [if_pos h, h40]
      simp
    · rw [if_neg h]
      simp
  | succ d ih =>
    intro i k hi hk
    obtain ⟨k, rfl⟩ : ∃ q, k = q + 2 := ⟨k - 2, by omega⟩
    have hil : i < t.length := by omega
    have hixs : i < xs.length := by omega
    have hti : t[i] = xs[i] := by simp only [ht, List.getElem_take]
    have h40 : decide ((i : Int) < 40) = true := by rw [decide_eq_true_iff]; omega
    have hsplit : t = t.take i ++ t[i] :: t.drop (i + 1) := by rw [List.getElem_cons_drop, List.take_append_drop]
    have hL : pbs (t.map val) = pbs ((t.take i).map val) ++ pb (val t[i]) ++ pbs ((t.drop (i + 1)).map val) := by
      conv => lhs; rw [hsplit]
      rw [List.map_append, pbs_app, List.map_cons, pbs, List.append_assoc]
    have hnext : pbs ((t.take (i + 1)).map val) = pbs ((t.take i).map val) ++ pb (val t[i]) := by
      rw [List.take_succ_eq_append_getElem hil, List.map_append, pbs_app, List.map_cons, List.map_nil, pbs, pbs, List.append_nil]
    have hv := val_le t[i]
    have hg := get_back (pbs ((t.take i).map val)) (pbs ((t.drop (i + 1)).map val)) (val t[i]) hv (by rw [← hL]; omega) k (by omega)
    rw [← hL] at hg
    have hp := pb_len (val t[i])
    have hlen : (pbs (t.map val)).length = (pbs ((t.take i).map val)).length + (pb (val t[i])).length + (pbs ((t.drop (i + 1)).map val)).length := by rw [hL, List.length_append, List.length_append]
    have hrec := ih (i + 1) k (by omega) (by omega)
    rw [hnext, List.length_append] at hrec
    have c1 : (i : Int) < (xs.length : Int) := by omega
    have c2 : ¬ ((pbs ((t.take i).map val)).length : Int) + (pb (val t[i])).length ≤ ((pbs ((t.take i).map val)).length : Int) := by omega
    have c3 : ¬ ((pbs ((t.take i).map val)).length : Int) + (pb (val t[i])).length > ((strOfNums (pbs (t.map val))).size : Int) := by rw [strOfNums_size]; omega
    have hw : wrap64 ((i : Int) + 1) = ((i + 1 : Nat) : Int) := w64e (by omega) (by omega) (by omega)
    simp only [descantlaw2_VarintRow.l1, descantlaw2_VarintRow.j3]
    rw [if_pos c1, h40, if_pos rfl, hg]
    simp only [Option.bind_some, descantlaw0_Num.f, if_true]
    rw [if_pos (Int.natCast_nonneg _), if_pos c1, rd_at xs i hixs, ← hti, val_eq, if_pos rfl, if_neg c2, if_neg c3, hw]
    simpa using hrec
/-- The first loop: the bytes of the numbers, one behind the other. -/
theorem first (xs : List Int) (hx : xs.length ≤ 17592186043904) (t : List Int) (ht : t = xs.take 40) (d : Nat) : ∀ (i k : Nat), i + d = t.length → 14000000000 + 2 * d < k →
    descantlaw2_VarintRow.l0 k xs (strOfNums (pbs ((t.take i).map val))) (i : Int) = some true := by
  have htl : t.length ≤ 40 ∧ t.length ≤ xs.length := by rw [ht, List.length_take]; omega
  induction d with
  | zero =>
    intro i k hi hk
    obtain ⟨k, rfl⟩ : ∃ q, k = q + 2 := ⟨k - 2, by omega⟩
    have he : t.take i = t := by rw [show i = t.length by omega]; simp
    have hs := second xs hx t ht t.length 0 k (by omega) (by omega)
    simp only [List.take_zero, List.map_nil, pbs, List.length_nil, Int.natCast_zero] at hs
    simp only [descantlaw2_VarintRow.l0, descantlaw2_VarintRow.j1]
    rw [he]
    by_cases h : (i : Int) < (xs.length : Int)
    · have h40 : decide ((i : Int) < 40) = false := by
        rw [decide_eq_false_iff_not]
        rw [ht, List.length_take] at hi
        omega
      rw [if_pos h, h40]
      simpa using hs
    · rw [if_neg h]
      simpa using hs
  | succ d ih =>
    intro i k hi hk
    obtain ⟨k, rfl⟩ : ∃ q, k = q + 2 := ⟨k - 2, by omega⟩
    have hil : i < t.length := by omega
    have hixs : i < xs.length := by omega
    have hti : t[i] = xs[i] := by simp only [ht, List.getElem_take]
    have h40 : decide ((i : Int) < 40) = true := by rw [decide_eq_true_iff]; omega
    have hnext : pbs ((t.take (i + 1)).map val) = pbs ((t.take i).map val) ++ pb (val t[i]) := by
      rw [List.take_succ_eq_append_getElem hil, List.map_append, pbs_app, List.map_cons, List.map_nil, pbs, pbs, List.append_nil]
    have hv := val_le t[i]
    have h5 := pb_five t[i]
    have hall := pbs_len (t.take i)
    have hrec := ih (i + 1) k (by omega) (by omega)
    rw [hnext, strOfNums_app] at hrec
    have c1 : (i : Int) < (xs.length : Int) := by omega
    have c2 : (t.take i).length ≤ 40 := by rw [List.length_take]; omega
    have c3 : (strOfNums (pbs ((t.take i).map val))).size + (strOfNums (pb (val t[i]))).size ≤ 9223372036854775807 := by rw [strOfNums_size, strOfNums_size]; omega
    have hk' : 4294967300 < k := by omega
    have hw : wrap64 ((i : Int) + 1) = ((i + 1 : Nat) : Int) := w64e (by omega) (by omega) (by omega)
    simp only [descantlaw2_VarintRow.l0, descantlaw2_VarintRow.j1]
    rw [if_pos c1, h40, if_pos rfl, if_pos (Int.natCast_nonneg _), if_pos c1, rd_at xs i hixs, ← hti, val_eq, put_f _ k hk', putR_ok hv]
    simp only [Option.bind_some, descantlaw0_Num.f, if_true]
    rw [if_pos c3, hw]
    exact hrec
/-- YOURS -/
theorem VarintRow : descantlaw2_VarintRow.Pure := by
  intro xs _ h8 _
  obtain ⟨K, hK⟩ : ∃ K : Nat, 15000000000 < K := ⟨15000000001, by omega⟩
  refine ⟨K, ?_⟩
  have h40 : (xs.take 40).length ≤ 40 := by rw [List.length_take]; omega
  have h := first xs (by omega) (xs.take 40) rfl (xs.take 40).length 0 K (by omega) (by omega)
  unfold descantlaw2_VarintRow.f
  rw [awake_on K (by omega), Option.bind_some, if_pos rfl]
  simpa [pbs, strOfNums] using h

end Go.Proofs.Ytdfmdenhhamclaa.Pure
