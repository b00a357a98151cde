/- The four bytes behind Out are a place between Low and High. -/
import Derived.Test.YtpahbnahfhailaaQCoderEndsx
import Derived.Test.YtpahbnahfhailaaLem
namespace Go.Proofs.Ytpahbnahfhailaa.Pure
open Go.RowKit Go.Proofs.Ytpahbnahfhailaa.QCoderEnds Go.Proofs.Ytpahbnahfhailaa.CBase Go.Proofs.YtpahbnahfhailaaW.PrintWords Go.Proofs.YtpahbnahfhailaaW.PrintLast Go.Proofs.YtpahbnahfhailaaW.PrintMore

theorem bt_app (a : ByteArray) (L : List Int) (j : Nat) (x : Int) (hx : L[j]? = some x) (h0 : 0 ≤ x) (h1 : x ≤ 255) (i : Int) (hi : i = (a.size + j : Nat)) : bt (a ++ strOfNums L) i = x := by
  subst hi
  obtain ⟨hj, _⟩ := List.getElem?_eq_some_iff.1 hx
  have hlt : ((a.size + j : Nat) : Int).toNat < (a ++ strOfNums L).size := by rw [ByteArray.size_append, strOfNums_size, Int.toNat_natCast]; omega
  unfold bt
  rw [dif_pos hlt]
  have hq : (a ++ strOfNums L).data.toList[a.size + j]? = some (UInt8.ofNat x.toNat) := by
    rw [ByteArray.data_append, Array.toList_append, List.getElem?_append_right (by rw [Array.length_toList]; exact Nat.le_add_right _ _), Array.length_toList,
      show a.size + j - a.data.size = j from Nat.add_sub_cancel_left .., strOfNums_data, List.getElem?_map, hx]
    rfl
  obtain ⟨_, h2⟩ := List.getElem?_eq_some_iff.1 hq
  have : (a ++ strOfNums L)[((a.size + j : Nat) : Int).toNat]'hlt = UInt8.ofNat x.toNat := h2
  rw [this]
  simp only [UInt8.toNat_ofNat']
  omega
theorem glue (n : Nat) (h : n ≤ 4294967295) : Go.bits .or .i64 (Go.bits .or .i64 (Go.bits .or .i64 (((n / 16777216 % 256 : Nat) : Int) * 16777216) (((n / 65536 % 256 : Nat) : Int) * 65536)) (((n / 256 % 256 : Nat) : Int) * 256)) ((n % 256 : Nat) : Int) = (n : Int) := by
  have e1 : ((n / 16777216 % 256 : Nat) : Int) * 16777216 = ((2 ^ 24 * (n / 16777216 % 256) : Nat) : Int) := by omega
  have e2 : ((n / 65536 % 256 : Nat) : Int) * 65536 = ((n / 65536 % 256 * 65536 : Nat) : Int) := by omega
  have e3 : ((n / 256 % 256 : Nat) : Int) * 256 = ((n / 256 % 256 * 256 : Nat) : Int) := by omega
  rw [e1, e2, e3, or64 _ _ (by omega) (by omega)]
  have j1 : 2 ^ 24 * (n / 16777216 % 256) ||| n / 65536 % 256 * 65536 = 2 ^ 16 * (n / 65536) := by
    rw [← Nat.two_pow_add_eq_or_of_lt (i := 24) (by omega)]
    omega
  rw [j1, or64 _ _ (by omega) (by omega)]
  have j2 : 2 ^ 16 * (n / 65536) ||| n / 256 % 256 * 256 = 2 ^ 8 * (n / 256) := by
    rw [← Nat.two_pow_add_eq_or_of_lt (i := 16) (by omega)]
    omega
  rw [j2, or64 _ _ (by omega) (by omega)]
  have j3 : 2 ^ 8 * (n / 256) ||| n % 256 = n := by
    rw [← Nat.two_pow_add_eq_or_of_lt (i := 8) (by omega)]
    omega
  rw [j3]
theorem CoderEnds (lo hi : Int) (out : ByteArray) : descantlaw4_CoderEnds.f lo hi out = some true := by
  unfold descantlaw4_CoderEnds.f
  rw [awake_ok, Option.bind_some, if_pos rfl]
  cases hm : Cd.may lo hi out with
  | false =>
    rw [end_no hm]
    simp only [Option.bind_some, descantlaw0_Num.f]
    rw [if_neg (by decide), if_pos (by decide +kernel), ref_may_some, hm]
    rfl
  | true =>
    obtain ⟨h1, h2, h3, h4⟩ := may_bounds hm
    rw [end_yes hm]
    simp only [Option.bind_some, descantlaw0_Num.f, if_true]
    have hz : (out ++ strOfNums (Cd.four lo)).size = out.size + 4 := by rw [ByteArray.size_append, four_size]
    obtain ⟨n, rfl⟩ := Int.eq_ofNat_of_zero_le h1
    have hn : n ≤ 4294967295 := by omega
    rw [hz]
    have w0 : wrap64 (((out.size + 4 : Nat) : Int) - 4) = (out.size : Int) := w64e (by omega) (by omega) (by omega)
    have w1 : wrap64 ((out.size : Int) + 1) = ((out.size + 1 : Nat) : Int) := w64e (by omega) (by omega) (by omega)
    have w2 : wrap64 ((out.size : Int) + 2) = ((out.size + 2 : Nat) : Int) := w64e (by omega) (by omega) (by omega)
    have w3 : wrap64 ((out.size : Int) + 3) = ((out.size + 3 : Nat) : Int) := w64e (by omega) (by omega) (by omega)
    rw [w0, w1, w2, w3]
    clear w0 w1 w2 w3
    have b0 : bt (out ++ strOfNums (Cd.four (n : Int))) (out.size : Int) = ((n / 16777216 % 256 : Nat) : Int) := bt_app out _ 0 _ (by simp [Cd.four]) (by omega) (by omega) _ (by omega)
    have b1 : bt (out ++ strOfNums (Cd.four (n : Int))) ((out.size + 1 : Nat) : Int) = ((n / 65536 % 256 : Nat) : Int) := bt_app out _ 1 _ (by simp [Cd.four]) (by omega) (by omega) _ rfl
    have b2 : bt (out ++ strOfNums (Cd.four (n : Int))) ((out.size + 2 : Nat) : Int) = ((n / 256 % 256 : Nat) : Int) := bt_app out _ 2 _ (by simp [Cd.four]) (by omega) (by omega) _ rfl
    have b3 : bt (out ++ strOfNums (Cd.four (n : Int))) ((out.size + 3 : Nat) : Int) = ((n % 256 : Nat) : Int) := bt_app out _ 3 _ (by simp [Cd.four]) (by omega) (by omega) _ rfl
    rw [b0, b1, b2, b3]
    have v0 : wrap64 ((n / 16777216 % 256 : Nat) : Int) = ((n / 16777216 % 256 : Nat) : Int) := w64e rfl (by omega) (by omega)
    have v1 : wrap64 ((n / 65536 % 256 : Nat) : Int) = ((n / 65536 % 256 : Nat) : Int) := w64e rfl (by omega) (by omega)
    have v2 : wrap64 ((n / 256 % 256 : Nat) : Int) = ((n / 256 % 256 : Nat) : Int) := w64e rfl (by omega) (by omega)
    have v3 : wrap64 ((n % 256 : Nat) : Int) = ((n % 256 : Nat) : Int) := w64e rfl (by omega) (by omega)
    rw [v0, v1, v2, v3]
    clear v0 v1 v2 v3
    have u0 : wrap64 (((n / 16777216 % 256 : Nat) : Int) * 16777216) = ((n / 16777216 % 256 : Nat) : Int) * 16777216 := w64e rfl (by omega) (by omega)
    have u1 : wrap64 (((n / 65536 % 256 : Nat) : Int) * 65536) = ((n / 65536 % 256 : Nat) : Int) * 65536 := w64e rfl (by omega) (by omega)
    have u2 : wrap64 (((n / 256 % 256 : Nat) : Int) * 256) = ((n / 256 % 256 : Nat) : Int) * 256 := w64e rfl (by omega) (by omega)
    rw [u0, u1, u2, glue n hn]
    clear u0 u1 u2 b0 b1 b2 b3
    rw [if_neg (by omega), if_pos (Int.natCast_nonneg _), if_pos (by omega), if_pos (by omega), if_pos (by omega), if_pos (by omega), if_pos (by omega), if_pos (by omega), if_pos (by omega), if_pos (by omega), Int.toNat_natCast, app_prefix, if_pos rfl, if_pos (Int.le_refl _)]
    congr 1
    rw [decide_eq_true_iff]
    omega
theorem CoderEnds_walk (lo hi : Int) (out : ByteArray) (w : World) : Calls Try.prog 8 #[.agg #[.int .i64 lo, .int .i64 hi, .string out]] w fun e w' => e = .returned (.bool true) ∧ Below w.heap.size w w' :=
  descantlaw4_CoderEnds.calls lo hi out true w (CoderEnds lo hi out)

end Go.Proofs.Ytpahbnahfhailaa.Pure
