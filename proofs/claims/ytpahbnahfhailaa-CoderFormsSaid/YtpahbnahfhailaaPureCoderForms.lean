/- Coders, bits and chances that may not be are told. -/
import Derived.Test.YtpahbnahfhailaaRCoderFormsx
import Derived.Test.YtpahbnahfhailaaLem
namespace Go.Proofs.Ytpahbnahfhailaa.Pure
open Go.RowKit Go.Proofs.Ytpahbnahfhailaa Go.Proofs.Ytpahbnahfhailaa.RCoderForms Go.Proofs.Ytpahbnahfhailaa.CBase Go.Proofs.YtpahbnahfhailaaW.PrintWords Go.Proofs.YtpahbnahfhailaaW.PrintLast Go.Proofs.YtpahbnahfhailaaW.PrintMore
set_option linter.unusedVariables false
set_option linter.unusedSimpArgs false
theorem and_range (a : Int) (m : Nat) (hm : m < 9223372036854775808) : ∃ n : Nat, n ≤ m ∧ Go.bits .and .i64 a (m : Int) = (n : Int) := by
  have h : (BitVec.ofInt 64 a &&& BitVec.ofInt 64 (m : Int)).toNat ≤ m := by
    rw [BitVec.toNat_and]
    refine Nat.le_trans Nat.and_le_right ?_
    rw [BitVec.ofInt_natCast, BitVec.toNat_ofNat]
    exact Nat.mod_le _ _
  refine ⟨_, h, wi64 _ (by omega) ?_⟩
  show (((BitVec.ofInt 64 a &&& BitVec.ofInt 64 (m : Int)).toNat : Nat) : Int) < 2 ^ 63
  omega
theorem d_ok (x : Int) : ∃ d : Int, wrap64 (1 + Go.bits .and .i64 x 1023) = d ∧ 1 ≤ d ∧ d ≤ 1024 := by
  obtain ⟨n, h, e⟩ := and_range x 1023 (by omega)
  refine ⟨1 + n, ?_, by omega, by omega⟩
  rw [show Go.bits .and .i64 x 1023 = (n : Int) from e]
  unfold wrap64
  omega
theorem j_ok (a : Int) : ∃ j : Int, wrap64 ((IntKind.u64.wrap a).tmod 6) = j ∧ (j = 0 ∨ j = 1 ∨ j = 2 ∨ j = 3 ∨ j = 4 ∨ j = 5) := by
  have hu : 0 ≤ IntKind.u64.wrap a := by rw [IntKind.wrap_u64]; omega
  generalize IntKind.u64.wrap a = u at hu
  rw [Int.tmod_eq_emod_of_nonneg hu]
  refine ⟨u % 6, ?_, by omega⟩
  unfold wrap64
  omega
theorem b_ok (a : Int) : Go.bits .and .i64 a 1 = 0 ∨ Go.bits .and .i64 a 1 = 1 := by
  obtain ⟨n, h, e⟩ := and_range a 1 (by omega)
  rw [show Go.bits .and .i64 a 1 = (n : Int) from e]
  omega
theorem bit_bad (lo hi : Int) (out : ByteArray) (b p : Int) (h : Cd.may lo hi out = false ∨ Cd.chance p = false ∨ ¬ (b = 0 ∨ b = 1)) : coder_Bit.f lo hi out b p = some (0, 0, ⟨#[]⟩, 400) := by
  unfold coder_Bit.f Cd.bit Cd.bad
  rw [if_neg]
  rintro ⟨h1, h2, h3⟩
  rw [h1, h3] at h
  simp at h
  omega
def zs (m : Nat) : ByteArray := strOfNums (List.replicate m 0)
theorem zs_size (m : Nat) : (zs m).size = m := by unfold zs; rw [strOfNums_size, List.length_replicate]
attribute [irreducible] zs
theorem full_bad : coder_Bit.f 0 16777216 (zs 65536) 1 1 = some (0, 0, ⟨#[]⟩, 400) := by
  have hz := zs_size 65536
  have hm : Cd.may 0 16777216 (zs 65536) = true := by unfold Cd.may; apply decide_eq_true; rw [hz]; omega
  unfold coder_Bit.f Cd.bit
  rw [if_pos ⟨hm, by omega, by decide⟩, if_pos rfl]
  have hd : Cd.mid 0 16777216 1 = 4096 := by decide
  rw [hd]
  have hs : Cd.sh 4 0 4096 (zs 65536) = (0, 268500991, (zs 65536) ++ strOfNums [0] ++ strOfNums [0]) := by
    simp only [Cd.sh]
    rw [if_pos (by decide), if_pos (by decide), if_neg (by decide)]
    rfl
  rw [hs]
  unfold Cd.fin
  rw [if_neg]
  rw [ByteArray.size_append, ByteArray.size_append, strOfNums_size, hz]
  simp
def bads (d : Int) : List S23 := [⟨0, 0, ⟨#[]⟩⟩, ⟨-d, 4294967295, ⟨#[]⟩⟩, ⟨0, 4294967295 + d, ⟨#[]⟩⟩, ⟨16777216, 16777217 + d, ⟨#[]⟩⟩, ⟨33554432, 16777216, ⟨#[]⟩⟩, ⟨0, 4294967295, strOfNums (List.replicate (65536 + d).toNat 0)⟩]
theorem bads_bad (d : Int) (h1 : 1 ≤ d) (h2 : d ≤ 1024) (j : Int) (hj : j = 0 ∨ j = 1 ∨ j = 2 ∨ j = 3 ∨ j = 4 ∨ j = 5) : Cd.may (rd_T23 (bads d) j).f0 (rd_T23 (bads d) j).f1 (rd_T23 (bads d) j).f2 = false := by
  have e : ((ByteArray.mk #[]).size : Nat) = 0 := rfl
  rcases hj with rfl | rfl | rfl | rfl | rfl | rfl <;> apply decide_eq_false <;> simp only [rd_T23, bads, List.getD_eq_getElem?_getD] <;> simp only [Int.toNat_zero, Int.toNat_one, Int.reduceToNat, List.getElem?_cons_zero, List.getElem?_cons_succ, Option.getD_some] <;> first | omega | (rw [strOfNums_size, List.length_replicate]; omega)
theorem CoderForms : descantlaw4_CoderForms.Pure := by
  intro x y _ _
  obtain ⟨d, hd, h1, h2⟩ := d_ok y
  obtain ⟨j, hj, hj2⟩ := j_ok x
  have hx := b_ok x
  have w0 : wrap64 (-d) = -d := by unfold wrap64; omega
  have w1 : wrap64 (4294967295 + d) = 4294967295 + d := by unfold wrap64; omega
  have w2 : wrap64 (16777217 + d) = 16777217 + d := by unfold wrap64; omega
  have w3 : wrap64 (1 - d) = 1 - d := by unfold wrap64; omega
  have w4 : wrap64 (4095 + d) = 4095 + d := by unfold wrap64; omega
  have w5 : wrap64 (65536 + d) = 65536 + d := by unfold wrap64; omega
  have w6 : wrap64 (1 + d) = 1 + d := by unfold wrap64; omega
  have hb := bads_bad d h1 h2 j hj2
  have c1 : 0 ≤ Go.bits .and .i64 x 1 := by omega
  have c2 : Go.bits .and .i64 x 1 < 2 := by omega
  have hp1 : ∃ p, rd ([-d, 1 + d] : List Int) (Go.bits .and .i64 x 1) = p ∧ ¬ (p = 0 ∨ p = 1) := by
    rcases hx with h | h
    · rw [h]
      exact ⟨-d, rfl, by omega⟩
    · rw [h]
      exact ⟨1 + d, rfl, by omega⟩
  have hp2 : ∃ p, rd ([1 - d, 4095 + d] : List Int) (Go.bits .and .i64 x 1) = p ∧ Cd.chance p = false := by
    rcases hx with h | h
    · rw [h]
      exact ⟨1 - d, rfl, decide_eq_false (by omega)⟩
    · rw [h]
      exact ⟨4095 + d, rfl, decide_eq_false (by omega)⟩
  obtain ⟨p1, ep1, hp1⟩ := hp1
  obtain ⟨p2, ep2, hp2⟩ := hp2
  have hlen : ((bads d).length : Int) = 6 := rfl
  have hz : strOfNums (List.replicate 65536 0) = zs 65536 := by unfold zs; rfl
  have hzm : Cd.may 0 16777216 (zs 65536) = true := by unfold Cd.may; apply decide_eq_true; rw [zs_size]; omega
  have hnew : coder_New.f = some (0, 4294967295, (⟨#[]⟩ : ByteArray)) := rfl
  have hdef : ([⟨0, 0, (⟨#[]⟩ : ByteArray)⟩, ⟨-d, 4294967295, (⟨#[]⟩ : ByteArray)⟩, ⟨0, 4294967295 + d, (⟨#[]⟩ : ByteArray)⟩, ⟨16777216, 16777217 + d, (⟨#[]⟩ : ByteArray)⟩, ⟨33554432, 16777216, (⟨#[]⟩ : ByteArray)⟩, ⟨0, 4294967295, strOfNums (List.replicate (65536 + d).toNat 0)⟩] : List S23) = bads d := rfl
  unfold descantlaw4_CoderForms.f
  rw [show descantlaw4_awake.f = some true from rfl, Option.bind_some, if_pos rfl, hd, hj, w0, w1, w2, w3, w4, w5, w6, if_pos (by omega), if_pos (by omega), hdef, Option.bind_some]
  generalize bads d = B at *
  rw [if_pos (by omega), if_pos (by omega), bit_bad _ _ _ 1 9 (.inl hb), Option.bind_some, end_no hb, Option.bind_some, hnew, Option.bind_some, Option.bind_some]
  rw [if_pos c1, if_pos (by simp only [List.length_cons, List.length_nil]; omega), ep1, bit_bad _ _ _ p1 9 (.inr (.inr hp1)), Option.bind_some, Option.bind_some, Option.bind_some]
  rw [if_pos (by simp only [List.length_cons, List.length_nil]; omega), ep2, bit_bad _ _ _ 1 p2 (.inr (.inl hp2)), Option.bind_some, if_pos (by omega), Option.bind_some, hz, full_bad, Option.bind_some, may_some, hb, Option.bind_some, may_some, hzm]
  have e : (ByteArray.mk #[]).toList = ([] : List UInt8) := by decide +kernel
  simp [descantlaw0_Num.f, e]
end Go.Proofs.Ytpahbnahfhailaa.Pure
