/- The law CoderRow in plain Lean. -/
import Derived.Test.YtpahbnahfhailaaQCoderRowx
import Derived.Test.YtpahbnahfhailaaLem
namespace Go.Proofs.Ytpahbnahfhailaa.Pure
open Go.RowKit Go.Proofs.Ytpahbnahfhailaa.QCoderRow Go.Proofs.Ytpahbnahfhailaa.CBase Go.Proofs.YtpahbnahfhailaaW.PrintWords Go.Proofs.YtpahbnahfhailaaW.PrintLast Go.Proofs.YtpahbnahfhailaaW.PrintMore

theorem and_range (a : Int) (m : Nat) (hm : m < 9223372036854775808) : ∃ n : Nat, n ≤ m ∧ Go.bits .and .i64 a (m : Int) = (n : Int) := by
  have h : (BitVec.ofInt 64 a &&& BitVec.ofInt 64 (m : Int)).toNat ≤ m := by
    rw [BitVec.toNat_and]
    refine Nat.le_trans Nat.and_le_right ?_
    rw [BitVec.ofInt_natCast, BitVec.toNat_ofNat]
    exact Nat.mod_le _ _
  refine ⟨_, h, wi64 _ (by omega) ?_⟩
  show (((BitVec.ofInt 64 a &&& BitVec.ofInt 64 (m : Int)).toNat : Nat) : Int) < 2 ^ 63
  omega
theorem step (xs ps : List Int) (i : Nat) (hx : i < xs.length) (hp : i < ps.length) (hi : i < 60) (lo hi_ : Int) (out : ByteArray) (hm : Cd.may lo hi_ out = true) (hs : out.size ≤ 4 * i) :
    ∃ lo' hi' out', Cd.may lo' hi' out' = true ∧ out'.size ≤ 4 * (i + 1) ∧ ∀ k, descantlaw4_CoderRow.l0 (k + 3) xs ps (i : Int) lo hi_ out = descantlaw4_CoderRow.l0 k xs ps ((i + 1 : Nat) : Int) lo' hi' out' := by
  obtain ⟨b, hb, eb⟩ := and_range (rd xs (i : Int)) 1 (by omega)
  have EB := Aside0.mk (show Go.bits .and .i64 (rd xs (i : Int)) 1 = (b : Int) from eb)
  clear eb
  obtain ⟨q, hq, eq_⟩ := and_range (rd ps (i : Int)) 4094 (by omega)
  have EQ := Aside0.mk (show Go.bits .and .i64 (rd ps (i : Int)) 4094 = (q : Int) from eq_)
  clear eq_
  obtain ⟨lo', hi', t, e, ht, hm'⟩ := bit_props lo hi_ out (b : Int) (1 + (q : Int)) hm (by omega) (by omega) (by omega) (by omega)
  have E := Aside0.mk e
  clear e
  have z0 : (out ++ t).size = out.size + t.size := ByteArray.size_append
  have z4 := four_size lo'
  have z5 : ((out ++ t) ++ strOfNums (Cd.four lo')).size = (out ++ t).size + 4 := by rw [ByteArray.size_append (a := out ++ t), z4]
  have c8 : (out ++ t).size ≤ 65536 := (may_bounds hm').2.2.2
  refine ⟨lo', hi', out ++ t, hm', by rw [z0]; omega, fun k => ?_⟩
  have HM := Aside0.mk hm'
  clear hm' hm z4
  generalize hS : strOfNums (Cd.four lo') = S at z5
  have c1 : (i : Int) < (xs.length : Int) := by omega
  have c2 : (i : Int) < (ps.length : Int) := by omega
  have c3 : decide ((i : Int) < 60) = true := by rw [decide_eq_true_iff]; omega
  have c4 : ¬ ((out ++ t).size : Int) < (out.size : Int) := by omega
  have c5 : (out.size : Int) ≤ ((out ++ t).size : Int) := by omega
  have c6 : (((out ++ t) ++ S).size : Int) = ((out ++ t).size : Int) + 4 := by omega
  have c7 : ((out ++ t).size : Int) ≤ ((out ++ t).size : Int) + 4 := by omega
  have c9 : ((out ++ t).size : Int) ≤ (((out ++ t) ++ S).size : Int) := by omega
  have c10 : ((out ++ t ++ S).extract 0 ((out ++ t).size : Int).toNat).toList = (out ++ t).toList := by rw [Int.toNat_natCast, app_prefix]
  have g1 : -9223372036854775808 ≤ 1 + (q : Int) := by omega
  have g2 : 1 + (q : Int) ≤ 9223372036854775807 := by omega
  have g3 : -9223372036854775808 ≤ ((out ++ t).size : Int) + 4 := by omega
  have g4 : ((out ++ t).size : Int) + 4 ≤ 9223372036854775807 := by omega
  have g5 : (i : Int) + 1 = ((i + 1 : Nat) : Int) := by omega
  have g6 : -9223372036854775808 ≤ ((i + 1 : Nat) : Int) := by omega
  have g7 : ((i + 1 : Nat) : Int) ≤ 9223372036854775807 := by omega
  have w1 : wrap64 (1 + (q : Int)) = 1 + q := w64e rfl g1 g2
  have w2 : wrap64 (((out ++ t).size : Int) + 4) = ((out ++ t).size : Int) + 4 := w64e rfl g3 g4
  have w3 : wrap64 ((i : Int) + 1) = ((i + 1 : Nat) : Int) := w64e g5 g6 g7
  have eb' := EB.out
  have eq' := EQ.out
  have e := E.out
  have hm' := HM.out
  have hbit : coder_Bit.f lo hi_ out (b : Int) (1 + (q : Int)) = some (lo', hi', out ++ t, 0) := by unfold coder_Bit.f; rw [e]
  simp only [descantlaw4_CoderRow.l0, descantlaw4_CoderRow.j1, descantlaw4_CoderRow.j2]
  rw [if_pos c1, if_pos c2, c3, if_pos rfl, if_pos (Int.natCast_nonneg _), if_pos c1, if_pos c2, eb', eq', w1, hbit]
  simp only [Option.bind_some, descantlaw0_Num.f, if_true]
  rw [if_neg c4, if_pos (Int.natCast_nonneg _), if_pos c5, Int.toNat_natCast, app_prefix, if_pos rfl, may_some, hm']
  simp only [Option.bind_some, Bool.not_true, Bool.false_eq_true, if_false]
  rw [end_yes hm', hS, Option.bind_some, if_pos (rfl : ((out ++ t ++ S, (0 : Int)) : ByteArray × Int).2 = 0), if_pos (c6.trans w2.symm), if_pos (Int.natCast_nonneg _), if_pos c9, if_pos c10, w3]
theorem stop (xs ps : List Int) (i : Nat) (h : ¬ (i < xs.length ∧ i < ps.length ∧ i < 60)) (lo hi_ : Int) (out : ByteArray) (hm : Cd.may lo hi_ out = true) (k : Nat) :
    descantlaw4_CoderRow.l0 (k + 2) xs ps (i : Int) lo hi_ out = some true := by
  obtain ⟨h1, h2, h3, h4⟩ := may_bounds hm
  have hm0 : Cd.may lo hi_ ⟨#[]⟩ = true := decide_eq_true ⟨h1, h2, h3, by simp [ByteArray.size]⟩
  have c0 : lo < hi_ := by omega
  have hend : (if lo < hi_ then ((coder_May.f lo hi_ (⟨#[]⟩ : ByteArray)).bind fun t106 => (some t106)) else (some false)) = some true := by
    rw [if_pos c0, may_some, hm0]
    rfl
  simp only [descantlaw4_CoderRow.l0, descantlaw4_CoderRow.j1]
  by_cases c1 : (i : Int) < (xs.length : Int)
  · rw [if_pos c1]
    by_cases c2 : (i : Int) < (ps.length : Int)
    · have c3 : decide ((i : Int) < 60) = false := by rw [decide_eq_false_iff_not]; omega
      rw [if_pos c2, c3, if_neg (by decide)]
      exact hend
    · rw [if_neg c2, if_neg (by decide)]
      exact hend
  · rw [if_neg c1, if_neg (by decide)]
    exact hend
theorem run (xs ps : List Int) (d : Nat) : ∀ (i k : Nat) (lo hi_ : Int) (out : ByteArray), i + d = 60 → 3 * d + 3 < k → Cd.may lo hi_ out = true → out.size ≤ 4 * i → descantlaw4_CoderRow.l0 k xs ps (i : Int) lo hi_ out = some true := by
  induction d with
  | zero =>
    intro i k lo hi_ out hi hk hm _
    obtain ⟨k, rfl⟩ : ∃ m, k = m + 2 := ⟨k - 2, by omega⟩
    exact stop xs ps i (by omega) lo hi_ out hm k
  | succ d ih =>
    intro i k lo hi_ out hi hk hm hs
    by_cases h : i < xs.length ∧ i < ps.length ∧ i < 60
    · obtain ⟨lo', hi', out', hm', hs', e⟩ := step xs ps i h.1 h.2.1 h.2.2 lo hi_ out hm hs
      obtain ⟨k, rfl⟩ : ∃ m, k = m + 3 := ⟨k - 3, by omega⟩
      rw [e k]
      exact ih (i + 1) k lo' hi' out' (by omega) (by omega) hm' hs'
    · obtain ⟨k, rfl⟩ : ∃ m, k = m + 2 := ⟨k - 2, by omega⟩
      exact stop xs ps i h lo hi_ out hm k
/-- YOURS -/
theorem CoderRow : descantlaw4_CoderRow.Pure := by
  intro xs ps _ _ _ _ _ _
  refine ⟨300, ?_⟩
  unfold descantlaw4_CoderRow.f
  rw [awake_ok, Option.bind_some, if_pos rfl]
  exact run xs ps 60 0 300 0 4294967295 ⟨#[]⟩ (by omega) (by omega) (by decide) (by simp [ByteArray.size])

end Go.Proofs.Ytpahbnahfhailaa.Pure
