/- Any text decodes to bits, and coding these tells a text that begins as it does. -/
import Derived.Test.YtbhmpmhjklkghaaQDecoderAnyx
import Derived.Test.YtbhmpmhjklkghaaLem
namespace Go.Proofs.Ytbhmpmhjklkghaa.Pure
open Go.RowKit Go.Proofs.Ytbhmpmhjklkghaa Go.Proofs.Ytbhmpmhjklkghaa.QDecoderAny Go.Proofs.Ytbhmpmhjklkghaa.CBase Go.Proofs.YtbhmpmhjklkghaaW.PrintWords Go.Proofs.YtbhmpmhjklkghaaW.PrintLast Go.Proofs.YtbhmpmhjklkghaaW.PrintMore
set_option linter.unusedVariables false
set_option linter.unusedSimpArgs false
theorem and_range (a : Int) (m : Nat) (hm : m < 9223372036854775808) : ∃ n : Nat, n ≤ m ∧ Go.bits .and .i64 a (m : Int) = (n : Int) := by
  have h : (BitVec.ofInt 64 a &&& BitVec.ofInt 64 (m : Int)).toNat ≤ m := by
    rw [BitVec.toNat_and]
    refine Nat.le_trans Nat.and_le_right ?_
    rw [BitVec.ofInt_natCast, BitVec.toNat_ofNat]
    exact Nat.mod_le _ _
  refine ⟨_, h, wi64 _ (by omega) ?_⟩
  show (((BitVec.ofInt 64 a &&& BitVec.ofInt 64 (m : Int)).toNat : Nat) : Int) < 2 ^ 63
  omega
theorem p_ok (a : Int) : ∃ p : Int, 1 ≤ p ∧ p ≤ 4095 ∧ wrap64 (1 + (Go.bits .and .i64 a 4094)) = p := by
  obtain ⟨n, h, e⟩ := and_range a 4094 (by omega)
  refine ⟨1 + n, by omega, by omega, ?_⟩
  rw [show Go.bits .and .i64 a 4094 = (n : Int) from e]
  unfold wrap64
  omega
theorem b_ok (a : Int) : Go.bits .and .i64 a 1 = 0 ∨ Go.bits .and .i64 a 1 = 1 := by
  obtain ⟨n, h, e⟩ := and_range a 1 (by omega)
  rw [show Go.bits .and .i64 a 1 = (n : Int) from e]
  omega
theorem new_ge (s : ByteArray) (d : Nat) : decoder_New.f (5 + d) s = some (Dd.new s) := by
  induction d with
  | zero => exact new_some s
  | succ d ih => exact decoder_New.mono s _ _ ih
theorem next_i (i : Nat) (h : i < 100000000) : wrap64 ((i : Int) + 1) = ((i + 1 : Nat) : Int) := by
  unfold wrap64
  omega

theorem ends (s out : ByteArray) (h : Dd.Has s 0 out) (ho : out.size ≤ 300) (lo hi now : Int) (d : Nat) : ∀ (j k : Nat), j + d = out.size → d < k →
    descantlaw5_DecoderAny.l1 k s (j : Int) lo hi now s ((out.size : Int) + 4) lo hi out = some true := by
  have hw : wrap64 (4 + (out.size : Int)) = (out.size : Int) + 4 := by unfold wrap64; omega
  induction d with
  | zero =>
    intro j k hj hk
    obtain ⟨k, rfl⟩ : ∃ m, k = m + 1 := ⟨k - 1, by omega⟩
    simp only [descantlaw5_DecoderAny.l1]
    rw [if_neg (by omega), hw]
    simp
  | succ d ih =>
    intro j k hj hk
    obtain ⟨k, rfl⟩ : ∃ m, k = m + 1 := ⟨k - 1, by omega⟩
    have e := h j (by omega) (by omega)
    rw [Int.zero_add, at_eq s j (by omega), at_eq out j (by omega), if_pos (show (j : Int) < (out.size : Int) by omega)] at e
    have g := ih (j + 1) k (by omega) (by omega)
    have hn := next_i j (by omega)
    simp only [descantlaw5_DecoderAny.l1]
    rw [if_pos (show (j : Int) < (out.size : Int) by omega), hn]
    by_cases c : (j : Int) < (s.size : Int)
    · rw [if_pos c] at e
      rw [if_pos c, if_pos (show 0 ≤ (j : Int) by omega), if_pos e.symm]
      exact g
    · rw [if_neg c] at e
      rw [if_neg c, if_pos (show 0 ≤ (j : Int) by omega), if_pos e.symm]
      exact g
theorem run (s : ByteArray) (hs : s.size ≤ 65536) (ps : List Int) (d : Nat) : ∀ (i k : Nat) (lo hi : Int) (out : ByteArray), i + d = 60 → 3 * d + 400 < k → Cd.may lo hi out = true → out.size ≤ 4 * i →
    Dd.Has s 0 out → lo ≤ Dd.val s out.size → Dd.val s out.size ≤ hi →
    descantlaw5_DecoderAny.l0 k s ps (i : Int) lo hi (Dd.val s out.size) s ((out.size : Int) + 4) lo hi out = some true := by
  induction d with
  | zero =>
    intro i k lo hi out hi' hk hm ho hh v0 v1
    obtain ⟨k, rfl⟩ : ∃ m, k = m + 2 := ⟨k - 2, by omega⟩
    simp only [descantlaw5_DecoderAny.l0, descantlaw5_DecoderAny.j1]
    have c3 : decide ((i : Int) < 60) = false := by rw [decide_eq_false_iff_not]; omega
    have e := ends s out hh (by omega) lo hi (Dd.val s out.size) out.size 0 k (by omega) (by omega)
    by_cases c1 : (i : Int) < (ps.length : Int)
    · rw [if_pos c1, c3, if_neg (by decide)]
      exact e
    · rw [if_neg c1, if_neg (by decide)]
      exact e
  | succ d ih =>
    intro i k lo hi out hi' hk hm ho hh v0 v1
    by_cases c1 : (i : Int) < (ps.length : Int)
    · obtain ⟨k, rfl⟩ : ∃ m, k = m + 3 := ⟨k - 3, by omega⟩
      obtain ⟨p, hp1, hp2, ep⟩ := p_ok (rd ps (i : Int))
      obtain ⟨b, hb, hbit⟩ : ∃ b : Int, (b = 0 ∨ b = 1) ∧ (b = 1 ↔ Dd.val s out.size ≤ Cd.mid lo hi p) := by
        by_cases h : Dd.val s out.size ≤ Cd.mid lo hi p
        · exact ⟨1, .inr rfl, fun _ => h, fun _ => rfl⟩
        · exact ⟨0, .inl rfl, fun h' => absurd h' (by decide), fun h' => absurd h' h⟩
      obtain ⟨lo', hi2, t, q1, q2, q3, -, q5⟩ := Dd.bits lo hi out p hm hp1 hp2 (by omega) s hs b hb
      obtain ⟨z1, z2, z3, z4⟩ := q5 v0 v1 hbit
      have c3 : decide ((i : Int) < 60) = true := by rw [decide_eq_true_iff]; omega
      have hsz : (out ++ t).size = out.size + t.size := ByteArray.size_append
      have g := ih (i + 1) k lo' hi2 (out ++ t) (by omega) (by omega) q3 (by omega) (Dd.Has.app hh (by rw [Int.zero_add]; exact z1)) z2 z3
      have hd : decoder_Bit.f lo hi (Dd.val s out.size) s ((out.size : Int) + 4) p = some (lo', hi2, Dd.val s (out ++ t).size, s, ((out ++ t).size : Int) + 4, b, 0) := by unfold decoder_Bit.f; rw [z4]
      have hc : descantref1_CodeBit.f lo hi out b p = some (lo', hi2, out ++ t, 0) := by unfold descantref1_CodeBit.f; rw [q1]
      have hmm : decoder_May.f lo' hi2 (Dd.val s (out ++ t).size) s (((out ++ t).size : Int) + 4) = some true := by
        rw [dmay_some]
        have := of_decide_eq_true q3
        congr 1
        exact decide_eq_true ⟨this.1, this.2.1, this.2.2.1, z2, z3, hs, by omega, by omega⟩
      simp only [descantlaw5_DecoderAny.l0, descantlaw5_DecoderAny.j1, descantlaw5_DecoderAny.j2]
      rw [if_pos c1, c3, if_pos rfl, if_pos (Int.natCast_nonneg _), if_pos c1, ep, hd]
      simp only [Option.bind_some, descantlaw0_Num.f, if_true]
      rw [hmm]
      simp only [Option.bind_some, Bool.not_true, Bool.false_eq_true, if_false]
      rw [hc, next_i i (by omega)]
      simp only [Option.bind_some, if_true]
      rcases hb with rfl | rfl
      · rw [if_pos rfl]
        exact g
      · rw [if_neg (by decide), if_pos rfl]
        exact g
    · obtain ⟨k, rfl⟩ : ∃ m, k = m + 2 := ⟨k - 2, by omega⟩
      simp only [descantlaw5_DecoderAny.l0, descantlaw5_DecoderAny.j1]
      rw [if_neg c1, if_neg (by decide)]
      exact ends s out hh (by omega) lo hi (Dd.val s out.size) out.size 0 k (by omega) (by omega)
theorem DecoderAny : descantlaw5_DecoderAny.Pure := by
  intro s ps _ _ _ _
  refine ⟨605, ?_⟩
  unfold descantlaw5_DecoderAny.f
  rw [show descantlaw5_awake.f = some true from rfl, Option.bind_some, if_pos rfl, show decoder_New.f 605 s = some (Dd.new s) from new_ge s 600, Option.bind_some]
  unfold Dd.new
  by_cases h : s.size ≤ 65536
  · rw [if_pos h]
    simp only [descantlaw0_Num.f, Option.bind_some, if_true]
    rw [show descantref1_NewCoder.f = some (0, 4294967295, (⟨#[]⟩ : ByteArray)) from rfl, Option.bind_some]
    have hv := Dd.val_bd s 0
    exact run s h ps 60 0 605 0 4294967295 ⟨#[]⟩ (by omega) (by omega) (by decide) (by decide) (Dd.Has.nil s 0) hv.1 hv.2
  · rw [if_neg h]
    simp only [descantlaw0_Num.f, Option.bind_some]
    rw [if_neg (by decide)]
    congr 1
    exact decide_eq_true (by omega)

end Go.Proofs.Ytbhmpmhjklkghaa.Pure
