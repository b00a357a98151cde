/- A text, and it with bytes 0 behind, decode the same. -/
import Derived.Test.YtbhmpmhjklkghaaRDecoderZerosx
import Derived.Test.YtbhmpmhjklkghaaLem
namespace Go.Proofs.Ytbhmpmhjklkghaa.Pure
open Go.RowKit Go.Proofs.Ytbhmpmhjklkghaa Go.Proofs.Ytbhmpmhjklkghaa.RDecoderZeros Go.Proofs.Ytbhmpmhjklkghaa.CBase Go.Proofs.YtbhmpmhjklkghaaW.PrintWords Go.Proofs.YtbhmpmhjklkghaaW.PrintLast Go.Proofs.YtbhmpmhjklkghaaW.PrintMore
set_option linter.unusedVariables false
set_option linter.unusedSimpArgs false
theorem and_range (a : Int) (m : Nat) (hm : m < 9223372036854775808) : ∃ n : Nat, n ≤ m ∧ Go.bits .and .i64 a (m : Int) = (n : Int) := by
  have h : (BitVec.ofInt 64 a &&& BitVec.ofInt 64 (m : Int)).toNat ≤ m := by
    rw [BitVec.toNat_and]
    refine Nat.le_trans Nat.and_le_right ?_
    rw [BitVec.ofInt_natCast, BitVec.toNat_ofNat]
    exact Nat.mod_le _ _
  refine ⟨_, h, wi64 _ (by omega) ?_⟩
  show (((BitVec.ofInt 64 a &&& BitVec.ofInt 64 (m : Int)).toNat : Nat) : Int) < 2 ^ 63
  omega
theorem p_ok (a : Int) : ∃ p : Int, 1 ≤ p ∧ p ≤ 4095 ∧ wrap64 (1 + (Go.bits .and .i64 a 4094)) = p := by
  obtain ⟨n, h, e⟩ := and_range a 4094 (by omega)
  refine ⟨1 + n, by omega, by omega, ?_⟩
  rw [show Go.bits .and .i64 a 4094 = (n : Int) from e]
  unfold wrap64
  omega
theorem b_ok (a : Int) : Go.bits .and .i64 a 1 = 0 ∨ Go.bits .and .i64 a 1 = 1 := by
  obtain ⟨n, h, e⟩ := and_range a 1 (by omega)
  rw [show Go.bits .and .i64 a 1 = (n : Int) from e]
  omega
theorem new_ge (s : ByteArray) (d : Nat) : decoder_New.f (5 + d) s = some (Dd.new s) := by
  induction d with
  | zero => exact new_some s
  | succ d ih => exact decoder_New.mono s _ _ ih
theorem next_i (i : Nat) (h : i < 100000000) : wrap64 ((i : Int) + 1) = ((i + 1 : Nat) : Int) := by
  unfold wrap64
  omega

def Z : ByteArray := ⟨#[0, 0, 0]⟩
theorem z_at (i : Int) (h : 0 ≤ i) : Dd.at_ Z i = 0 := by
  unfold Dd.at_
  by_cases h1 : i < (Z.size : Int)
  · have h2 : i < 3 := h1
    rw [if_pos h1, if_pos h]
    have : i = 0 ∨ i = 1 ∨ i = 2 := by omega
    rcases this with rfl | rfl | rfl <;> rfl
  · rw [if_neg h1]
theorem at_z (s : ByteArray) (i : Int) (h : 0 ≤ i) : Dd.at_ (s ++ Z) i = Dd.at_ s i := by
  by_cases h1 : i < (s.size : Int)
  · exact Dd.at_app_left s Z i h h1
  · rw [Dd.at_app_right s Z i (by omega), z_at _ (by omega)]
    unfold Dd.at_
    rw [if_neg h1]
theorem val_z (s : ByteArray) (i : Int) (h : 0 ≤ i) : Dd.val (s ++ Z) i = Dd.val s i := by
  unfold Dd.val
  rw [at_z s i h, at_z s (i + 1) (by omega), at_z s (i + 2) (by omega), at_z s (i + 3) (by omega)]
theorem run (s : ByteArray) (hs : s.size + 3 ≤ 65536) (ps : List Int) (d : Nat) : ∀ (i k : Nat) (lo hi : Int) (out : ByteArray), i + d = 60 → 2 * d + 3 < k → Cd.may lo hi out = true → out.size ≤ 4 * i →
    lo ≤ Dd.val s out.size → Dd.val s out.size ≤ hi →
    descantlaw5_DecoderZeros.l0 k ps (i : Int) lo hi (Dd.val s out.size) s ((out.size : Int) + 4) lo hi (Dd.val s out.size) (s ++ Z) ((out.size : Int) + 4) = some true := by
  have hz : (s ++ Z).size ≤ 65536 := by rw [ByteArray.size_append]; show s.size + 3 ≤ 65536; exact hs
  induction d with
  | zero =>
    intro i k lo hi out hi' hk hm ho v0 v1
    obtain ⟨k, rfl⟩ : ∃ m, k = m + 2 := ⟨k - 2, by omega⟩
    simp only [descantlaw5_DecoderZeros.l0, descantlaw5_DecoderZeros.j2]
    have c3 : decide ((i : Int) < 60) = false := by rw [decide_eq_false_iff_not]; omega
    by_cases c1 : (i : Int) < (ps.length : Int)
    · rw [if_pos c1, c3, if_neg (by decide)]
    · rw [if_neg c1, if_neg (by decide)]
  | succ d ih =>
    intro i k lo hi out hi' hk hm ho v0 v1
    obtain ⟨k, rfl⟩ : ∃ m, k = m + 2 := ⟨k - 2, by omega⟩
    by_cases c1 : (i : Int) < (ps.length : Int)
    · obtain ⟨p, hp1, hp2, ep⟩ := p_ok (rd ps (i : Int))
      obtain ⟨b, hb, hbit⟩ : ∃ b : Int, (b = 0 ∨ b = 1) ∧ (b = 1 ↔ Dd.val s out.size ≤ Cd.mid lo hi p) := by
        by_cases h : Dd.val s out.size ≤ Cd.mid lo hi p
        · exact ⟨1, .inr rfl, fun _ => h, fun _ => rfl⟩
        · exact ⟨0, .inl rfl, fun h' => absurd h' (by decide), fun h' => absurd h' h⟩
      obtain ⟨lo', hi2, t, q1, q2, q3, -, q5⟩ := Dd.bits lo hi out p hm hp1 hp2 (by omega) s (by omega) b hb
      obtain ⟨z1, z2, z3, z4⟩ := q5 v0 v1 hbit
      obtain ⟨lo'', hi3, t', r1, -, -, -, r5⟩ := Dd.bits lo hi out p hm hp1 hp2 (by omega) (s ++ Z) hz b hb
      rw [q1] at r1
      simp only [Prod.mk.injEq] at r1
      obtain ⟨rfl, rfl, et, -⟩ := r1
      rw [← et] at r5
      rw [val_z s out.size (by omega), val_z s (out ++ t).size (by omega)] at r5
      obtain ⟨-, -, -, y4⟩ := r5 v0 v1 hbit
      have c3 : decide ((i : Int) < 60) = true := by rw [decide_eq_true_iff]; omega
      have hsz : (out ++ t).size = out.size + t.size := ByteArray.size_append
      have g := ih (i + 1) k lo' hi2 (out ++ t) (by omega) (by omega) q3 (by omega) z2 z3
      have hd : decoder_Bit.f lo hi (Dd.val s out.size) s ((out.size : Int) + 4) p = some (lo', hi2, Dd.val s (out ++ t).size, s, ((out ++ t).size : Int) + 4, b, 0) := by unfold decoder_Bit.f; rw [z4]
      have hd2 : decoder_Bit.f lo hi (Dd.val s out.size) (s ++ Z) ((out.size : Int) + 4) p = some (lo', hi2, Dd.val s (out ++ t).size, s ++ Z, ((out ++ t).size : Int) + 4, b, 0) := by unfold decoder_Bit.f; rw [y4]
      simp only [descantlaw5_DecoderZeros.l0, descantlaw5_DecoderZeros.j2]
      rw [if_pos c1, c3, if_pos rfl, if_pos (Int.natCast_nonneg _), if_pos c1, ep, hd, hd2]
      simp only [Option.bind_some, descantlaw0_Num.f, if_true]
      rw [next_i i (by omega)]
      exact g
    · simp only [descantlaw5_DecoderZeros.l0, descantlaw5_DecoderZeros.j2]
      rw [if_neg c1, if_neg (by decide)]
theorem DecoderZeros : descantlaw5_DecoderZeros.Pure := by
  intro s ps hsz _ _ _
  refine ⟨205, ?_⟩
  unfold descantlaw5_DecoderZeros.f
  have w3 : wrap64 ((s.size : Int) + 3) = (s.size : Int) + 3 := by unfold wrap64; omega
  have hz : (s ++ Z).size = s.size + 3 := ByteArray.size_append
  have J : ∀ a b c d e f g h i j, 65536 < s.size + 3 → descantlaw5_DecoderZeros.j0 205 s ps true a b c d e f g h i j = some true := by
    intro a b c d e f g h i j hh
    simp only [descantlaw5_DecoderZeros.j0, if_true]
    rw [w3]
    congr 1
    exact decide_eq_true (by omega)
  rw [show descantlaw5_awake.f = some true from rfl, Option.bind_some, if_pos rfl, show decoder_New.f 205 s = some (Dd.new s) from new_ge s 200, Option.bind_some, if_pos (by omega)]
  rw [show decoder_New.f 205 (s ++ ⟨#[0, 0, 0]⟩) = some (Dd.new (s ++ Z)) from new_ge (s ++ Z) 200, Option.bind_some]
  simp only [descantlaw0_Num.f, Option.bind_some]
  unfold Dd.new
  by_cases h : s.size ≤ 65536
  · rw [if_pos h, if_pos rfl, hz]
    by_cases h2 : s.size + 3 ≤ 65536
    · rw [if_pos h2]
      have hv := Dd.val_bd s 0
      have g := run s h2 ps 60 0 204 0 4294967295 ⟨#[]⟩ (by omega) (by omega) (by decide) (by decide) hv.1 hv.2
      simp only [descantlaw5_DecoderZeros.j0]
      rw [if_neg (by decide), Dd.first_val, Dd.first_val, val_z s 0 (by omega)]
      exact g
    · rw [if_neg h2]
      exact J _ _ _ _ _ _ _ _ _ _ (by omega)
  · rw [if_neg h, if_neg (by decide)]
    exact J _ _ _ _ _ _ _ _ _ _ (by omega)

end Go.Proofs.Ytbhmpmhjklkghaa.Pure
