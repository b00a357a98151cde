/- Decoders, chances and texts that may not be are told. -/
import Derived.Test.YtbhmpmhjklkghaaRDecoderFormsx
import Derived.Test.YtbhmpmhjklkghaaLem
namespace Go.Proofs.Ytbhmpmhjklkghaa.Pure
open Go.RowKit Go.Proofs.Ytbhmpmhjklkghaa Go.Proofs.Ytbhmpmhjklkghaa.RDecoderForms Go.Proofs.Ytbhmpmhjklkghaa.CBase Go.Proofs.YtbhmpmhjklkghaaW.PrintWords Go.Proofs.YtbhmpmhjklkghaaW.PrintLast Go.Proofs.YtbhmpmhjklkghaaW.PrintMore
set_option linter.unusedVariables false
set_option linter.unusedSimpArgs false
theorem and_range (a : Int) (m : Nat) (hm : m < 9223372036854775808) : ∃ n : Nat, n ≤ m ∧ Go.bits .and .i64 a (m : Int) = (n : Int) := by
  have h : (BitVec.ofInt 64 a &&& BitVec.ofInt 64 (m : Int)).toNat ≤ m := by
    rw [BitVec.toNat_and]
    refine Nat.le_trans Nat.and_le_right ?_
    rw [BitVec.ofInt_natCast, BitVec.toNat_ofNat]
    exact Nat.mod_le _ _
  refine ⟨_, h, wi64 _ (by omega) ?_⟩
  show (((BitVec.ofInt 64 a &&& BitVec.ofInt 64 (m : Int)).toNat : Nat) : Int) < 2 ^ 63
  omega
theorem p_ok (a : Int) : ∃ p : Int, 1 ≤ p ∧ p ≤ 4095 ∧ wrap64 (1 + (Go.bits .and .i64 a 4094)) = p := by
  obtain ⟨n, h, e⟩ := and_range a 4094 (by omega)
  refine ⟨1 + n, by omega, by omega, ?_⟩
  rw [show Go.bits .and .i64 a 4094 = (n : Int) from e]
  unfold wrap64
  omega
theorem b_ok (a : Int) : Go.bits .and .i64 a 1 = 0 ∨ Go.bits .and .i64 a 1 = 1 := by
  obtain ⟨n, h, e⟩ := and_range a 1 (by omega)
  rw [show Go.bits .and .i64 a 1 = (n : Int) from e]
  omega
theorem new_ge (s : ByteArray) (d : Nat) : decoder_New.f (5 + d) s = some (Dd.new s) := by
  induction d with
  | zero => exact new_some s
  | succ d ih => exact decoder_New.mono s _ _ ih
theorem next_i (i : Nat) (h : i < 100000000) : wrap64 ((i : Int) + 1) = ((i + 1 : Nat) : Int) := by
  unfold wrap64
  omega

theorem d_ok (x : Int) : ∃ d : Int, wrap64 (1 + Go.bits .and .i64 x 1023) = d ∧ 1 ≤ d ∧ d ≤ 1024 := by
  obtain ⟨n, h, e⟩ := and_range x 1023 (by omega)
  refine ⟨1 + n, ?_, by omega, by omega⟩
  rw [show Go.bits .and .i64 x 1023 = (n : Int) from e]
  unfold wrap64
  omega
theorem bad_bit (lo hi now : Int) (t : ByteArray) (a p : Int) (h : Dd.may lo hi now t a = false ∨ Cd.chance p = false) : decoder_Bit.f lo hi now t a p = some (0, 0, 0, ⟨#[]⟩, 0, 0, 500) := by
  unfold decoder_Bit.f Dd.bit
  rw [if_neg]
  · rfl
  · rintro ⟨h1, h2⟩
    rw [h1, h2] at h
    simp at h
theorem big_new (d : Int) (h1 : 1 ≤ d) (h2 : d ≤ 1024) (k : Nat) : decoder_New.f (5 + k) (strOfNums (List.replicate (65536 + d).toNat 0)) = some (0, 0, 0, ⟨#[]⟩, 0, 500) := by
  rw [new_ge]
  unfold Dd.new
  rw [if_neg]
  rw [strOfNums_size, List.length_replicate]
  omega
def G : ByteArray := ⟨#[97, 98, 99, 100, 101, 102]⟩
theorem j0_ok (k : Nat) (x d : Int) (h1 : 1 ≤ d) (h2 : d ≤ 1024) (lo hi now : Int) (t : ByteArray) (a : Int) (hb : Dd.may lo hi now t a = false) :
    descantlaw5_DecoderForms.j0 (k + 6) x d 0 4294967295 1633837924 G 4 lo hi now t a = some true := by
  have hx : Go.bits .and .i64 x 1 = 0 ∨ Go.bits .and .i64 x 1 = 1 := b_ok x
  have w1 : wrap64 (1 - d) = 1 - d := by unfold wrap64; omega
  have w2 : wrap64 (4095 + d) = 4095 + d := by unfold wrap64; omega
  have w3 : wrap64 (65536 + d) = 65536 + d := by unfold wrap64; omega
  have hg : Dd.may 0 4294967295 1633837924 G 4 = true := by decide +kernel
  have hp : ∃ p, rd ([1 - d, 4095 + d] : List Int) (Go.bits .and .i64 x 1) = p ∧ Cd.chance p = false := by
    rcases hx with h | h
    · rw [h]
      exact ⟨1 - d, rfl, decide_eq_false (by omega)⟩
    · rw [h]
      exact ⟨4095 + d, rfl, decide_eq_false (by omega)⟩
  obtain ⟨p, ep, hp⟩ := hp
  have c1 : 0 ≤ Go.bits .and .i64 x 1 := by omega
  have c2 : Go.bits .and .i64 x 1 < ((([1 - d, 4095 + d] : List Int).length : Nat) : Int) := by simp only [List.length_cons, List.length_nil]; omega
  have c3 : 0 ≤ 65536 + d := by omega
  have c4 : (65536 + d).toNat ≤ 281474976710656 := by omega
  simp only [descantlaw5_DecoderForms.j0]
  rw [bad_bit lo hi now t a 9 (.inl hb)]
  simp only [Option.bind_some]
  rw [w1, w2, w3, if_pos c1, if_pos c2, ep, bad_bit _ _ _ _ _ p (.inr hp)]
  simp only [Option.bind_some]
  rw [if_pos c3, if_pos c4, show k + 5 = 5 + k by omega, big_new d h1 h2 k]
  simp only [Option.bind_some]
  rw [dmay_some, dmay_some, hg, hb]
  simp [descantlaw0_Num.f]
theorem DecoderForms : descantlaw5_DecoderForms.Pure := by
  intro x y _ _
  obtain ⟨d, hd, h1, h2⟩ := d_ok y
  refine ⟨6, ?_⟩
  unfold descantlaw5_DecoderForms.f
  rw [show descantlaw5_awake.f = some true from rfl, Option.bind_some, if_pos rfl, rnew_some, show Dd.new ⟨#[97, 98, 99, 100, 101, 102]⟩ = (0, 4294967295, 1633837924, G, 4, 0) by decide +kernel, Option.bind_some, hd]
  have w0 : wrap64 (-d) = -d := by unfold wrap64; omega
  have w1 : wrap64 (4294967295 + d) = 4294967295 + d := by unfold wrap64; omega
  have w2 : wrap64 (1633837924 - d) = 1633837924 - d := by unfold wrap64; omega
  have w3 : wrap64 (4 - d) = 4 - d := by unfold wrap64; omega
  have w4 : wrap64 (65544 + d) = 65544 + d := by unfold wrap64; omega
  have w5 : wrap64 (65536 + d) = 65536 + d := by unfold wrap64; omega
  have w6 : wrap64 (4294967295 - 5) = 4294967290 := by unfold wrap64; omega
  simp only []
  rw [w0, w1, w2, w3, w4, w5, w6]
  have J := j0_ok 0 x d h1 h2
  split
  · exact J _ _ _ _ _ (decide_eq_false (by omega))
  · split
    · exact J _ _ _ _ _ (decide_eq_false (by omega))
    · split
      · exact J _ _ _ _ _ (decide_eq_false (by omega))
      · split
        · exact J _ _ _ _ _ (decide_eq_false (by omega))
        · split
          · exact J _ _ _ _ _ (decide_eq_false (by omega))
          · split
            · exact J _ _ _ _ _ (decide_eq_false (by omega))
            · split
              · rw [if_pos (by omega), if_pos (by omega)]
                exact J _ _ _ _ _ (decide_eq_false (by rw [strOfNums_size, List.length_replicate]; omega))
              · exact J _ _ _ _ _ (decide_eq_false (by omega))

end Go.Proofs.Ytbhmpmhjklkghaa.Pure
