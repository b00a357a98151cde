/- Bits that were coded are decoded, with the same chances. -/
import Derived.Test.YtbhmpmhjklkghaaQDecoderBackx
import Derived.Test.YtbhmpmhjklkghaaLem
namespace Go.Proofs.Ytbhmpmhjklkghaa.Pure
open Go.RowKit Go.Proofs.Ytbhmpmhjklkghaa Go.Proofs.Ytbhmpmhjklkghaa.QDecoderBack Go.Proofs.Ytbhmpmhjklkghaa.CBase Go.Proofs.YtbhmpmhjklkghaaW.PrintWords Go.Proofs.YtbhmpmhjklkghaaW.PrintLast Go.Proofs.YtbhmpmhjklkghaaW.PrintMore
set_option linter.unusedVariables false
set_option linter.unusedSimpArgs false
theorem and_range (a : Int) (m : Nat) (hm : m < 9223372036854775808) : ∃ n : Nat, n ≤ m ∧ Go.bits .and .i64 a (m : Int) = (n : Int) := by
  have h : (BitVec.ofInt 64 a &&& BitVec.ofInt 64 (m : Int)).toNat ≤ m := by
    rw [BitVec.toNat_and]
    refine Nat.le_trans Nat.and_le_right ?_
    rw [BitVec.ofInt_natCast, BitVec.toNat_ofNat]
    exact Nat.mod_le _ _
  refine ⟨_, h, wi64 _ (by omega) ?_⟩
  show (((BitVec.ofInt 64 a &&& BitVec.ofInt 64 (m : Int)).toNat : Nat) : Int) < 2 ^ 63
  omega
theorem p_ok (a : Int) : ∃ p : Int, 1 ≤ p ∧ p ≤ 4095 ∧ wrap64 (1 + (Go.bits .and .i64 a 4094)) = p := by
  obtain ⟨n, h, e⟩ := and_range a 4094 (by omega)
  refine ⟨1 + n, by omega, by omega, ?_⟩
  rw [show Go.bits .and .i64 a 4094 = (n : Int) from e]
  unfold wrap64
  omega
theorem b_ok (a : Int) : Go.bits .and .i64 a 1 = 0 ∨ Go.bits .and .i64 a 1 = 1 := by
  obtain ⟨n, h, e⟩ := and_range a 1 (by omega)
  rw [show Go.bits .and .i64 a 1 = (n : Int) from e]
  omega
theorem new_ge (s : ByteArray) (d : Nat) : decoder_New.f (5 + d) s = some (Dd.new s) := by
  induction d with
  | zero => exact new_some s
  | succ d ih => exact decoder_New.mono s _ _ ih
theorem next_i (i : Nat) (h : i < 100000000) : wrap64 ((i : Int) + 1) = ((i + 1 : Nat) : Int) := by
  unfold wrap64
  omega

def bo (bs : List Int) (i : Nat) : Int := Go.bits .and .i64 (rd bs (i : Int)) 1
def po (ps : List Int) (i : Nat) : Int := wrap64 (1 + (Go.bits .and .i64 (rd ps (i : Int)) 4094))
/-- The coder behind so many bits. -/
def tr (bs ps : List Int) : Nat → Int × Int × ByteArray
  | 0 => (0, 4294967295, ⟨#[]⟩)
  | i + 1 => ((Cd.bit (tr bs ps i).1 (tr bs ps i).2.1 (tr bs ps i).2.2 (bo bs i) (po ps i)).1, (Cd.bit (tr bs ps i).1 (tr bs ps i).2.1 (tr bs ps i).2.2 (bo bs i) (po ps i)).2.1, (Cd.bit (tr bs ps i).1 (tr bs ps i).2.1 (tr bs ps i).2.2 (bo bs i) (po ps i)).2.2.1)
theorem tr_ok (bs ps : List Int) (i : Nat) (hi : i ≤ 60) : Cd.may (tr bs ps i).1 (tr bs ps i).2.1 (tr bs ps i).2.2 = true ∧ (tr bs ps i).2.2.size ≤ 4 * i := by
  induction i with
  | zero => exact ⟨(by decide : Cd.may 0 4294967295 ⟨#[]⟩ = true), (by decide : (ByteArray.mk #[]).size ≤ 4 * 0)⟩
  | succ i ih =>
    obtain ⟨h1, h2⟩ := ih (by omega)
    obtain ⟨p, hp1, hp2, ep⟩ := p_ok (rd ps (i : Int))
    obtain ⟨lo', hi2, t, q1, q2, q3, -⟩ := Dd.bits _ _ _ p h1 hp1 hp2 (by omega) ⟨#[]⟩ (by decide) (bo bs i) (b_ok _)
    have e : po ps i = p := ep
    simp only [tr]
    rw [e, q1]
    exact ⟨q3, by show (_ ++ t).size ≤ _; rw [ByteArray.size_append]; omega⟩
/-- The text's place stands between a coder's ends, and what the coder told is what the text begins with. -/
def Fits (s : ByteArray) (c : Int × Int × ByteArray) : Prop := Dd.Has s 0 c.2.2 ∧ c.1 ≤ Dd.val s c.2.2.size ∧ Dd.val s c.2.2.size ≤ c.2.1
theorem fits_back (bs ps : List Int) (s : ByteArray) (hs : s.size ≤ 65536) (i : Nat) (hi : i < 60) (h : Fits s (tr bs ps (i + 1))) :
    Fits s (tr bs ps i) ∧ decoder_Bit.f (tr bs ps i).1 (tr bs ps i).2.1 (Dd.val s (tr bs ps i).2.2.size) s (((tr bs ps i).2.2.size : Int) + 4) (po ps i) =
      some ((tr bs ps (i + 1)).1, (tr bs ps (i + 1)).2.1, Dd.val s (tr bs ps (i + 1)).2.2.size, s, ((tr bs ps (i + 1)).2.2.size : Int) + 4, bo bs i, 0) := by
  obtain ⟨h1, h2⟩ := tr_ok bs ps i (by omega)
  obtain ⟨p, hp1, hp2, ep⟩ := p_ok (rd ps (i : Int))
  obtain ⟨lo', hi2, t, q1, q2, q3, q4, -⟩ := Dd.bits _ _ _ p h1 hp1 hp2 (by omega) s hs (bo bs i) (b_ok _)
  have e : po ps i = p := ep
  have et : tr bs ps (i + 1) = (lo', hi2, (tr bs ps i).2.2 ++ t) := by
    simp only [tr]
    rw [e, q1]
  rw [et] at h ⊢
  obtain ⟨g1, g2, g3⟩ := h
  have gr := g1.right
  rw [Int.zero_add] at gr
  obtain ⟨z1, z2, z3⟩ := q4 gr g2 g3
  refine ⟨⟨g1.left, z1, z2⟩, ?_⟩
  unfold decoder_Bit.f
  rw [e, z3]
theorem fits_all (bs ps : List Int) (s : ByteArray) (hs : s.size ≤ 65536) (n d : Nat) : ∀ i : Nat, i + d = n → n ≤ 60 → Fits s (tr bs ps n) → Fits s (tr bs ps i) := by
  induction d with
  | zero =>
    intro i hi hn h
    obtain rfl : i = n := by omega
    exact h
  | succ d ih =>
    intro i hi hn h
    exact (fits_back bs ps s hs i (by omega) (ih (i + 1) (by omega) hn h)).1
theorem l1_run (bs ps : List Int) (s : ByteArray) (hs : s.size ≤ 65536) (n : Nat) (hn : n ≤ 60) (hb : n ≤ bs.length) (hp : n ≤ ps.length) (h : Fits s (tr bs ps n)) (d : Nat) : ∀ (i k : Nat), i + d = n → d < k →
    descantlaw5_DecoderBack.l1 k bs ps (n : Int) (i : Int) (tr bs ps i).1 (tr bs ps i).2.1 (Dd.val s (tr bs ps i).2.2.size) s (((tr bs ps i).2.2.size : Int) + 4) = some true := by
  induction d with
  | zero =>
    intro i k hi hk
    obtain ⟨k, rfl⟩ : ∃ m, k = m + 1 := ⟨k - 1, by omega⟩
    simp only [descantlaw5_DecoderBack.l1]
    rw [if_neg (by omega)]
  | succ d ih =>
    intro i k hi hk
    obtain ⟨k, rfl⟩ : ∃ m, k = m + 1 := ⟨k - 1, by omega⟩
    have e := (fits_back bs ps s hs i (by omega) (fits_all bs ps s hs n d (i + 1) (by omega) hn h)).2
    unfold po at e
    have g := ih (i + 1) k (by omega) (by omega)
    simp only [descantlaw5_DecoderBack.l1]
    rw [if_pos (by omega), if_pos (by omega), if_pos (by omega), e]
    simp only [Option.bind_some, descantlaw0_Num.f, if_true]
    rw [if_pos (by omega), if_pos (show bo bs i = Go.bits .and .i64 (rd bs (i : Int)) 1 from rfl), next_i i (by omega)]
    exact g
theorem low_some (d : Nat) (x : Int) : descantref1_Low.f (5 + d) x 1 = some (strOfNums [x % 256]) := by
  induction d with
  | zero => simp [descantref1_Low.f, descantref1_Low.l0, shr, wrap64]
  | succ d ih => exact descantref1_Low.mono x 1 _ _ ih
theorem refend_some (d : Nat) (lo hi : Int) (out : ByteArray) (h : Cd.may lo hi out = true) : descantref1_EndCoder.f (5 + d) lo hi out = some (out ++ strOfNums (Cd.four lo), 0) := by
  unfold descantref1_EndCoder.f
  rw [ref_may_some, h]
  have hb := of_decide_eq_true h
  have hs : ∀ x : Int, (strOfNums [x]).size = 1 := fun x => strOfNums_size _
  simp only [Option.bind_some, if_true, low_some]
  rw [if_pos (by rw [hs]; omega), if_pos (by rw [ByteArray.size_append, hs, hs]; omega), if_pos (by rw [ByteArray.size_append, ByteArray.size_append, hs, hs, hs]; omega), if_pos (by rw [ByteArray.size_append, ByteArray.size_append, ByteArray.size_append, hs, hs, hs, hs]; omega)]
  congr 2
  unfold Cd.four
  rw [ByteArray.append_assoc, ByteArray.append_assoc, ByteArray.append_assoc]
  congr 1
theorem l0_run (bs ps : List Int) (n : Nat) (hn : n ≤ 60) (hb : n ≤ bs.length) (hp : n ≤ ps.length) (d : Nat) : ∀ (i k : Nat), i + d = n → 400 + d ≤ k →
    descantlaw5_DecoderBack.l0 k bs ps (n : Int) (i : Int) (tr bs ps i).1 (tr bs ps i).2.1 (tr bs ps i).2.2 = some true := by
  induction d with
  | zero =>
    intro i k hi hk
    obtain rfl : i = n := by omega
    obtain ⟨k, rfl⟩ : ∃ m, k = (5 + (100 + m)) + 1 := ⟨k - 106, by omega⟩
    obtain ⟨h1, h2⟩ := tr_ok bs ps i hn
    have hb' := of_decide_eq_true h1
    have h4 : (strOfNums (Cd.four (tr bs ps i).1)).size = 4 := strOfNums_size _
    have hsz : ((tr bs ps i).2.2 ++ strOfNums (Cd.four (tr bs ps i).1)).size ≤ 65536 := by rw [ByteArray.size_append, h4]; omega
    have hfit : Fits ((tr bs ps i).2.2 ++ strOfNums (Cd.four (tr bs ps i).1)) (tr bs ps i) := by
      refine ⟨Dd.Has.self _ _, ?_⟩
      rw [Dd.val_app, Dd.four_bytes _ hb'.1 (by omega)]
      omega
    have g := l1_run bs ps _ hsz i hn hb hp hfit i 0 (4 + (100 + k)) (by omega) (by omega)
    simp only [descantlaw5_DecoderBack.l0]
    rw [if_neg (by omega), refend_some (100 + k) _ _ _ h1]
    simp only [Option.bind_some, if_true]
    rw [new_ge _ (100 + k)]
    unfold Dd.new
    rw [if_pos hsz]
    simp only [Option.bind_some, descantlaw0_Num.f]
    rw [show 5 + (100 + k) = (4 + (100 + k)) + 1 by omega]
    simp only [descantlaw5_DecoderBack.j1]
    rw [if_neg (by decide)]
    exact g
  | succ d ih =>
    intro i k hi hk
    obtain ⟨k, rfl⟩ : ∃ m, k = m + 1 := ⟨k - 1, by omega⟩
    have g := ih (i + 1) k (by omega) (by omega)
    simp only [descantlaw5_DecoderBack.l0]
    rw [if_pos (by omega), if_pos (by omega), if_pos (by omega), if_pos (by omega), next_i i (by omega)]
    simp only [descantref1_CodeBit.f, Option.bind_some]
    exact g
theorem DecoderBack : descantlaw5_DecoderBack.Pure := by
  intro bs ps _ _ _ _ _ _
  refine ⟨470, ?_⟩
  unfold descantlaw5_DecoderBack.f
  rw [show descantlaw5_awake.f = some true from rfl, Option.bind_some, if_pos rfl, show descantref1_NewCoder.f = some (0, 4294967295, (⟨#[]⟩ : ByteArray)) from rfl, Option.bind_some]
  obtain ⟨n, en, h1, h2, h3⟩ : ∃ n : Nat, mn (mn (bs.length : Int) (ps.length : Int)) 60 = (n : Int) ∧ n ≤ 60 ∧ n ≤ bs.length ∧ n ≤ ps.length := by
    refine ⟨min (min bs.length ps.length) 60, ?_, by omega, by omega, by omega⟩
    unfold mn
    omega
  rw [en]
  exact l0_run bs ps n h1 h2 h3 n 0 470 (by omega) (by omega)

end Go.Proofs.Ytbhmpmhjklkghaa.Pure
