/- Many bits that have great chances take few bytes. -/
import Derived.Test.YtpahbnahfhailaaQCoderShortx
import Derived.Test.YtpahbnahfhailaaLem
namespace Go.Proofs.Ytpahbnahfhailaa.Pure
open Go.RowKit Go.Proofs.Ytpahbnahfhailaa.QCoderShort Go.Proofs.Ytpahbnahfhailaa.CBase Go.Proofs.YtpahbnahfhailaaW.PrintWords Go.Proofs.YtpahbnahfhailaaW.PrintLast Go.Proofs.YtpahbnahfhailaaW.PrintMore

/-- So many bits more: each is put, and what has gone out stays short. -/
def chk (p b : Int) : Nat → Nat → Int → Int → ByteArray → Bool
  | 0, i, lo, hi, out => decide (out.size ≤ 2 + i / 64) && Cd.may lo hi out
  | n + 1, i, lo, hi, out => (decide (out.size ≤ 2 + i / 64) && Cd.may lo hi out) && (decide ((Cd.bit lo hi out b p).2.2.2 = 0) && chk p b n (i + 1) (Cd.bit lo hi out b p).1 (Cd.bit lo hi out b p).2.1 (Cd.bit lo hi out b p).2.2.1)
theorem chk_now {p b : Int} {n i : Nat} {lo hi : Int} {out : ByteArray} (h : chk p b n i lo hi out = true) : out.size ≤ 2 + i / 64 ∧ Cd.may lo hi out = true := by
  cases n with
  | zero => simpa [chk] using h
  | succ n =>
    simp only [chk, Bool.and_eq_true, decide_eq_true_eq] at h
    exact h.1
theorem six (K : Nat) (hK : K ≤ 511) : wrap64 (6 + wrap64 (Int.tdiv (K : Int) 64)) = ((6 + K / 64 : Nat) : Int) := by
  have ht : Int.tdiv (K : Int) 64 = ((K / 64 : Nat) : Int) := by rw [Int.tdiv_eq_ediv_of_nonneg (by omega)]; omega
  rw [ht, w64e (x := ((K / 64 : Nat) : Int)) rfl (by omega) (by omega)]
  exact w64e (by omega) (by omega) (by omega)
theorem one_more (i : Nat) (h : i ≤ 511) : wrap64 ((i : Int) + 1) = ((i + 1 : Nat) : Int) := w64e (by omega) (by omega) (by omega)
theorem loop (p b : Int) (K : Nat) (hK : K ≤ 511) (m : Nat) : ∀ (n i k : Nat) (lo hi : Int) (out : ByteArray), m ≤ n → i + m = K → m < k → chk p b n i lo hi out = true → descantlaw4_CoderShort.l0 k p b (K : Int) (i : Int) lo hi out = some true := by
  induction m with
  | zero =>
    intro n i k lo hi out _ hi_ hk h
    obtain ⟨k, rfl⟩ : ∃ q, k = q + 1 := ⟨k - 1, by omega⟩
    obtain ⟨h1, h2⟩ := chk_now h
    have hz := four_size lo
    have hs : (out ++ strOfNums (Cd.four lo)).size ≤ 6 + K / 64 := by rw [ByteArray.size_append]; omega
    simp only [descantlaw4_CoderShort.l0]
    rw [if_neg (by omega), end_yes h2]
    simp only [Option.bind_some, descantlaw0_Num.f, if_true]
    rw [six K hK]
    congr 1
    rw [decide_eq_true_iff]
    omega
  | succ m ih =>
    intro n i k lo hi out hn hi_ hk h
    obtain ⟨k, rfl⟩ : ∃ q, k = q + 1 := ⟨k - 1, by omega⟩
    obtain ⟨n, rfl⟩ : ∃ q, n = q + 1 := ⟨n - 1, by omega⟩
    simp only [chk, Bool.and_eq_true, decide_eq_true_eq] at h
    obtain ⟨-, h1, h2⟩ := h
    have hr := ih n (i + 1) k _ _ _ (by omega) (by omega) (by omega) h2
    simp only [descantlaw4_CoderShort.l0]
    rw [if_pos (by omega)]
    simp only [coder_Bit.f, Option.bind_some, descantlaw0_Num.f]
    rw [if_pos h1, one_more i (by omega)]
    exact hr
theorem chk_one : chk 4095 1 511 0 0 4294967295 ⟨#[]⟩ = true := by decide +kernel
theorem chk_zero : chk 1 0 511 0 0 4294967295 ⟨#[]⟩ = true := by decide +kernel
theorem and_range (a : Int) (m : Nat) (hm : m < 9223372036854775808) : ∃ n : Nat, n ≤ m ∧ Go.bits .and .i64 a (m : Int) = (n : Int) := by
  have h : (BitVec.ofInt 64 a &&& BitVec.ofInt 64 (m : Int)).toNat ≤ m := by
    rw [BitVec.toNat_and]
    refine Nat.le_trans Nat.and_le_right ?_
    rw [BitVec.ofInt_natCast, BitVec.toNat_ofNat]
    exact Nat.mod_le _ _
  refine ⟨_, h, wi64 _ (by omega) ?_⟩
  show (((BitVec.ofInt 64 a &&& BitVec.ofInt 64 (m : Int)).toNat : Nat) : Int) < 2 ^ 63
  omega
/-- YOURS -/
theorem CoderShort : descantlaw4_CoderShort.Pure := by
  intro a b _
  obtain ⟨K, hK, eK⟩ := and_range a 511 (by omega)
  have eK' : Go.bits .and .i64 a 511 = (K : Int) := eK
  refine ⟨600, ?_⟩
  unfold descantlaw4_CoderShort.f
  rw [awake_ok, Option.bind_some, if_pos rfl]
  unfold coder_New.f
  simp only [Option.bind_some, descantlaw4_CoderShort.j0]
  rw [eK']
  cases b with
  | true =>
    rw [if_pos rfl]
    exact loop 4095 1 K hK K 511 0 599 0 4294967295 ⟨#[]⟩ hK (by omega) (by omega) chk_one
  | false =>
    rw [if_neg (by decide)]
    exact loop 1 0 K hK K 511 0 599 0 4294967295 ⟨#[]⟩ hK (by omega) (by omega) chk_zero

end Go.Proofs.Ytpahbnahfhailaa.Pure
