/- What a coder's calls answer, in plain Lean: the ends, the middle, the bytes that are gone. -/
import Derived.Laws.BytesArg
namespace Go.Proofs.Ytpahbnahfhailaa
namespace Cd

def ends (lo hi : Int) : Bool := decide (0 ≤ lo ∧ hi ≤ 4294967295 ∧ lo / 16777216 < hi / 16777216)
def may (lo hi : Int) (out : ByteArray) : Bool := decide (0 ≤ lo ∧ hi ≤ 4294967295 ∧ lo / 16777216 < hi / 16777216 ∧ out.size ≤ 65536)
def chance (p : Int) : Bool := decide (1 ≤ p ∧ p ≤ 4095)
def mid (lo hi p : Int) : Int := lo + (hi - lo) / 4096 * p + (hi - lo) % 4096 * p / 4096
/-- The bytes that both ends have in common go out, so many at most. -/
def sh : Nat → Int → Int → ByteArray → Int × Int × ByteArray
  | 0, lo, hi, out => (lo, hi, out)
  | n + 1, lo, hi, out => if lo / 16777216 = hi / 16777216 then sh n (lo * 256 % 4294967296) (hi * 256 % 4294967296 + 255) (out ++ strOfNums [lo / 16777216 % 256]) else (lo, hi, out)
def fin (r : Int × Int × ByteArray) : Int × Int × ByteArray × Int := if r.2.2.size ≤ 65536 then (r.1, r.2.1, r.2.2, 0) else (0, 0, ⟨#[]⟩, 400)
def bad : Int × Int × ByteArray × Int := (0, 0, ⟨#[]⟩, 400)
def bit (lo hi : Int) (out : ByteArray) (b p : Int) : Int × Int × ByteArray × Int :=
  if may lo hi out = true ∧ (b = 0 ∨ b = 1) ∧ chance p = true then fin (if b = 1 then sh 4 lo (mid lo hi p) out else sh 4 (mid lo hi p + 1) hi out) else bad
def four (lo : Int) : List Int := [lo / 16777216 % 256, lo / 65536 % 256, lo / 256 % 256, lo % 256]
def end_ (lo hi : Int) (out : ByteArray) : ByteArray × Int := if may lo hi out = true then (out ++ strOfNums (four lo), 0) else (⟨#[]⟩, 400)

/-- What holds of the ends when so many turns are left at most. -/
def Inv (d : Nat) (lo hi : Int) : Prop :=
  d ≤ 4 ∧ 0 ≤ lo ∧ lo ≤ 4294967295 ∧ 0 ≤ hi ∧ hi ≤ 4294967295 ∧ (d ≤ 3 → lo % 256 = 0 ∧ hi % 256 = 255) ∧ (d ≤ 2 → lo % 65536 = 0 ∧ hi % 65536 = 65535) ∧
  (d ≤ 1 → lo % 16777216 = 0 ∧ hi % 16777216 = 16777215) ∧ (d = 0 → lo = 0 ∧ hi = 4294967295)
theorem Inv.start {lo hi : Int} (h1 : 0 ≤ lo) (h2 : lo ≤ 4294967295) (h3 : 0 ≤ hi) (h4 : hi ≤ 4294967295) : Inv 4 lo hi :=
  ⟨by omega, h1, h2, h3, h4, by omega, by omega, by omega, by omega⟩
theorem Inv.next {d : Nat} {lo hi : Int} (h : Inv (d + 1) lo hi) (_ : lo / 16777216 = hi / 16777216) : Inv d (lo * 256 % 4294967296) (hi * 256 % 4294967296 + 255) := by
  obtain ⟨h1, h2, h3, h4, h5, h6, h7, h8, h9⟩ := h
  refine ⟨by omega, by omega, by omega, by omega, by omega, ?_, ?_, ?_, ?_⟩
  · intro _; omega
  · intro hd; have := h6 (by omega); omega
  · intro hd; have := h7 (by omega); omega
  · intro hd; have := h8 (by omega); omega
theorem Inv.zero {lo hi : Int} (h : Inv 0 lo hi) : ¬ lo / 16777216 = hi / 16777216 := by
  obtain ⟨h1, h2, h3, h4, h5, h6, h7, h8, h9⟩ := h
  have := h9 rfl
  omega
theorem Inv.stop {d : Nat} {lo hi : Int} (_ : Inv d lo hi) (out : ByteArray) (hn : ¬ lo / 16777216 = hi / 16777216) : sh d lo hi out = (lo, hi, out) := by
  cases d with
  | zero => rfl
  | succ d => simp only [sh]; rw [if_neg hn]
theorem mid_lo {lo hi p : Int} (h : lo ≤ hi) (hp : 0 ≤ p) : lo ≤ mid lo hi p := by
  unfold mid
  have h1 : 0 ≤ (hi - lo) / 4096 * p := Int.mul_nonneg (by omega) hp
  have h2 : 0 ≤ (hi - lo) % 4096 * p := Int.mul_nonneg (by omega) hp
  omega
theorem mid_hi {lo hi p : Int} (h : lo < hi) (hp : 0 ≤ p) (hp2 : p ≤ 4095) : mid lo hi p < hi := by
  unfold mid
  have h1 : (hi - lo) / 4096 * p ≤ (hi - lo) / 4096 * 4095 := Int.mul_le_mul_of_nonneg_left hp2 (by omega)
  have h2 : (hi - lo) % 4096 * p ≤ (hi - lo) % 4096 * 4095 := Int.mul_le_mul_of_nonneg_left hp2 (by omega)
  have h3 : 0 ≤ (hi - lo) % 4096 * p := Int.mul_nonneg (by omega) hp
  omega
theorem mid_parts {lo hi p : Int} (h0 : 0 ≤ lo) (h : lo < hi) (h2 : hi ≤ 4294967295) (hp : 0 ≤ p) (hp2 : p ≤ 4095) :
    0 ≤ (hi - lo) / 4096 * p ∧ (hi - lo) / 4096 * p ≤ 4294967295 ∧ 0 ≤ (hi - lo) % 4096 * p ∧ (hi - lo) % 4096 * p ≤ 16777216 := by
  have h1 : (hi - lo) / 4096 * p ≤ (hi - lo) / 4096 * 4095 := Int.mul_le_mul_of_nonneg_left hp2 (by omega)
  have h2' : (hi - lo) % 4096 * p ≤ (hi - lo) % 4096 * 4095 := Int.mul_le_mul_of_nonneg_left hp2 (by omega)
  exact ⟨Int.mul_nonneg (by omega) hp, by omega, Int.mul_nonneg (by omega) hp, by omega⟩
end Cd
end Go.Proofs.Ytpahbnahfhailaa
