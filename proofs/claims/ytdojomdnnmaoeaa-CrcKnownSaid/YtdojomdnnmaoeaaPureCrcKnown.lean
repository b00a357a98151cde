/- Sums that are known. -/
import Derived.Test.YtdojomdnnmaoeaaQCrcKnownx
import Derived.Laws.BitsAllLaws
namespace Go.Proofs.Ytdojomdnnmaoeaa.Pure
open Go.RowKit Go.Proofs.Ytdojomdnnmaoeaa.QCrcKnown Go.Proofs.YtdojomdnnmaoeaaW.PrintWords Go.Proofs.YtdojomdnnmaoeaaW.PrintLast Go.Proofs.YtdojomdnnmaoeaaW.PrintMore

theorem awake_ok : descantlaw3_awake.f = some true := by decide +kernel
theorem sum_ok (s : ByteArray) (h : s.size ≤ 281474976710656) : crc_Sum.f s = some (Crc.sum s.data.toList : Int) := crc_Sum.some_ s (by omega)

def texts : List ByteArray := [(⟨#[97]⟩ : ByteArray), (⟨#[97, 98, 99]⟩ : ByteArray), (⟨#[0, 0, 0, 0]⟩ : ByteArray), (⟨#[255, 255, 255, 255]⟩ : ByteArray), (⟨#[84, 104, 101, 32, 113, 117, 105, 99, 107, 32, 98, 114, 111, 119, 110, 32, 102, 111, 120, 32, 106, 117, 109, 112, 115, 32, 111, 118, 101, 114, 32, 116, 104, 101, 32, 108, 97, 122, 121, 32, 100, 111, 103]⟩ : ByteArray)]
def wants : List Int := [3904355907, 891568578, 558161692, 4294967295, 1095738169]
theorem known (i : Nat) (h : i < 5) : crc_Sum.f (rdOf ByteArray.empty texts (i : Int)) = some (rd wants (i : Int)) := by
  rcases (show i = 0 ∨ i = 1 ∨ i = 2 ∨ i = 3 ∨ i = 4 by omega) with rfl | rfl | rfl | rfl | rfl <;> decide +kernel
theorem place (a : Int) : ∃ i : Nat, i < 5 ∧ wrap64 (Int.tmod (IntKind.u64.wrap a) 5) = (i : Int) := by
  refine ⟨(a % 18446744073709551616 % 5).toNat, by omega, ?_⟩
  have e1 : IntKind.u64.wrap a = a % 18446744073709551616 := by simp [IntKind.wrap, IntKind.bits, IntKind.signed]
  rw [e1, Int.tmod_eq_emod_of_nonneg (by omega)]
  unfold wrap64
  omega
/-- YOURS -/
theorem CrcKnown : descantlaw3_CrcKnown.Pure := by
  intro a _
  obtain ⟨i, hi, e⟩ := place a
  unfold descantlaw3_CrcKnown.f
  rw [awake_ok, Option.bind_some, if_pos rfl, e]
  simp only [descantlaw0_Num.f, Option.bind_some, if_true]
  have hk := known i hi
  unfold texts wants at hk
  rw [if_pos (by omega), if_pos (by simp only [List.length_cons, List.length_nil]; omega), hk, Option.bind_some, if_pos (by simp only [List.length_cons, List.length_nil]; omega)]
  simp

end Go.Proofs.Ytdojomdnnmaoeaa.Pure
