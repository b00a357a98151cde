/- What is needed of the coder's contracts by all of its laws. -/
import Derived.Test.YtpahbnahfhailaaAwake
namespace Go.Proofs.Ytpahbnahfhailaa
open Go.RowKit Go.Proofs.YtpahbnahfhailaaW.PrintWords Go.Proofs.YtpahbnahfhailaaW.PrintLast Go.Proofs.YtpahbnahfhailaaW.PrintMore Go.Proofs.Ytpahbnahfhailaa.CBase

theorem w64e {x y : Int} (h : x = y) (h0 : -9223372036854775808 ≤ y) (h1 : y ≤ 9223372036854775807) : wrap64 x = y := by
  rw [h]
  unfold wrap64
  omega
theorem four_size (lo : Int) : (strOfNums (Cd.four lo)).size = 4 := by rw [strOfNums_size]; rfl
theorem may_bounds {lo hi : Int} {out : ByteArray} (h : Cd.may lo hi out = true) : 0 ≤ lo ∧ hi ≤ 4294967295 ∧ lo / 16777216 < hi / 16777216 ∧ out.size ≤ 65536 := of_decide_eq_true h
theorem end_some (lo hi : Int) (out : ByteArray) : coder_End.f lo hi out = some (Cd.end_ lo hi out) := by
  unfold coder_End.f Cd.end_
  rw [may_some]
  cases h : Cd.may lo hi out with
  | true =>
    have hb := may_bounds h
    have hz := four_size lo
    have hc : out.size + (strOfNums (Cd.four lo)).size ≤ 9223372036854775807 := by omega
    unfold Cd.four at hc ⊢
    simp only [Option.bind_some, if_true]
    rw [if_pos hc]
  | false => simp
theorem app_prefix (a t : ByteArray) : (a ++ t).extract 0 a.size = a := by
  apply ByteArray.ext
  apply Array.ext'
  rw [ByteArray.data_extract, ByteArray.data_append, Array.toList_extract, List.extract_eq_take_drop, Array.toList_append, List.drop_zero, Nat.sub_zero]
  exact List.take_left' (by rw [Array.length_toList]; rfl)
/-- What is known of the ends behind the turns, and of what has gone out. -/
theorem sh_props (d : Nat) : ∀ (a c : Int) (out : ByteArray), Cd.Inv d a c → a ≤ c →
    0 ≤ (Cd.sh d a c out).1 ∧ (Cd.sh d a c out).2.1 ≤ 4294967295 ∧ (Cd.sh d a c out).1 / 16777216 < (Cd.sh d a c out).2.1 / 16777216 ∧ ∃ t : ByteArray, (Cd.sh d a c out).2.2 = out ++ t ∧ t.size ≤ d := by
  induction d with
  | zero =>
    intro a c out hI hac
    have hz := hI.zero
    obtain ⟨h1, h2, h3, h4, h5, -⟩ := hI
    refine ⟨h2, h5, ?_, ⟨#[]⟩, ?_, Nat.le_refl _⟩
    · show a / 16777216 < c / 16777216
      omega
    · apply ByteArray.ext
      simp [Cd.sh]
  | succ d ih =>
    intro a c out hI hac
    by_cases hg : a / 16777216 = c / 16777216
    · have hn := hI.next hg
      have hr : Cd.sh (d + 1) a c out = Cd.sh d (a * 256 % 4294967296) (c * 256 % 4294967296 + 255) (out ++ strOfNums [a / 16777216 % 256]) := by
        simp only [Cd.sh]
        rw [if_pos hg]
      obtain ⟨h1, h2, h3, h4, h5, -⟩ := hI
      obtain ⟨q1, q2, q3, t, q4, q5⟩ := ih _ _ (out ++ strOfNums [a / 16777216 % 256]) hn (by omega)
      rw [hr]
      refine ⟨q1, q2, q3, strOfNums [a / 16777216 % 256] ++ t, ?_, ?_⟩
      · rw [q4, ByteArray.append_assoc]
      · rw [ByteArray.size_append, strOfNums_size]
        simp only [List.length_singleton]
        omega
    · rw [hI.stop out hg]
      obtain ⟨h1, h2, h3, h4, h5, -⟩ := hI
      refine ⟨h2, h5, ?_, ⟨#[]⟩, ?_, by simp [ByteArray.size]⟩
      · show a / 16777216 < c / 16777216
        omega
      · apply ByteArray.ext
        simp
/-- A bit of a coder that may be: its answer. -/
theorem bit_props (lo hi : Int) (out : ByteArray) (b p : Int) (hm : Cd.may lo hi out = true) (hb : b = 0 ∨ b = 1) (hp : 1 ≤ p) (hp2 : p ≤ 4095) (hs : out.size + 4 ≤ 65536) :
    ∃ lo' hi' t, Cd.bit lo hi out b p = (lo', hi', out ++ t, 0) ∧ t.size ≤ 4 ∧ Cd.may lo' hi' (out ++ t) = true := by
  obtain ⟨h1, h2, h3, h4⟩ := may_bounds hm
  have hlo := Cd.mid_lo (show lo ≤ hi by omega) (show 0 ≤ p by omega)
  have hhi := Cd.mid_hi (show lo < hi by omega) (show 0 ≤ p by omega) hp2
  unfold Cd.bit
  rw [if_pos ⟨hm, hb, decide_eq_true ⟨hp, hp2⟩⟩]
  rcases hb with rfl | rfl
  · rw [if_neg (by decide)]
    obtain ⟨q1, q2, q3, t, q4, q5⟩ := sh_props 4 (Cd.mid lo hi p + 1) hi out (Cd.Inv.start (by omega) (by omega) (by omega) (by omega)) (by omega)
    refine ⟨(Cd.sh 4 (Cd.mid lo hi p + 1) hi out).1, (Cd.sh 4 (Cd.mid lo hi p + 1) hi out).2.1, t, ?_, q5, ?_⟩
    · unfold Cd.fin
      rw [q4, if_pos (by rw [ByteArray.size_append]; omega)]
    · exact decide_eq_true ⟨q1, q2, q3, by rw [ByteArray.size_append]; omega⟩
  · rw [if_pos rfl]
    obtain ⟨q1, q2, q3, t, q4, q5⟩ := sh_props 4 lo (Cd.mid lo hi p) out (Cd.Inv.start (by omega) (by omega) (by omega) (by omega)) (by omega)
    refine ⟨(Cd.sh 4 lo (Cd.mid lo hi p) out).1, (Cd.sh 4 lo (Cd.mid lo hi p) out).2.1, t, ?_, q5, ?_⟩
    · unfold Cd.fin
      rw [q4, if_pos (by rw [ByteArray.size_append]; omega)]
    · exact decide_eq_true ⟨q1, q2, q3, by rw [ByteArray.size_append]; omega⟩
theorem end_yes {lo hi : Int} {out : ByteArray} (h : Cd.may lo hi out = true) : coder_End.f lo hi out = some (out ++ strOfNums (Cd.four lo), 0) := by
  rw [end_some]
  unfold Cd.end_
  rw [if_pos h]
theorem end_no {lo hi : Int} {out : ByteArray} (h : Cd.may lo hi out = false) : coder_End.f lo hi out = some (⟨#[]⟩, 400) := by
  rw [end_some]
  unfold Cd.end_
  rw [if_neg (by rw [h]; decide)]
theorem awake_ok : descantlaw4_awake.f = some true := rfl
end Go.Proofs.Ytpahbnahfhailaa
