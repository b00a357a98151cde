/- Texts of one sum go on alike. -/
import Derived.Test.YtdojomdnnmaoeaaQCrcLongerx
import Derived.Laws.BitsAllLaws
namespace Go.Proofs.Ytdojomdnnmaoeaa.Pure
open Go.RowKit Go.Proofs.Ytdojomdnnmaoeaa.QCrcLonger Go.Proofs.YtdojomdnnmaoeaaW.PrintWords Go.Proofs.YtdojomdnnmaoeaaW.PrintLast Go.Proofs.YtdojomdnnmaoeaaW.PrintMore

theorem awake_ok : descantlaw3_awake.f = some true := by decide +kernel
theorem sum_ok (s : ByteArray) (h : s.size ≤ 281474976710656) : crc_Sum.f s = some (Crc.sum s.data.toList : Int) := crc_Sum.some_ s (by omega)

/-- YOURS -/
theorem CrcLonger : descantlaw3_CrcLonger.Pure := by
  intro s t m hs ht hm
  have es : (s ++ m).size = s.size + m.size := ByteArray.size_append
  have et : (t ++ m).size = t.size + m.size := ByteArray.size_append
  have ds : (s ++ m).data.toList = s.data.toList ++ m.data.toList := by simp
  have dt : (t ++ m).data.toList = t.data.toList ++ m.data.toList := by simp
  unfold descantlaw3_CrcLonger.f
  rw [awake_ok, Option.bind_some, if_pos rfl, sum_ok s (by omega), sum_ok t (by omega)]
  simp only [descantlaw0_Num.f, Option.bind_some, if_true]
  rw [if_pos (by omega), sum_ok (s ++ m) (by omega), Option.bind_some, if_pos (by omega), sum_ok (t ++ m) (by omega), Option.bind_some, ds, dt]
  have h := Crc.sum_append_iff s.data.toList t.data.toList m.data.toList
  congr 1
  by_cases e : Crc.sum s.data.toList = Crc.sum t.data.toList
  · rw [e, h.1 e]
    simp
  · have e2 : ¬ Crc.sum (s.data.toList ++ m.data.toList) = Crc.sum (t.data.toList ++ m.data.toList) := fun x => e (h.2 x)
    have n1 : ((Crc.sum s.data.toList : Int) == (Crc.sum t.data.toList : Int)) = false := by rw [beq_eq_false_iff_ne]; omega
    have n2 : ((Crc.sum (s.data.toList ++ m.data.toList) : Int) == (Crc.sum (t.data.toList ++ m.data.toList) : Int)) = false := by rw [beq_eq_false_iff_ne]; omega
    rw [n1, n2]
    rfl

end Go.Proofs.Ytdojomdnnmaoeaa.Pure
