/- The sum of any text is the document's. -/
import Derived.Test.YtdojomdnnmaoeaaQCrcsx
import Derived.Laws.BitsAllLaws
namespace Go.Proofs.Ytdojomdnnmaoeaa.Pure
open Go.RowKit Go.Proofs.Ytdojomdnnmaoeaa.QCrcs Go.Proofs.YtdojomdnnmaoeaaW.PrintWords Go.Proofs.YtdojomdnnmaoeaaW.PrintLast Go.Proofs.YtdojomdnnmaoeaaW.PrintMore

theorem awake_ok : descantlaw3_awake.f = some true := by decide +kernel
theorem sum_ok (s : ByteArray) (h : s.size ≤ 281474976710656) : crc_Sum.f s = some (Crc.sum s.data.toList : Int) := crc_Sum.some_ s (by omega)

/-- YOURS -/
theorem Crcs : descantlaw3_Crcs.Pure := by
  intro a h
  unfold descantlaw3_Crcs.f
  rw [sum_ok a (by omega), descantref1_Crc.some_ a (by omega), awake_ok]
  simp [descantlaw0_Num.f]

end Go.Proofs.Ytdojomdnnmaoeaa.Pure
