/- The law Decoders: at every decoder, text and chance both programs answer the same. -/
import Derived.Test.YtbhmpmhjklkghaaRDecodersx
import Derived.Test.YtbhmpmhjklkghaaLem
namespace Go.Proofs.Ytbhmpmhjklkghaa
open Go.RowKit Go.Proofs.YtbhmpmhjklkghaaW.PrintWords Go.Proofs.YtbhmpmhjklkghaaW.PrintLast Go.Proofs.YtbhmpmhjklkghaaW.PrintMore Go.Proofs.Ytbhmpmhjklkghaa.CBase Go.Proofs.Ytbhmpmhjklkghaa.RDecoders
theorem decoders_pure (lo hi now : Int) (t : ByteArray) (a : Int) (s : ByteArray) (p : Int) : descantlaw5_Decoders.f 5 lo hi now t a s p = some true := by
  unfold descantlaw5_Decoders.f decoder_Bit.f descantref1_DecodeBit.f
  rw [new_some, rnew_some, dmay_some, rmay_some]
  generalize Dd.bit lo hi now t a p = x
  generalize Dd.new s = y
  obtain ⟨x1, x2, x3, x4, x5, x6, x7⟩ := x
  obtain ⟨y1, y2, y3, y4, y5, y6⟩ := y
  simp [descantlaw0_Num.f, descantlaw5_awake.f]
theorem decoders_walk (lo hi now : Int) (t : ByteArray) (a : Int) (s : ByteArray) (p : Int) (w : World) (_ : s.size ≤ 140737488351232) (_ : (Lit.int .i64 p).wf = true) :
    Calls Try.prog 3 #[.agg #[.int .i64 lo, .int .i64 hi, .int .i64 now, .string t, .int .i64 a], .string s, .int .i64 p] w fun e w' => e = .returned (.bool true) ∧ Below w.heap.size w w' := by
  refine (descantlaw5_Decoders.calls 5 lo hi now t a s p true w rfl (decoders_pure lo hi now t a s p)).mono ?_
  rintro e w' ⟨rfl, hd⟩
  exact ⟨rfl, hd⟩
end Go.Proofs.Ytbhmpmhjklkghaa
