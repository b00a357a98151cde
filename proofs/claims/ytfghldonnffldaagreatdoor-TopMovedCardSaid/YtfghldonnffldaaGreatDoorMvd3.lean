/- Walks of the program's functions, and the laws of what they compute, for TopMoved: one file of several. -/
import Derived.Shelf.Strings.Builder1
import Derived.Shelf.Strings.Builder2
import Derived.Shelf.Strings.OnBuilder
import Derived.Shelf.Small.Bits
import Derived.Shelf.Strings.BuilderF
import Derived.Shelf.Strings.BuilderK
import Derived.Shelf.Strings.Builder2Cap
import Derived.Shelf.Strconv.Itoa0
import Derived.Shelf.Strings.Prefix
import Derived.Shelf.Bits.Mul64
import Derived.Shelf.Strings.Repeat
import Derived.Shelf.Strings.BuilderCap
import Derived.Shelf.Slices.Equal
import Derived.Ground.Names2Prog
import Derived.Shelf.Slices.Clone
import Derived.Shelf.Slices.Empties2
import Derived.Test.YtfghldonnffldaaGreatDoorProg
import Derived.Below
import Derived.Deep.Draws
import Derived.Deep.AppendLies
import Derived.Maps.AppendAt
import Derived.OwnWalk
import Derived.Laws.BytesArg
import Derived.Laws.MakeOwn
import Derived.Laws.OwnMore
import Derived.Deep.OwnRows
import Derived.Tactics
import Derived.Lib.ConvBytes
import Derived.Laws.Slices
import Derived.WalkKit
import Derived.KernelRfl
import Derived.RowKit3
import Derived.Deep.LoopGhost
import Derived.Deep.QuietTactic
import Derived.BigQuiet
import Derived.WideLaws
import Derived.Deep.DeepCutAuto
import Derived.Deep.CutBlock
import Derived.Deep.RegionHeld3
import Derived.Laws.Rows
import Derived.Lib.AppendStr
import Derived.ArgAppend
import Derived.Laws.IdiomCopy
import Derived.OrdersHeld
import Derived.Laws.BitsLemmas
import Derived.RowKit
import Derived.Test.YtfghldonnffldaaGreatDoorMvd2
set_option linter.unusedVariables false
set_option linter.unusedSimpArgs false
set_option maxRecDepth 100000
set_option maxHeartbeats 8000000
namespace Go.Proofs
open Go.Shelf
def Tryz.lays169_ren:Go.Shelf.Ren:=⟨fun|169=>34|n=>n,fun|70=>64|9=>9|0=>0|72=>66|37=>27|127=>128|3=>3|5=>5|n=>n,fun|n=>n⟩
theorem Tryz.lays169:Go.Proofs.Lays.n169 Tryz.prog Tryz.lays169_ren:= {
  mixed:=by kernel_rfl
  f169:=Tryz.func34.trans (congrArg some (by kernel_rfl))
  t0:=Tryz.underlying0
  a0:=Tryz.isAgg0
  z0:=Tryz.sizeOf0
  v0:=Tryz.zeroValue0
  t3:=Tryz.underlying3
  a3:=Tryz.isAgg3
  z3:=Tryz.sizeOf3
  v3:=Tryz.zeroValue3
  t9:=Tryz.underlying9
  a9:=Tryz.isAgg9
  z9:=Tryz.sizeOf9
  v9:=Tryz.zeroValue9
  t37:=Tryz.underlying27
  a37:=Tryz.isAgg27
  z37:=Tryz.sizeOf27
  v37:=Tryz.zeroValue27
  t70:=Tryz.underlying64
  a70:=Tryz.isAgg64
  z70:=Tryz.sizeOf64
  v70:=Tryz.zeroValue64
  t72:=Tryz.underlying66
  a72:=Tryz.isAgg66
  z72:=Tryz.sizeOf66
  v72:=Tryz.zeroValue66
  t127:=Tryz.underlying128
  a127:=Tryz.isAgg128
  z127:=Tryz.sizeOf128
  v127:=Tryz.zeroValue128 }
theorem Tryz.Builder_Extra_169:Builder.Extra Tryz.prog Tryz.lays169_ren:= {
  sizeBuilder:=by kernel_rfl
  liesBuilder:=by kernel_rfl
  t5:=Tryz.underlying5
  a5:=Tryz.isAgg5
  z5:=Tryz.sizeOf5
  v5:=Tryz.zeroValue5
  infoByte:=by kernel_rfl
  cellsByte:=by kernel_rfl
  sizeByte:=by kernel_rfl
  neB5:=by decide }
def Tryz.lays156_ren:Go.Shelf.Ren:=⟨fun|156=>57|165=>87|166=>32|169=>34|240=>67|241=>118|276=>98|277=>143|n=>n,fun|31=>47|9=>9|3=>3|4=>4|0=>0|20=>20|72=>66|76=>71|70=>64|37=>27|75=>70|127=>128|164=>163|5=>5|80=>74|n=>n,fun|n=>n⟩
theorem Tryz.lays156:Go.Proofs.Lays.n156 Tryz.prog Tryz.lays156_ren:= {
  mixed:=by kernel_rfl
  f156:=Tryz.func57.trans (congrArg some (by kernel_rfl))
  f165:=Tryz.func87.trans (congrArg some (by kernel_rfl))
  f166:=Tryz.func32.trans (congrArg some (by kernel_rfl))
  f169:=Tryz.func34.trans (congrArg some (by kernel_rfl))
  f240:=Tryz.func67.trans (congrArg some (by kernel_rfl))
  f241:=Tryz.func118.trans (congrArg some (by kernel_rfl))
  f276:=Tryz.func98.trans (congrArg some (by kernel_rfl))
  f277:=Tryz.func143.trans (congrArg some (by kernel_rfl))
  t0:=Tryz.underlying0
  a0:=Tryz.isAgg0
  z0:=Tryz.sizeOf0
  v0:=Tryz.zeroValue0
  t3:=Tryz.underlying3
  a3:=Tryz.isAgg3
  z3:=Tryz.sizeOf3
  v3:=Tryz.zeroValue3
  t4:=Tryz.underlying4
  a4:=Tryz.isAgg4
  z4:=Tryz.sizeOf4
  v4:=Tryz.zeroValue4
  t9:=Tryz.underlying9
  a9:=Tryz.isAgg9
  z9:=Tryz.sizeOf9
  v9:=Tryz.zeroValue9
  t20:=Tryz.underlying20
  a20:=Tryz.isAgg20
  z20:=Tryz.sizeOf20
  v20:=Tryz.zeroValue20
  t31:=Tryz.underlying47
  a31:=Tryz.isAgg47
  z31:=Tryz.sizeOf47
  v31:=Tryz.zeroValue47
  t37:=Tryz.underlying27
  a37:=Tryz.isAgg27
  z37:=Tryz.sizeOf27
  v37:=Tryz.zeroValue27
  t70:=Tryz.underlying64
  a70:=Tryz.isAgg64
  z70:=Tryz.sizeOf64
  v70:=Tryz.zeroValue64
  t72:=Tryz.underlying66
  a72:=Tryz.isAgg66
  z72:=Tryz.sizeOf66
  v72:=Tryz.zeroValue66
  t75:=Tryz.underlying70
  a75:=Tryz.isAgg70
  z75:=Tryz.sizeOf70
  v75:=Tryz.zeroValue70
  t76:=Tryz.underlying71
  a76:=Tryz.isAgg71
  z76:=Tryz.sizeOf71
  v76:=Tryz.zeroValue71
  t127:=Tryz.underlying128
  a127:=Tryz.isAgg128
  z127:=Tryz.sizeOf128
  v127:=Tryz.zeroValue128
  t164:=Tryz.underlying163
  a164:=Tryz.isAgg163
  z164:=Tryz.sizeOf163
  v164:=Tryz.zeroValue163 }
theorem Tryz.Builder_Extra_156:Builder.Extra Tryz.prog Tryz.lays156_ren:= {
  sizeBuilder:=by kernel_rfl
  liesBuilder:=by kernel_rfl
  t5:=Tryz.underlying5
  a5:=Tryz.isAgg5
  z5:=Tryz.sizeOf5
  v5:=Tryz.zeroValue5
  infoByte:=by kernel_rfl
  cellsByte:=by kernel_rfl
  sizeByte:=by kernel_rfl
  neB5:=by decide }
open Go.RowKit in
theorem Tryz.strings_Join_none(a:Option Addr)(c:Nat)(sep:ByteArray)(w:World):
    Calls Tryz.prog 57 #[.slice a 0 c,.string sep] w fun e w'=>e= .returned (.string ⟨#[]⟩)∧w'=w:=Any.strings_Join_none Tryz.lays156 Tryz.Builder_Extra_156 a c sep w
open Go.RowKit in
theorem Tryz.strings_Join(bk o c:Nat)(xs:List ByteArray)(sep:ByteArray)(w:World)(hcells:∀(j:Nat) x,xs[j]?=some x→w.cell? ⟨bk,o+j,none⟩=some (.string x))(hbk:bk<w.heap.size)(hN:xs.length≤140737488355328)(hcap:xs.length≤c)(hlen:(Lib.join (xs.map (·.data.toList)) sep.data.toList).length≤140737488355328):
    Calls Tryz.prog 57 #[.slice (some ⟨bk,o,none⟩) xs.length c,.string sep] w fun e w'=>e= .returned (.string ⟨(Lib.join (xs.map (·.data.toList)) sep.data.toList).toArray⟩)∧Below w.heap.size w w':=Any.strings_Join Tryz.lays156 Tryz.Builder_Extra_156 bk o c xs sep w hcells hbk hN hcap hlen
def Tryz.lays125_ren:Go.Shelf.Ren:=⟨fun|125=>105|128=>130|129=>131|n=>n,fun|46=>26|3=>3|51=>146|53=>191|4=>4|5=>5|9=>9|n=>n,fun|n=>n⟩
theorem Tryz.lays125:Go.Proofs.Lays.n125 Tryz.prog Tryz.lays125_ren:= {
  mixed:=by kernel_rfl
  f125:=Tryz.func105.trans (congrArg some (by kernel_rfl))
  f128:=Tryz.func130.trans (congrArg some (by kernel_rfl))
  f129:=Tryz.func131.trans (congrArg some (by kernel_rfl))
  t3:=Tryz.underlying3
  a3:=Tryz.isAgg3
  z3:=Tryz.sizeOf3
  v3:=Tryz.zeroValue3
  t4:=Tryz.underlying4
  a4:=Tryz.isAgg4
  z4:=Tryz.sizeOf4
  v4:=Tryz.zeroValue4
  t5:=Tryz.underlying5
  a5:=Tryz.isAgg5
  z5:=Tryz.sizeOf5
  v5:=Tryz.zeroValue5
  t9:=Tryz.underlying9
  a9:=Tryz.isAgg9
  z9:=Tryz.sizeOf9
  v9:=Tryz.zeroValue9
  t46:=Tryz.underlying26
  a46:=Tryz.isAgg26
  z46:=Tryz.sizeOf26
  v46:=Tryz.zeroValue26
  t51:=Tryz.underlying146
  a51:=Tryz.isAgg146
  z51:=Tryz.sizeOf146
  v51:=Tryz.zeroValue146
  t53:=Tryz.underlying191
  a53:=Tryz.isAgg191
  z53:=Tryz.sizeOf191
  v53:=Tryz.zeroValue191 }
theorem Tryz.bits_Len(x:Int)(w:World)(h0:0≤x)(h1:x≤18446744073709551615):
    Calls Tryz.prog 105 #[.int .u64 x] w fun e w'=>e= .returned (.int .i64 (Lib.bitLen x.toNat))∧w'=w:=Any.bits_Len Tryz.lays125 x w h0 h1
open Go.RowKit in
theorem Tryz.Builder_String_any_f(B b:Nat)(l:List UInt8)(w:World)(h:Lib.IsBuilderF 66 5 B b (Lib.byteCells l) w)(hBw:B≤w.heap.size):
    Calls Tryz.prog 34 #[.pointer (some ⟨b,0,none⟩)] w fun e w'=>e= .returned (.string ⟨l.toArray⟩)∧(Lib.IsBuilderF 66 5 B b (Lib.byteCells l) w'∧Below B w w'):=Any.Builder_String_any_f Tryz.lays169 Tryz.Builder_Extra_169 B b l w h hBw
def Tryz.lays212_ren:Go.Shelf.Ren:=⟨fun|212=>112|263=>139|264=>140|n=>n,fun|46=>26|51=>146|146=>198|53=>191|148=>200|n=>n,fun|n=>n⟩
theorem Tryz.lays212:Go.Proofs.Lays.n212 Tryz.prog Tryz.lays212_ren:= {
  mixed:=by kernel_rfl
  f212:=Tryz.func112.trans (congrArg some (by kernel_rfl))
  f263:=Tryz.func139.trans (congrArg some (by kernel_rfl))
  f264:=Tryz.func140.trans (congrArg some (by kernel_rfl))
  t46:=Tryz.underlying26
  a46:=Tryz.isAgg26
  z46:=Tryz.sizeOf26
  v46:=Tryz.zeroValue26
  t51:=Tryz.underlying146
  a51:=Tryz.isAgg146
  z51:=Tryz.sizeOf146
  v51:=Tryz.zeroValue146
  t53:=Tryz.underlying191
  a53:=Tryz.isAgg191
  z53:=Tryz.sizeOf191
  v53:=Tryz.zeroValue191
  t146:=Tryz.underlying198
  a146:=Tryz.isAgg198
  z146:=Tryz.sizeOf198
  v146:=Tryz.zeroValue198
  t148:=Tryz.underlying200
  a148:=Tryz.isAgg200
  z148:=Tryz.sizeOf200
  v148:=Tryz.zeroValue200 }
open Go.RowKit Go.Lib in
theorem Tryz.bits_Mul(x y:Nat)(hx:x<18446744073709551616)(hy:y<18446744073709551616)(w:World):
    Calls Tryz.prog 112 #[.int .u64 x,.int .u64 y] w fun e w'=>e= .returned (.tuple #[.int .u64 ((x*y / 18446744073709551616:Nat):Int),.int .u64 ((x*y%18446744073709551616:Nat):Int)])∧w'=w:=Any.bits_Mul Tryz.lays212 x y hx hy w
def Tryz.lays105_ren:Go.Shelf.Ren:=⟨fun|105=>81|212=>112|99=>88|165=>87|166=>32|170=>113|169=>34|263=>139|264=>140|206=>119|240=>67|241=>118|276=>98|277=>143|n=>n,fun|9=>9|3=>3|4=>4|20=>20|0=>0|46=>26|109=>180|5=>5|72=>66|76=>71|51=>146|146=>198|53=>191|148=>200|70=>64|37=>27|75=>70|127=>128|164=>163|80=>74|n=>n,fun|n=>n⟩
theorem Tryz.lays105:Go.Proofs.Lays.n105 Tryz.prog Tryz.lays105_ren:= {
  mixed:=by kernel_rfl
  f99:=Tryz.func88.trans (congrArg some (by kernel_rfl))
  f105:=Tryz.func81.trans (congrArg some (by kernel_rfl))
  f165:=Tryz.func87.trans (congrArg some (by kernel_rfl))
  f166:=Tryz.func32.trans (congrArg some (by kernel_rfl))
  f169:=Tryz.func34.trans (congrArg some (by kernel_rfl))
  f170:=Tryz.func113.trans (congrArg some (by kernel_rfl))
  f206:=Tryz.func119.trans (congrArg some (by kernel_rfl))
  f212:=Tryz.func112.trans (congrArg some (by kernel_rfl))
  f240:=Tryz.func67.trans (congrArg some (by kernel_rfl))
  f241:=Tryz.func118.trans (congrArg some (by kernel_rfl))
  f263:=Tryz.func139.trans (congrArg some (by kernel_rfl))
  f264:=Tryz.func140.trans (congrArg some (by kernel_rfl))
  f276:=Tryz.func98.trans (congrArg some (by kernel_rfl))
  f277:=Tryz.func143.trans (congrArg some (by kernel_rfl))
  t0:=Tryz.underlying0
  a0:=Tryz.isAgg0
  z0:=Tryz.sizeOf0
  v0:=Tryz.zeroValue0
  t3:=Tryz.underlying3
  a3:=Tryz.isAgg3
  z3:=Tryz.sizeOf3
  v3:=Tryz.zeroValue3
  t4:=Tryz.underlying4
  a4:=Tryz.isAgg4
  z4:=Tryz.sizeOf4
  v4:=Tryz.zeroValue4
  t5:=Tryz.underlying5
  a5:=Tryz.isAgg5
  z5:=Tryz.sizeOf5
  v5:=Tryz.zeroValue5
  t9:=Tryz.underlying9
  a9:=Tryz.isAgg9
  z9:=Tryz.sizeOf9
  v9:=Tryz.zeroValue9
  t20:=Tryz.underlying20
  a20:=Tryz.isAgg20
  z20:=Tryz.sizeOf20
  v20:=Tryz.zeroValue20
  t37:=Tryz.underlying27
  a37:=Tryz.isAgg27
  z37:=Tryz.sizeOf27
  v37:=Tryz.zeroValue27
  t46:=Tryz.underlying26
  a46:=Tryz.isAgg26
  z46:=Tryz.sizeOf26
  v46:=Tryz.zeroValue26
  t51:=Tryz.underlying146
  a51:=Tryz.isAgg146
  z51:=Tryz.sizeOf146
  v51:=Tryz.zeroValue146
  t53:=Tryz.underlying191
  a53:=Tryz.isAgg191
  z53:=Tryz.sizeOf191
  v53:=Tryz.zeroValue191
  t70:=Tryz.underlying64
  a70:=Tryz.isAgg64
  z70:=Tryz.sizeOf64
  v70:=Tryz.zeroValue64
  t72:=Tryz.underlying66
  a72:=Tryz.isAgg66
  z72:=Tryz.sizeOf66
  v72:=Tryz.zeroValue66
  t75:=Tryz.underlying70
  a75:=Tryz.isAgg70
  z75:=Tryz.sizeOf70
  v75:=Tryz.zeroValue70
  t76:=Tryz.underlying71
  a76:=Tryz.isAgg71
  z76:=Tryz.sizeOf71
  v76:=Tryz.zeroValue71
  t109:=Tryz.underlying180
  a109:=Tryz.isAgg180
  z109:=Tryz.sizeOf180
  v109:=Tryz.zeroValue180
  t127:=Tryz.underlying128
  a127:=Tryz.isAgg128
  z127:=Tryz.sizeOf128
  v127:=Tryz.zeroValue128
  t146:=Tryz.underlying198
  a146:=Tryz.isAgg198
  z146:=Tryz.sizeOf198
  v146:=Tryz.zeroValue198
  t148:=Tryz.underlying200
  a148:=Tryz.isAgg200
  z148:=Tryz.sizeOf200
  v148:=Tryz.zeroValue200
  t164:=Tryz.underlying163
  a164:=Tryz.isAgg163
  z164:=Tryz.sizeOf163
  v164:=Tryz.zeroValue163 }
theorem Tryz.Builder_Extra_105:Builder.Extra Tryz.prog Tryz.lays105_ren:= {
  sizeBuilder:=by kernel_rfl
  liesBuilder:=by kernel_rfl
  t5:=Tryz.underlying5
  a5:=Tryz.isAgg5
  z5:=Tryz.sizeOf5
  v5:=Tryz.zeroValue5
  infoByte:=by kernel_rfl
  cellsByte:=by kernel_rfl
  sizeByte:=by kernel_rfl
  neB5:=by decide }
open Go.RowKit Go.Lib in
theorem Tryz.strings_Repeat(s:ByteArray)(c:Nat)(w:World)(hc:c≤9223372036854775807)(hlen:s.size*c≤140737488355328):
    Calls Tryz.prog 81 #[.string s,.int .i64 c] w fun e w'=>e= .returned (.string ⟨(Lib.repeatL s.data.toList c).toArray⟩)∧Below w.heap.size w w':=Any.strings_Repeat Tryz.lays105 Tryz.Builder_Extra_105 s c w hc hlen
def Tryz.laysNm215_ren:Go.Shelf.Ren:=⟨fun|15=>69|n=>n,fun|22=>36|3=>3|4=>4|n=>n,fun|n=>n⟩
theorem Tryz.laysNm215:Go.Proofs.Lays2.n15 Tryz.prog Tryz.laysNm215_ren:= {
  mixed:=by kernel_rfl
  f15:=Tryz.func69.trans (congrArg some (by kernel_rfl))
  t3:=Tryz.underlying3
  a3:=Tryz.isAgg3
  z3:=Tryz.sizeOf3
  v3:=Tryz.zeroValue3
  t4:=Tryz.underlying4
  a4:=Tryz.isAgg4
  z4:=Tryz.sizeOf4
  v4:=Tryz.zeroValue4
  t22:=Tryz.underlying36
  a22:=Tryz.isAgg36
  z22:=Tryz.sizeOf36
  v22:=Tryz.zeroValue36
  i3:=by kernel_rfl }
open Go.RowKit Go.Lib in
theorem Tryz.slices_Clone_int(b off n c:Nat)(zs:List Int)(w:World)(hz:n≤zs.length)(hbig:n*8≤140737488355328)(hc:∀j,j<zs.length→w.cell? ⟨b,off+j,none⟩=some (.int .i64 (zs.getD j 0))):
    Calls Tryz.prog 69 #[.slice (some ⟨b,off,none⟩) n c] w fun e w'=>∃v',e= .returned v'∧w'.ownsRow w.heap.size 3 1 v' n ((zs.take n).map (Value.int .i64))∧v'≠ .slice none 0 0∧Below w.heap.size w w':=Any.slices_Clone_int Tryz.laysNm215 b off n c zs w hz hbig hc
open Go.RowKit Go.Lib in
theorem Tryz.slices_Clone_int_nil(n c:Nat)(w:World):
    Calls Tryz.prog 69 #[.slice none n c] w fun e w'=>e= .returned (.slice none 0 0)∧w'=w:=Any.slices_Clone_int_nil Tryz.laysNm215 n c w
open Go.RowKit Go.Lib in
theorem Tryz.slices_Clone_int_zero(a:Addr)(c:Nat)(w:World):
    Calls Tryz.prog 69 #[.slice (some a) 0 c] w fun e w'=>∃v',e= .returned v'∧w'.ownsRow w.heap.size 3 1 v' 0 []∧v'≠ .slice none 0 0∧Below w.heap.size w w':=Any.slices_Clone_int_zero Tryz.laysNm215 a c w
end Go.Proofs
namespace Go.Proofs.YtfghldonnffldaaGreatDoor
open Go.RowKit YtfghldonnffldaaGreatDoorW.PrintWords YtfghldonnffldaaGreatDoorW.PrintLast YtfghldonnffldaaGreatDoorW.PrintMore TBase
def slices_Clone_int_int.f(l0:List Int):Option (List Int):=if l0.length≤17592186044416 then some l0 else none
theorem spot_none{w:World}{a:Addr}{v:Value}(h:w.cell? a=some v):a=⟨a.block,a.off,none⟩:=by
 obtain⟨b,o,s⟩:=a
 cases s with
 |none=>rfl
 |some x=>
  unfold World.cell? at h
  split at h
  ·simp at h
  ·simp at h
theorem slices_Clone_int_int.calls(A0:Option Addr)(c0:Nat)(l0:List Int)(r:List Int)(w:World)(hr0:Kd.C (Kd.int .i64) w A0 l0.length l0)(hc0:l0.length≤c0)(h:slices_Clone_int_int.f l0=some r):
  Calls Tryz.prog 69 #[.slice A0 l0.length c0] w fun e w'=>∃eB:Value,e= .returned eB∧Kd.R (Kd.int .i64) 3 w' w.heap.size (fun _=>True) eB r∧Below w.heap.size w w':=by
 unfold slices_Clone_int_int.f at h
 by_cases hl:l0.length≤17592186044416
 ·rw[if_pos hl] at h;obtain rfl:=Option.some.inj h
  by_cases h0:l0= []
  ·subst h0
   cases A0 with
   |none=>
    refine(Tryz.slices_Clone_int_nil 0 c0 w).mono ?_;rintro e w' ⟨rfl,rfl⟩;exact⟨_,rfl,Kd.R_nil _ _ _ _ _,Below.refl _ _⟩
   |some a=>
    refine(Tryz.slices_Clone_int_zero a c0 w).mono ?_;rintro e w' ⟨v',rfl,ho,_,hb⟩;exact⟨_,rfl,Kd.R_of_own ho (fun _ _=>trivial),hb⟩
  ·have hp:0<l0.length:=List.length_pos_iff.mpr h0;obtain⟨ad,rfl,h1⟩:=Kd.at_int hr0 0 (by omega) (by omega);have h1':w.cell? ad=some (.int .i64 (rd l0 0)):=h1;obtain⟨b,o,s⟩:=ad;have e:=spot_none h1';obtain rfl:s=none:=by injection e
   have hc:∀j,j<l0.length→w.cell? ⟨b,o+j,none⟩=some (.int .i64 (l0.getD j 0)):=by
    intro j hj;obtain⟨ad,e2,h2⟩:=Kd.at_int hr0 (j:Int) (by omega) (by omega)
    cases e2
    rw[nC_] at h2;have h3:rd l0 (j:Int)=l0.getD j 0:=by unfold rd;rw[nC_]
    rw[h3] at h2
    cases j with
    |zero=>exact h2
    |succ j=>simpa [Addr.add] using h2
   refine(Tryz.slices_Clone_int b o l0.length c0 l0 w (Nat.le_refl _) (by omega) hc).mono ?_;rintro e w' ⟨v',rfl,ho,_,hb⟩;rw[List.take_length] at ho;exact⟨_,rfl,Kd.R_of_own ho (fun _ _=>trivial),hb⟩
 ·rw[if_neg hl] at h
  cases h
def bits_Len.f(x:Int):Option Int:=if 0≤x∧x≤18446744073709551615 then some (Lib.bitLen x.toNat:Int) else none
theorem bits_Len.calls(a0:Int)(r:Int)(w:World)(h:bits_Len.f a0=some r):
  Calls Tryz.prog 105 #[.int .u64 a0] w fun e w'=>e= .returned (.int .i64 r)∧Drawn0 w w':=by
 unfold bits_Len.f at h
 by_cases hx:0≤a0∧a0≤18446744073709551615
 ·rw[if_pos hx] at h;obtain rfl:=Option.some.inj h;refine(Tryz.bits_Len a0 w hx.1 hx.2).mono ?_;rintro e w' ⟨rfl,rfl⟩;exact⟨rfl,Drawn0.refl _⟩
 ·rw[if_neg hx] at h
  cases h
def strings_Repeat.f(s:ByteArray)(c:Int):Option ByteArray:=if 0≤c∧c≤9223372036854775807∧s.size*c.toNat≤140737488355328 then some ⟨(Lib.repeatL s.data.toList c.toNat).toArray⟩ else none
theorem strings_Repeat.calls(a0:ByteArray)(a1:Int)(r:ByteArray)(w:World)(h:strings_Repeat.f a0 a1=some r):
  Calls Tryz.prog 81 #[.string a0,.int .i64 a1] w fun e w'=>e= .returned (.string r)∧Below w.heap.size w w':=by
 unfold strings_Repeat.f at h
 by_cases hx:0≤a1∧a1≤9223372036854775807∧a0.size*a1.toNat≤140737488355328
 ·rw[if_pos hx] at h;obtain rfl:=Option.some.inj h;have e:a1=(a1.toNat:Int):=by omega
  have:=Tryz.strings_Repeat a0 a1.toNat w (by omega) hx.2.2;rw[←e] at this;exact this
 ·rw[if_neg hx] at h
  cases h
def rep.T9:Bool×List (List Nat×List Nat):=(true,[([],[]),([],[]),([],[]),([1,2],[1,2]),([],[]),([],[]),([4,5],[4,5]),([3,6],[3,6]),([0,7],[0,7]),([8,7,0,1,2,3,4,5,6,7,8],[0,2,5,8])])
def rep.B9:List Nat:= [0,0,0,6,0,0,48,126,255,511]
theorem rep.tab9:rtab .any (opsOf Tryz.f106 9)=rep.T9:=by kernel_rfl
theorem rep.bits9:waitsOk rep.T9.2 rep.B9=true:=by kernel_rfl
theorem list_copy_row{P:Program}{ops:Array Oper}{rest:List Oper}{o:Oper}{a:Act}{w:World}{Q:Exit→Act→World→Prop}(hgd:o.guard=none)(d s:Operand)(dT sT:TypeId)
  (ho:o.op= .call { callee:= .builtin .copy,args:= #[d,s],argTypes:= #[dT,sT] }) (elem:TypeId) (hu:P.underlying dT=some (.slice elem)) (hsz:(P.info? elem).map (·.size)=some 1)
  (g off dLen dCap:Nat) (ad:Addr) (sLen sCap:Nat) (hd:a.eval d= .slice (some ⟨g,off,none⟩) dLen dCap) (hs:a.eval s= .slice (some ad) sLen sCap)
  (cur:List Value) (t:TypeId) (hg:w.heap[g]?=some (.cells cur.toArray t (0,0))) (cs:List Value) (hn:cs.length=Nat.min sLen dLen)
  (hsrc:∀j v,cs[j]?=some v→w.cell? (ad.add j)=some v) (hfit:off+cs.length≤cur.length) (h1:∀v∈cs,v.oneCell'=true)
  (out:List Value) (hout:cur.take off++(cs++cur.drop (off+cs.length))=out)
  (h:wpList P ops Q rest (a.put o.dst (goInt cs.length)) (w.setRow g out.toArray)):wpList P ops Q (o::rest) a w:=by
 subst hout;have hrun:=run_copy_row (P:=P) w dT sT o.type elem g off dLen dCap ad sLen sCap cur.toArray t cs hu hsz hg hn hsrc (by simpa using hfit) h1;refine Kd.event_run hgd (v:=goInt cs.length) (w1:=w.setRow g (cur.take off++(cs++cur.drop (off+cs.length))).toArray) ?_ h;simp[execOp,ho,resolve,invoke,builtin,hd,hs,hrun,Result.andThen]
theorem blk_setRow{w:World}{g:Nat}{t:TypeId}{cs:Array Value}(h:w.heap[g]?=some (.cells cs t (0,0)))(new:Array Value):(w.setRow g new).heap[g]?=some (.cells new t (0,0)):=setRow_heap w g cs new t _ h
def part(x:Int)(k n:Nat):List Int:=List.replicate k x++List.replicate (n - k) 0
theorem part_len{x:Int}{k n:Nat}(h:k≤n):(part x k n).length=n:=by unfold part;rw[List.length_append,List.length_replicate,List.length_replicate];omega
theorem part_copy(x:Int){k n:Nat}(h:k≤n):(ints (part x k n)).take k++(ints (List.replicate (min k (n - k)) x)++(ints (part x k n)).drop (k+(ints (List.replicate (min k (n - k)) x)).length))=ints (part x (k+min k (n - k)) n):=by
 have e1:(part x k n).take k=List.replicate k x:=by unfold part;rw[List.take_append_of_le_length (by rw[List.length_replicate];exact Nat.le_refl _),List.take_of_length_le (by rw[List.length_replicate];exact Nat.le_refl _)]
 have e2:(part x k n).drop (k+min k (n - k))=List.replicate (n - (k+min k (n - k))) 0:=by
  unfold part;rw[List.drop_append,List.drop_of_length_le (by rw[List.length_replicate];omega),List.nil_append,List.length_replicate,List.drop_replicate]
  congr 1
  omega
 rw[ints_len,List.length_replicate];unfold ints;rw[←List.map_take,←List.map_drop,e1,e2,←List.map_append,←List.map_append,←List.append_assoc,List.replicate_append_replicate];rfl
theorem part_src{w:World}{g:Nat}{x:Int}{k n:Nat}(h:w.heap[g]?=some (.cells (ints (part x k n)).toArray 3 (0,0)))(hk:k≤n):∀j v,(ints (List.replicate (min k (n - k)) x))[j]?=some v→w.cell? ((⟨g,0,none⟩:Addr).add j)=some v:=by
 intro j v hv;rw[add_plain];unfold ints at hv;rw[List.getElem?_map] at hv;obtain⟨y,hy,rfl⟩:=Option.map_eq_some_iff.1 hv;have hj:=(List.getElem?_eq_some_iff.1 hy).1;rw[List.length_replicate] at hj;have hy2:y=x:=by rw[List.getElem?_replicate,if_pos hj] at hy;exact(Option.some.inj hy).symm
 subst hy2;rw[cell_of_row w g j _ 3 (0,0) h];unfold ints part;rw[List.getElem?_toArray,List.getElem?_map,List.getElem?_append_left (by rw[List.length_replicate];omega),List.getElem?_replicate,if_pos (by omega)];rfl
theorem part_zero(x:Int)(n:Nat):part x 0 n=List.replicate n 0:=by unfold part;simp
theorem part_all(x:Int)(n:Nat):part x n n=List.replicate n x:=by unfold part;simp
theorem made_ints(n:Nat):madeCells #[Value.int .i64 0] n=(ints (List.replicate n 0)).toArray:=by
 apply Array.ext
 ·simp[madeCells,ints]
 ·intro i h1 h2;have:i%1=0:=by omega
  simp[madeCells,ints,this]
theorem part_first(x:Int)(n:Nat):(ints (part x 0 n)).take 0++(ints (List.replicate (min 1 n) x)++(ints (part x 0 n)).drop (0+(ints (List.replicate (min 1 n) x)).length))=ints (part x (min 1 n) n):=by
 rw[List.take_zero,List.nil_append,Nat.zero_add,ints_len,List.length_replicate,part_zero];unfold part ints;rw[←List.map_drop,←List.map_append,List.drop_replicate]
theorem first_src{w w1:World}{g:Nat}{x:Int}{n:Nat}{ad:Addr}(_:w1.heap[g]?=some (.cells (ints (part x 0 n)).toArray 3 (0,0)))(hx:w.cell? ad=some (.int .i64 x))(hb:Below w.heap.size w w1)(n':Nat):∀j v,(ints (List.replicate (min 1 n') x))[j]?=some v→w1.cell? (ad.add j)=some v:=by
 intro j v hv;unfold ints at hv;rw[List.getElem?_map] at hv;obtain⟨y,hy,rfl⟩:=Option.map_eq_some_iff.1 hv;have hj:=(List.getElem?_eq_some_iff.1 hy).1;rw[List.length_replicate] at hj;have hy2:y=x:=by rw[List.getElem?_replicate,if_pos hj] at hy;exact(Option.some.inj hy).symm
 subst hy2;obtain rfl:j=0:=by omega
 exact pw_cell_below hb hx
def slices_Repeat.f(l:List Int)(n:Int):Option (List Int):=if l.length=1∧0≤n∧n≤64 then some (List.replicate n.toNat (rd l 0)) else none
theorem rep_one(ad:Addr)(c:Nat)(x:Int)(n:Nat)(w:World)(hx:w.cell? ad=some (.int .i64 x))(hc:1≤c)(hn:n≤64):
  Calls Tryz.prog 106 #[.slice (some ad) 1 c,.int .i64 n] w fun e w'=>∃eB:Value,e= .returned eB∧Kd.R (Kd.int .i64) 3 w' w.heap.size (fun _=>True) eB (List.replicate n x)∧Below w.heap.size w w':=by
 have HX:=Z_ hx;have h1:¬(n:Int)<0:=by omega
 have e0:1*n / 18446744073709551616=0:=by omega
 have e1:1*n%18446744073709551616=n:=by omega
 have E0:=Lib.hid e0;have E1:=Lib.hid e1
 have hmk:∀W:World,(Instr.makeSlice 36 (.int .i64 (n:Int)) (.int .i64 (n:Int))).run Tryz.prog W= .ok (.slice (some ⟨W.heap.size,0,none⟩) n n) (W.alloc (.cells (ints (part x 0 n)).toArray 3)):=by
  rw[part_zero,←made_ints];exact print_make 36 3 .i64 8 Tryz.underlying36 info3 (by omega) n (by omega)
 have YA:Aside0 ((w.alloc (.cells (ints (part x 0 n)).toArray 3)).heap[w.heap.size]?=some (.cells (ints (part x 0 n)).toArray 3 (0,0))):=⟨blk_new w _⟩;have YW:Aside0 (Below w.heap.size w (w.alloc (.cells (ints (part x 0 n)).toArray 3))):=⟨below_alloc (Below.refl _ _) _⟩;clear hx e0 e1
 go_enter Tryz.func106,Tryz.ntmps106
 go_wp2_with fail
 refine(Tryz.bits_Mul 1 n (by omega) (by omega) _).mono ?_;rintro e wk_ ⟨rfl,rfl⟩;rw[E0.out,E1.out];have g0:¬(0:Int)<0:=by omega
 have g1:¬(9223372036854775807:Int)<n:=by omega
 go_wp2_with ((with_reducible refine gate_builtin (b:= .copy) (xs:= #[.tmp 31,.tmp 32]) rfl ?_);refine list_copy_row rfl (.tmp 31) (.tmp 32) 36 36 rfl 3 Tryz.underlying36 (by kernel_rfl) wk_.heap.size 0 n n ad 1 c rfl rfl (ints (part x 0 n)) 3 YA.out (ints (List.replicate (min 1 n) x)) (by rw[ints_len,List.length_replicate];first|done|rfl) (first_src YA.out HX.out YW.out n) (by rw[ints_len,ints_len,part_len (Nat.zero_le _),List.length_replicate];omega) (ints_one _) _ (part_first x n) ?_;replace YA:=Z_ (blk_setRow YA.out (ints (part x (min 1 n) n)).toArray);replace YW:=Z_ (below_setRow YW.out (Nat.le_refl _) (ints (part x (min 1 n) n)).toArray);rw[ints_len,List.length_replicate])
 obtain⟨k0,hk0⟩:∃k,min 1 n=k:=⟨_,rfl⟩;rw[hk0] at YA YW ⊢;have hk1:k0≤n:=by omega
 have hk2:k0=0→n=0:=by omega
 have hk3:0<n→0<k0:=by omega
 clear hmk;clear hk0;generalize World.setRow _ _ _=W at YA YW ⊢;generalize hgg:wk_.heap.size=g at YA ⊢;have HG:Aside0 (wk_.heap.size≤g):=⟨Nat.le_of_eq hgg⟩;clear hgg
 go_loopg [8] n (fun d v8 wr=>∃k:Nat,v8= .int .i64 k∧n≤k+d∧k≤n∧(0<n→0<k)∧Aside0 (wr.heap[g]?=some (.cells (ints (part x k n)).toArray 3 (0,0)))∧Aside0 (Below wk_.heap.size wk_ wr))
 case atStart=>exact⟨k0,rfl,by omega,hk1,hk3,YA,YW⟩
 case round=>
  clear YA YW hk1 hk2 hk3;obtain⟨k,rfl,hd,hk,hk3,YA,YW⟩:=hrel
  by_cases hlt:k<n
  ·obtain⟨d,rfl⟩:∃d,gk=d+1:=⟨gk - 1,by omega⟩;have hlt':(k:Int)<n:=by omega
   have hk0':0<k:=by omega
   have hkn:¬n=k:=by omega
   have HW:Hid (wrap64 ((k:Int)+((min k (n - k):Nat):Int))=((k+min k (n - k):Nat):Int)):=by
    show _=_;have hq:=Nat.min_le_right k (n - k);generalize min k (n - k)=q at hq ⊢;unfold wrap64;omega
   have HM:Aside0 (k+min k (n - k)≤n∧(0<min k (n - k))):=⟨by omega,by omega⟩;go_wp2;replace YA:=Z_ (blk_drew YA.out);replace YW:=Z_ (below_drew1 YW.out);refine start_ (n:=10) (S:=fun _=>True) (ds:= []) #[false,false,false,false,false,false,false,false,false,false] (by kernel_rfl) rfl rfl trivial (fun hHeld=>?_);refine with_tabW rep.tab9 rep.bits9 (fun HT_ HW_=>?_);generalize World.drew _=wk_ at YA YW hHeld ⊢;refine P_ 0 38 ?_;refine P_ 1 39 ?_;refine P_ 2 40 ?_;refine P_ 4 42 ?_;refine P_ 5 43 ?_;refine T_ 3 41 (y:=by rintro w' _;go_simp;with_reducible rfl) (h:=?_);refine T_ 6 44 (y:=by rintro w' _;go_simp;with_reducible rfl) (h:=?_);refine O_ 7 45 fun K hK=>?_
   refine step_copy_row rfl (.tmp 41) (.tmp 44) 36 36 rfl 3 Tryz.underlying36 (by kernel_rfl) g k (n - k) (n - k) ⟨g,0,none⟩ k n (by simp[Act.eval,Act.put]) (by simp[Act.eval,Act.put]) (ints (part x k n)) 3 YA.out (ints (List.replicate (min k (n - k)) x)) (by rw[ints_len,List.length_replicate];first|done|rfl) (part_src YA.out hk) (by rw[ints_len,ints_len,part_len hk,List.length_replicate];omega) (ints_one _) _ (part_copy x hk) ?_;replace YA:=Z_ (blk_setRow YA.out (ints (part x (k+min k (n - k)) n)).toArray);replace YW:=Z_ (below_setRow YW.out HG.out (ints (part x (k+min k (n - k)) n)).toArray);rw[ints_len,List.length_replicate];generalize World.setRow _ _ _=wk_ at YA YW ⊢;refine hK.out _ _ trivial (fun hHeld=>?_);clear hK K;refine Nm_ 45 ?_;refine P_ 8 46 ?_;refine P_ 9 8 ?_;refine done_ (done_of HT_.out (by kernel_rfl)) ?_;go_wp2
   go_roundg d
   case measure=>omega
   case rel=>exact⟨k+min k (n - k),congrArg (Value.int .i64) HW.out,by have:=HM.out;omega,HM.out.1,fun _=>by omega,YA,YW⟩
  ·obtain rfl:k=n:=by omega
   have hlt':¬(k:Int)<k:=by omega
   go_wp2;go_ret;have e:(List.replicate k x).length=k:=List.length_replicate;rw[part_all] at YA;refine⟨_,rfl,Kd.R_of_own ?_ (fun _ _=>trivial),YW.out⟩;rw[e];exact⟨by rw[encs_length,e,Nat.mul_one],.inr ⟨g,k,_,rfl,HG.out,YA.out,Nat.le_refl _,by unfold maxLen;omega,by rw[List.size_toArray,ints_len,e,Nat.mul_one],by rw[Nat.mul_one,List.take_of_length_le (by rw[ints_len,e];exact Nat.le_refl _)];rfl⟩⟩
theorem slices_Repeat.calls(A0:Option Addr)(c0:Nat)(l0:List Int)(a1:Int)(r:List Int)(w:World)(hr0:Kd.C (Kd.int .i64) w A0 l0.length l0)(hc0:l0.length≤c0)(h:slices_Repeat.f l0 a1=some r):
  Calls Tryz.prog 106 #[.slice A0 l0.length c0,.int .i64 a1] w fun e w'=>∃eB:Value,e= .returned eB∧Kd.R (Kd.int .i64) 3 w' w.heap.size (fun _=>True) eB r∧Below w.heap.size w w':=by
 unfold slices_Repeat.f at h
 by_cases hx:l0.length=1∧0≤a1∧a1≤64
 ·rw[if_pos hx] at h;obtain rfl:=Option.some.inj h;obtain⟨n,rfl⟩:=Int.eq_ofNat_of_zero_le hx.2.1;obtain⟨ad,rfl,h1⟩:=Kd.at_int hr0 0 (by omega) (by omega);have h2:w.cell? ad=some (.int .i64 (rd l0 0)):=h1;rw[hx.1,nC_];exact rep_one ad c0 _ n w h2 (by omega) (by omega)
 ·rw[if_neg hx] at h
  cases h
theorem at_eq(s:ByteArray)(i:Int)(h:0≤i):Dd.at_ s i=if i<(s.size:Int) then bt s i else 0:=by
 unfold Dd.at_ bt
 by_cases h1:i<(s.size:Int)
 ·have h2:i.toNat<s.size:=by omega
  rw[if_pos h1,if_pos h1,if_pos h,dif_pos h2]
  congr 2
  rw[gD_,gE_ (by simpa using h2),Option.getD_some];simp;rfl
 ·rw[if_neg h1,if_neg h1]
theorem at_some(s:ByteArray)(i:Int)(h:0≤i):decoder_at.f s i=some (Dd.at_ s i):=by
 rw[at_eq s i h];unfold decoder_at.f
 by_cases h1:i<(s.size:Int)
 ·rw[if_pos h1,if_pos h,if_pos h1];have:=bt_range s i
  congr 1
  unfold wrap64;omega
 ·rw[if_neg h1,if_neg h1]
theorem at_calls(s:ByteArray)(i:Int)(w:World)(h:0≤i):Calls Tryz.prog 159 #[.string s,.int .i64 i] w fun e w'=>e= .returned (.int .i64 (Dd.at_ s i))∧∃n,w'=w.drewN n:=
 (decoder_at.calls s i _ w (at_some s i h)).mono fun _ _ hh=>⟨hh.1,hh.2.out⟩
theorem and_up(x:Int)(h0:0≤x)(h1:x≤4294967295):Go.bits .and .i64 (wrap64 (x*256)) 4294967295=x*256%4294967296:=by
 obtain⟨n,rfl⟩:=Int.eq_ofNat_of_zero_le h0;have hw:wrap64 ((n:Int)*256)=((n*256:Nat):Int):=by unfold wrap64;omega
 have ha:=and64 (n*256) 4294967295 (by omega) (by omega);rw[Nat.and_two_pow_sub_one_eq_mod _ 32] at ha;rw[hw];have ha':Go.bits .and .i64 ((n*256:Nat):Int) 4294967295=((n*256%2 ^ 32:Nat):Int):=ha;rw[ha'];omega
theorem or_up(x y:Int)(h0:0≤x)(_:x≤4294967295)(g0:0≤y)(g1:y≤255):Go.bits .or .i64 (x*256%4294967296) y=x*256%4294967296+y:=by
 obtain⟨n,rfl⟩:=Int.eq_ofNat_of_zero_le h0;obtain⟨m,rfl⟩:=Int.eq_ofNat_of_zero_le g0;have he:(n:Int)*256%4294967296=((n*256%2 ^ 32:Nat):Int):=by omega
 rw[he];have ho:=or64 (n*256%2 ^ 32) m (by omega) (by omega)
 have hj:n*256%2 ^ 32 ||| m=n*256%2 ^ 32+m:=by
  have h3:=Nat.two_pow_add_eq_or_of_lt (i:=8) (b:=m) (by omega) (n*256%2 ^ 32 / 256);have h4:2 ^ 8*(n*256%2 ^ 32 / 256)=n*256%2 ^ 32:=by omega
  rw[h4] at h3;exact h3.symm
 rw[hj] at ho;rw[ho];omega
theorem up_any(x y:Int)(h0:0≤x)(h1:x≤4294967295)(g0:0≤y)(g1:y≤255):Go.bits .or .i64 (Go.bits .and .i64 (wrap64 (x*256)) 4294967295) y=x*256%4294967296+y:=by
 rw[and_up x h0 h1,or_up x y h0 h1 g0 g1]
theorem up_is(x y z:Int)(w:World)(h0:0≤x)(h1:x≤4294967295)(g0:0≤y)(g1:y≤255)(hz:x*256%4294967296+y=z):Calls Tryz.prog 137 #[.int .i64 x,.int .i64 y] w fun e w'=>e= .returned (.int .i64 z)∧w=w':=by
 have h:=up_calls x y w;rw[up_any x y h0 h1 g0 g1,hz] at h;exact h
theorem dmay_some(lo hi now:Int)(t:ByteArray)(a:Int):decoder_May.f lo hi now t a=some (Dd.may lo hi now t a):=by
 unfold decoder_May.f coder_Ends.f Dd.may
 by_cases h1:0≤lo∧hi≤4294967295∧lo / 16777216<hi / 16777216∧lo≤now∧now≤hi∧t.size≤65536∧4≤a∧a≤65544
 ·rw[dt_ h1];obtain⟨h1,h2,h3,h4,h5,h6,h7,h8⟩:=h1;have h9:(t.size:Int)≤65536:=by omega
  simp[h1,h2,h3,h4,h5,h7,h8,h9]
 ·rw[df_ h1]
  by_cases a1:lo≥0
  ·by_cases a2:hi≤4294967295
   ·by_cases a3:hi / 16777216>lo / 16777216
    ·by_cases a4:now≥lo
     ·by_cases a5:now≤hi
      ·by_cases a6:(t.size:Int)≤65536
       ·by_cases a7:a≥4
        ·have a8:¬a≤65544:=by omega
         simp[a1,a2,a3,a4,a5,a6,a7,a8]
        ·simp[a1,a2,a3,a4,a5,a6,a7]
       ·simp[a1,a2,a3,a4,a5,a6]
      ·simp[a1,a2,a3,a4,a5]
     ·simp[a1,a2,a3,a4]
    ·simp[a1,a2,a3]
   ·simp[a1,a2]
  ·simp[a1]
theorem info204:(Tryz.prog.info? 204).map (·.size)=some 5:=by kernel_rfl
def dbox(lo hi now:Int)(t:ByteArray)(a:Int):Obj:= .cells #[.int .i64 lo,.int .i64 hi,.int .i64 now,.string t,.int .i64 a] 204 (0,0)
def dres(r:Int×Int×Int×ByteArray×Int×Int×Int):Value:= .tuple #[.agg #[.int .i64 r.1,.int .i64 r.2.1,.int .i64 r.2.2.1,.string r.2.2.2.1,.int .i64 r.2.2.2.2.1],.int .i64 r.2.2.2.2.2.1,.int .i64 r.2.2.2.2.2.2]
def dbit.T8:Bool×List (List Nat×List Nat):=(true,[([],[]),([0],[0]),([1],[1]),([],[]),([3],[3]),([4,2],[4]),([],[]),([6],[6]),([],[]),([8],[8]),([],[]),([10],[10]),([9,11,5],[9,11]),([7,12,12],[7,12]),([0,1,2,3,4,6,7,8,9,10,11],[]),([14,2,13,0,1,2,3,4,6,7,8,9,10,11],[2,14]),([0,1,2,3,4,5,6,7,8,9,10,11,14,15],[]),([16,5,15,0,1,2,3,4,5,6,7,8,9,10,11,14,15],[5,16]),([0,1,2,3,4,5,6,7,8,9,10,11,12,13,14,15,16,17],[]),([18,13,17,0,1,2,3,4,5,6,7,8,9,10,11,12,13,14,15,16,17],[13,18])])
def dbit.B8:List Nat:= [0,1,3,0,8,31,0,64,0,256,0,1024,3903,8191,4063,32767,65535,131071,262143,524287]
theorem dbit.tab8:rtab .any (opsOf Tryz.f171 8)=dbit.T8:=by kernel_rfl
theorem dbit.bits8:waitsOk dbit.T8.2 dbit.B8=true:=by kernel_rfl
theorem dbit_one(lo hi now:Int)(t:ByteArray)(a p:Int)(w:World)(hm:Dd.may lo hi now t a=true)(hp:Cd.chance p=true)(m:Int)(hmid:coder_Middle.f lo hi p=some m)(hm0:lo≤m)(hm1:m<hi)(hle:now≤m):
  Calls Tryz.prog 171 #[.agg #[.int .i64 lo,.int .i64 hi,.int .i64 now,.string t,.int .i64 a],.int .i64 p] w fun e w'=>e= .returned (dres (Dd.fin (Dd.sh 4 lo m now t a) t 1))∧Below w.heap.size w w':=by
 have nC:=Tryz.underlying204;have HM:=Lib.hid (dmay_some lo hi now t a);rw[hm] at HM;have HC:=Lib.hid (chance_some p);rw[hp] at HC;have HD:=Lib.hid (show coder_Middle.f lo hi p=some m from hmid);have HB:=od_ hm;clear hm hp hmid;obtain⟨hl0,hh0,hlh,hn0,hn1,ht0,ha0,ha1⟩:=HB;have hmt:decide (now≤m)=true:=dt_ hle
 go_enter Tryz.func171,Tryz.ntmps171
 go_wp2_with (first
  |(go_at_call 175;refine(decoder_May.calls lo hi now t a _ _ HM.out).mono ?_;rintro e w1 ⟨rfl,hb⟩;obtain⟨hc,hf⟩:=bcell hb)
  |(go_at_call 134;refine(coder_Chance.calls p _ _ HC.out).mono ?_;rintro e w2 ⟨rfl,⟨nc,rfl⟩⟩)
  |(go_at_call 135;refine(coder_Middle.calls lo hi p m _ HD.out).mono ?_;rintro e w3 ⟨rfl,⟨nd,rfl⟩⟩))
 have hg3:=hb.block w.heap.size (by simp;omega);rw[heap_alloc2_old] at hg3;have rD:=hb.block (w.heap.size+1) (by simp);rw[heap_alloc2_new] at rD;have hgb:Below w.heap.size w ((w1.drewN (nc+nd)).setCell ⟨w.heap.size,1,none⟩ (.int .i64 m)):=below_set (pw_below_drewN (below_two hb) (nc+nd)) (Nat.le_refl _);have A3:Aside0 (((w1.drewN (nc+nd)).setCell ⟨w.heap.size,1,none⟩ (.int .i64 m)).heap[w.heap.size]?=some (dbox lo m now t a)):=⟨blk_put (blk_drewN hg3 (nc+nd)) 1 _ rfl⟩;have A6:Aside0 (((w1.drewN (nc+nd)).setCell ⟨w.heap.size,1,none⟩ (.int .i64 m)).heap[w.heap.size+1]?=some (dbox 0 0 0 ⟨#[]⟩ 0)):=⟨blk_far (blk_drewN rD (nc+nd)) (p:=⟨w.heap.size,1,none⟩) (by simp) _⟩;have AB:=Z_ hgb;have AI:=Z_ (show Cd.Inv 4 lo m from Cd.Inv.start (by omega) (by omega) (by omega) (by omega));have hnn:0≤now∧now≤4294967295:=by omega
 clear hg3 rD hgb hc hf hb;generalize ((w1.drewN (nc+nd)).setCell ⟨w.heap.size,1,none⟩ (.int .i64 m))=wx at A3 A6 AB ⊢
 go_loopg [] 4 (fun d wr=>∃(l h n x:Int),Aside0 (Cd.Inv d l h)∧Aside0 (Dd.sh d l h n t x=Dd.sh 4 lo m now t a)∧Aside0 (4≤x∧x+d≤65548)∧Aside0 (0≤n∧n≤4294967295)∧Aside0 (wr.heap[w.heap.size]?=some (dbox l h n t x))∧Aside0 (wr.heap[w.heap.size+1]?=some (dbox 0 0 0 ⟨#[]⟩ 0))∧Aside0 (Below w.heap.size w wr))
 case atStart=>exact⟨lo,m,now,a,AI,⟨rfl⟩,⟨ha0,by omega⟩,⟨hnn⟩,A3,A6,AB⟩
 case round=>
  clear A3 A6 AB AI ha0 ha1 hn0 hn1 hnn hl0 hh0 hlh hle hm0 hm1 hmt ht0;obtain⟨l,h,n,x,AI,AS,AO,AN',A3,A6,AB⟩:=hrel;have c0:wr.cell? ⟨w.heap.size,0,none⟩=some (.int .i64 l):=blk_cell A3.out 0;have c1:wr.cell? ⟨w.heap.size,1,none⟩=some (.int .i64 h):=blk_cell A3.out 1;have c2:wr.cell? ⟨w.heap.size,2,none⟩=some (.int .i64 n):=blk_cell A3.out 2;have c3:wr.cell? ⟨w.heap.size,3,none⟩=some (.string t):=blk_cell A3.out 3;have c4:wr.cell? ⟨w.heap.size,4,none⟩=some (.int .i64 x):=blk_cell A3.out 4;have l3:=blk_lt A3.out;have l6:=blk_lt A6.out;have f0:=blk_frozen A3.out 0;have f1:=blk_frozen A3.out 1;have f2:=blk_frozen A3.out 2;have f4:=blk_frozen A3.out 4;have ha0:0≤x:=by have:=AO.out;omega
  have ha1:x≤65548:=by have:=AO.out;omega
  by_cases hgone:l / 16777216=h / 16777216
  ·cases gk with
   |zero=>exact absurd hgone AI.out.zero
   |succ d=>
    have heq:(l / 16777216==h / 16777216)=true:=beq_iff_eq.2 hgone;have AN:=Z_ (AI.out.next hgone);have AG:=Z_ hgone;have hl0:=AI.out.2.1;have hl1:=AI.out.2.2.1;have hh0:=AI.out.2.2.2.1;have Kl:=AI.out.2.2.2.2.1;obtain⟨hn0,hn1⟩:=AN'.out;obtain⟨hb0,hb1⟩:=Dd.at_bd t x;obtain⟨l',hl'⟩:∃l',l*256%4294967296+0=l':=⟨_,rfl⟩;obtain⟨h',hh'⟩:∃h',h*256%4294967296+255=h':=⟨_,rfl⟩;obtain⟨n',hn'⟩:∃n',n*256%4294967296+Dd.at_ t x=n':=⟨_,rfl⟩;have gn:0≤n'∧n'≤4294967295:=by omega
    have HL:=Lib.hid hl';have HH:=Lib.hid hh';have HN:=Lib.hid hn';have GN:=Z_ gn;clear hgone hl' hh' hn' gn
    go_wp2_with (first|(go_at_call 136;refine(gone_calls l h _).mono ?_;rintro e w2 ⟨rfl,rfl⟩))
    have Y3:=Z_ (blk_drew A3.out);have Y6:=Z_ (blk_drew A6.out);have YB:=Z_ (below_drew1 AB.out);clear c0 c1 c2 c3 c4 l3 l6 f0 f1 f2 f4 A3 A6 AB;refine start_ (n:=20) (S:=fun w'=>w'.heap[w.heap.size]?=some (dbox l h n t x)) (ds:= [15,17,19]) #[false,false,false,false,false,false,false,false,false,false,false,false,false,false,false,false,false,false,false,false] (by kernel_rfl) rfl rfl Y3.out (fun hHeld=>?_);refine with_tabW dbit.tab8 dbit.bits8 (fun HT_ HW_=>?_);generalize wr.drew=w5 at Y3 Y6 YB hHeld ⊢;refine P_ 0 38 ?_;refine P_ 3 41 ?_;refine P_ 6 44 ?_;refine P_ 8 46 ?_;refine P_ 10 48 ?_;refine T_ 1 39 (y:=by rintro w' s0;have s10:=blk_cell s0 0;have s11:=blk_cell s0 1;have s12:=blk_cell s0 2;have s13:=blk_cell s0 3;have oo:=blk_cell s0 4;simp at s10 s11 s12 s13 oo;go_simp;with_reducible rfl) (h:=?_);refine T_ 4 42 (y:=by rintro w' s0;have s10:=blk_cell s0 0;have s11:=blk_cell s0 1;have s12:=blk_cell s0 2;have s13:=blk_cell s0 3;have oo:=blk_cell s0 4;simp at s10 s11 s12 s13 oo;go_simp;with_reducible rfl) (h:=?_);refine T_ 7 45 (y:=by rintro w' s0;have s10:=blk_cell s0 0;have s11:=blk_cell s0 1;have s12:=blk_cell s0 2;have s13:=blk_cell s0 3;have oo:=blk_cell s0 4;simp at s10 s11 s12 s13 oo;go_simp;with_reducible rfl) (h:=?_);refine T_ 9 47 (y:=by rintro w' s0;have s10:=blk_cell s0 0;have s11:=blk_cell s0 1;have s12:=blk_cell s0 2;have s13:=blk_cell s0 3;have oo:=blk_cell s0 4;simp at s10 s11 s12 s13 oo;go_simp;with_reducible rfl) (h:=?_);refine T_ 11 49 (y:=by rintro w' s0;have s10:=blk_cell s0 0;have s11:=blk_cell s0 1;have s12:=blk_cell s0 2;have s13:=blk_cell s0 3;have oo:=blk_cell s0 4;simp at s10 s11 s12 s13 oo;go_simp;with_reducible rfl) (h:=?_);refine O_ 2 40 fun K hK=>?_
    refine goes_ Tryz.func137 (by kernel_rfl) rfl #[.int .i64 l,.int .i64 0] (by rfl) rfl rfl (by(try simp only[List.map_toArray,List.map_cons,List.map_nil]);first|done|rfl) ?_;refine(up_is l 0 l' _ hl0 hl1 (by omega) (by omega) HL.out).mono ?_;rintro e w' ⟨rfl,rfl⟩;refine⟨_,rfl,?_⟩;refine hK.out _ _ Y3.out (fun hHeld=>?_);clear hK K;refine Nm_ 40 ?_;refine P_ 14 52 ?_;refine O_ 5 43 fun K hK=>?_
    refine goes_ Tryz.func137 (by kernel_rfl) rfl #[.int .i64 h,.int .i64 255] (by rfl) rfl rfl (by(try simp only[List.map_toArray,List.map_cons,List.map_nil]);first|done|rfl) ?_;refine(up_is h 255 h' _ hh0 Kl (by omega) (by omega) HH.out).mono ?_;rintro e w' ⟨rfl,rfl⟩;refine⟨_,rfl,?_⟩;refine hK.out _ _ Y3.out (fun hHeld=>?_);clear hK K;refine Nm_ 43 ?_;refine O_ 12 50 fun K hK=>?_
    refine goes_ Tryz.func159 (by kernel_rfl) rfl #[.string t,.int .i64 x] (by rfl) rfl rfl (by(try simp only[List.map_toArray,List.map_cons,List.map_nil]);first|done|rfl) ?_;refine(at_calls t x _ ha0).mono ?_;rintro e w' ⟨rfl,⟨nd,rfl⟩⟩;refine⟨_,rfl,?_⟩;have m3:=Z_ (blk_drewN Y3.out nd);have m6:=Z_ (blk_drewN Y6.out nd);have mB:=Z_ (pw_below_drewN YB.out nd);clear Y3 Y6 YB hHeld;generalize World.drewN _ nd=w6 at m3 m6 mB ⊢;have Y3:=m3;have Y6:=m6;have YB:=mB;clear m3 m6 mB;refine hK.out _ _ Y3.out (fun hHeld=>?_);clear hK K;refine Nm_ 50 ?_;refine O_ 13 51 fun K hK=>?_
    refine goes_ Tryz.func137 (by kernel_rfl) rfl #[.int .i64 n,.int .i64 (Dd.at_ t x)] (by rfl) rfl rfl (by(try simp only[List.map_toArray,List.map_cons,List.map_nil]);first|done|rfl) ?_;refine(up_is n _ n' _ hn0 hn1 hb0 hb1 HN.out).mono ?_;rintro e w' ⟨rfl,rfl⟩;refine⟨_,rfl,?_⟩;refine hK.out _ _ Y3.out (fun hHeld=>?_);clear hK K;refine Nm_ 51 ?_;have c0:=blk_cell Y3.out 0;have c1:=blk_cell Y3.out 1;have c2:=blk_cell Y3.out 2;have c3:=blk_cell Y3.out 3;have c4:=blk_cell Y3.out 4;have f0:=blk_frozen Y3.out 0;have f1:=blk_frozen Y3.out 1;have f2:=blk_frozen Y3.out 2;have f3:=blk_frozen Y3.out 3;have f4:=blk_frozen Y3.out 4;have l3:=blk_lt Y3.out;simp at c0 c1 c2 c3 c4;refine last_ (i:=15) (N:=none) #[true,true,true,true,true,true,true,true,true,true,true,true,true,true,true,true,false,false,false,false] rfl rfl (one_of HT_.out (by kernel_rfl)) (by decide) (fun K hK=>?_);refine skip_ (w1:=?_) (by rfl) rfl ?_ ?_;rotate_left
    ·go_simp
     rfl
    refine hK.out _ _ ?_;clear hK K;refine P_ 16 53 ?_;refine last_ (i:=17) (N:=none) #[true,true,true,true,true,true,true,true,true,true,true,true,true,true,true,true,true,true,false,false] rfl rfl (one_of HT_.out (by kernel_rfl)) (by decide) (fun K hK=>?_);refine skip_ (w1:=?_) (by rfl) rfl ?_ ?_;rotate_left
    ·go_simp
     rfl
    refine hK.out _ _ ?_;clear hK K;refine P_ 18 54 ?_;refine last_ (i:=19) (N:=none) #[true,true,true,true,true,true,true,true,true,true,true,true,true,true,true,true,true,true,true,true] rfl rfl (one_of HT_.out (by kernel_rfl)) (by decide) (fun K hK=>?_);refine skip_ (w1:=?_) (by rfl) rfl ?_ ?_;rotate_left
    ·go_simp
     rfl
    refine hK.out _ _ ?_;clear hK K;refine done_ (done_of HT_.out (by kernel_rfl)) ?_;go_wp2
    go_roundg d
    case measure=>omega
    case rel=>
     have hne:w.heap.size+1≠w.heap.size:=by omega
     have hle:=Nat.le_refl w.heap.size;refine⟨l',h',n',x+1,⟨?_⟩,⟨?_⟩,⟨?_⟩,GN,⟨?_⟩,⟨?_⟩,⟨?_⟩⟩
     ·have:=AN.out;rw[HH.out,show l*256%4294967296=l' by have:=HL.out;omega] at this;exact this
     ·have:=AS.out;simp only[Dd.sh] at this;rw[if_pos AG.out,HN.out,HH.out,show l*256%4294967296=l' by have:=HL.out;omega] at this;exact this
     ·have:=AO.out;omega
     ·exact blk_put (blk_set (blk_set (blk_set Y3.out 0 _) 1 _) 2 _) 4 _ rfl
     ·exact blk_far (p:=⟨w.heap.size,_,none⟩) (blk_far (p:=⟨w.heap.size,_,none⟩) (blk_far (p:=⟨w.heap.size,_,none⟩) (blk_far (p:=⟨w.heap.size,_,none⟩) Y6.out hne _) hne _) hne _) hne _
     ·exact below_set (below_set (below_set (below_set YB.out hle) hle) hle) hle
  ·have hne:(l / 16777216==h / 16777216)=false:=beq_eq_false_iff_ne.2 hgone;have AE:=AS.out;rw[Dd.stop hgone] at AE;clear hgone;have f6:=blk_frozen A6.out;have d0:wr.cell? ⟨w.heap.size+1,0,none⟩=some (.int .i64 0):=blk_cell A6.out 0;have d1:wr.cell? ⟨w.heap.size+1,1,none⟩=some (.int .i64 0):=blk_cell A6.out 1;have d2:wr.cell? ⟨w.heap.size+1,2,none⟩=some (.int .i64 0):=blk_cell A6.out 2;have d3:wr.cell? ⟨w.heap.size+1,3,none⟩=some (.string ⟨#[]⟩):=blk_cell A6.out 3;have d4:wr.cell? ⟨w.heap.size+1,4,none⟩=some (.int .i64 0):=blk_cell A6.out 4
   by_cases hs:x≤65544
   ·have hfin:Dd.fin (Dd.sh 4 lo m now t a) t 1=(l,h,n,t,x,1,0):=by rw[←AE];unfold Dd.fin;rw[if_pos hs]
    have HF:=Lib.hid hfin;have hs':¬65544<x:=by omega
    clear AE hfin hs
    go_wp2_with (first|(go_at_call 136;refine(gone_calls l h _).mono ?_;rintro e w2 ⟨rfl,rfl⟩))
    refine bodyPost_ret (results_ctt rfl _ _ (w.heap.size+1) 204 #[.int .i64 l,.int .i64 h,.int .i64 n,.string t,.int .i64 x] (0,0) _ rfl (blk_set (blk_set (blk_set (blk_set (blk_set A6.out 0 _) 1 _) 2 _) 3 _) 4 _) Tryz.underlying204 rfl info204) rfl ⟨by rw[HF.out];rfl,?_⟩;exact below_set (below_set (below_set (below_set (below_set AB.out (by omega)) (by omega)) (by omega)) (by omega)) (by omega)
   ·have hfin:Dd.fin (Dd.sh 4 lo m now t a) t 1=(0,0,0,⟨#[]⟩,0,0,500):=by rw[←AE];unfold Dd.fin;rw[if_neg hs];rfl
    have HF:=Lib.hid hfin;have hs':65544<x:=by omega
    clear AE hfin hs
    go_wp2_with (first|(go_at_call 136;refine(gone_calls l h _).mono ?_;rintro e w2 ⟨rfl,rfl⟩))
    refine bodyPost_ret (results_ctt rfl _ _ (w.heap.size+1) 204 #[.int .i64 0,.int .i64 0,.int .i64 0,.string ⟨#[]⟩,.int .i64 0] (0,0) _ rfl (blk_set (blk_set (blk_set (blk_set (blk_set A6.out 0 _) 1 _) 2 _) 3 _) 4 _) Tryz.underlying204 rfl info204) rfl ⟨by rw[HF.out];rfl,?_⟩;exact below_set (below_set (below_set (below_set (below_set AB.out (by omega)) (by omega)) (by omega)) (by omega)) (by omega)
theorem dbit_zero(lo hi now:Int)(t:ByteArray)(a p:Int)(w:World)(hm:Dd.may lo hi now t a=true)(hp:Cd.chance p=true)(m:Int)(hmid:coder_Middle.f lo hi p=some m)(hm0:lo≤m)(hm1:m<hi)(hgt:m<now):
  Calls Tryz.prog 171 #[.agg #[.int .i64 lo,.int .i64 hi,.int .i64 now,.string t,.int .i64 a],.int .i64 p] w fun e w'=>e= .returned (dres (Dd.fin (Dd.sh 4 (m+1) hi now t a) t 0))∧Below w.heap.size w w':=by
 have nC:=Tryz.underlying204;have HM:=Lib.hid (dmay_some lo hi now t a);rw[hm] at HM;have HC:=Lib.hid (chance_some p);rw[hp] at HC;have HD:=Lib.hid (show coder_Middle.f lo hi p=some m from hmid);have HB:=od_ hm;clear hm hp hmid;obtain⟨hl0,hh0,hlh,hn0,hn1,ht0,ha0,ha1⟩:=HB;have hmt:decide (now≤m)=false:=df_ (by omega)
 go_enter Tryz.func171,Tryz.ntmps171
 go_wp2_with (first
  |(go_at_call 175;refine(decoder_May.calls lo hi now t a _ _ HM.out).mono ?_;rintro e w1 ⟨rfl,hb⟩;obtain⟨hc,hf⟩:=bcell hb)
  |(go_at_call 134;refine(coder_Chance.calls p _ _ HC.out).mono ?_;rintro e w2 ⟨rfl,⟨nc,rfl⟩⟩)
  |(go_at_call 135;refine(coder_Middle.calls lo hi p m _ HD.out).mono ?_;rintro e w3 ⟨rfl,⟨nd,rfl⟩⟩))
 have hg3:=hb.block w.heap.size (by simp;omega);rw[heap_alloc2_old] at hg3;have rD:=hb.block (w.heap.size+1) (by simp);rw[heap_alloc2_new] at rD;have hgb:Below w.heap.size w ((w1.drewN (nc+nd)).setCell ⟨w.heap.size,0,none⟩ (.int .i64 (m+1))):=below_set (pw_below_drewN (below_two hb) (nc+nd)) (Nat.le_refl _);have A3:Aside0 (((w1.drewN (nc+nd)).setCell ⟨w.heap.size,0,none⟩ (.int .i64 (m+1))).heap[w.heap.size]?=some (dbox (m+1) hi now t a)):=⟨blk_put (blk_drewN hg3 (nc+nd)) 0 _ rfl⟩;have A6:Aside0 (((w1.drewN (nc+nd)).setCell ⟨w.heap.size,0,none⟩ (.int .i64 (m+1))).heap[w.heap.size+1]?=some (dbox 0 0 0 ⟨#[]⟩ 0)):=⟨blk_far (blk_drewN rD (nc+nd)) (p:=⟨w.heap.size,0,none⟩) (by simp) _⟩;have AB:=Z_ hgb;have AI:=Z_ (show Cd.Inv 4 (m+1) hi from Cd.Inv.start (by omega) (by omega) (by omega) (by omega));have hnn:0≤now∧now≤4294967295:=by omega
 clear hg3 rD hgb hc hf hb;generalize ((w1.drewN (nc+nd)).setCell ⟨w.heap.size,0,none⟩ (.int .i64 (m+1)))=wx at A3 A6 AB ⊢
 go_loopg [] 4 (fun d wr=>∃(l h n x:Int),Aside0 (Cd.Inv d l h)∧Aside0 (Dd.sh d l h n t x=Dd.sh 4 (m+1) hi now t a)∧Aside0 (4≤x∧x+d≤65548)∧Aside0 (0≤n∧n≤4294967295)∧Aside0 (wr.heap[w.heap.size]?=some (dbox l h n t x))∧Aside0 (wr.heap[w.heap.size+1]?=some (dbox 0 0 0 ⟨#[]⟩ 0))∧Aside0 (Below w.heap.size w wr))
 case atStart=>exact⟨(m+1),hi,now,a,AI,⟨rfl⟩,⟨ha0,by omega⟩,⟨hnn⟩,A3,A6,AB⟩
 case round=>
  clear A3 A6 AB AI ha0 ha1 hn0 hn1 hnn hl0 hh0 hlh hgt hm0 hm1 hmt ht0;obtain⟨l,h,n,x,AI,AS,AO,AN',A3,A6,AB⟩:=hrel;have c0:wr.cell? ⟨w.heap.size,0,none⟩=some (.int .i64 l):=blk_cell A3.out 0;have c1:wr.cell? ⟨w.heap.size,1,none⟩=some (.int .i64 h):=blk_cell A3.out 1;have c2:wr.cell? ⟨w.heap.size,2,none⟩=some (.int .i64 n):=blk_cell A3.out 2;have c3:wr.cell? ⟨w.heap.size,3,none⟩=some (.string t):=blk_cell A3.out 3;have c4:wr.cell? ⟨w.heap.size,4,none⟩=some (.int .i64 x):=blk_cell A3.out 4;have l3:=blk_lt A3.out;have l6:=blk_lt A6.out;have f0:=blk_frozen A3.out 0;have f1:=blk_frozen A3.out 1;have f2:=blk_frozen A3.out 2;have f4:=blk_frozen A3.out 4;have ha0:0≤x:=by have:=AO.out;omega
  have ha1:x≤65548:=by have:=AO.out;omega
  by_cases hgone:l / 16777216=h / 16777216
  ·cases gk with
   |zero=>exact absurd hgone AI.out.zero
   |succ d=>
    have heq:(l / 16777216==h / 16777216)=true:=beq_iff_eq.2 hgone;have AN:=Z_ (AI.out.next hgone);have AG:=Z_ hgone;have hl0:=AI.out.2.1;have hl1:=AI.out.2.2.1;have hh0:=AI.out.2.2.2.1;have Kl:=AI.out.2.2.2.2.1;obtain⟨hn0,hn1⟩:=AN'.out;obtain⟨hb0,hb1⟩:=Dd.at_bd t x;obtain⟨l',hl'⟩:∃l',l*256%4294967296+0=l':=⟨_,rfl⟩;obtain⟨h',hh'⟩:∃h',h*256%4294967296+255=h':=⟨_,rfl⟩;obtain⟨n',hn'⟩:∃n',n*256%4294967296+Dd.at_ t x=n':=⟨_,rfl⟩;have gn:0≤n'∧n'≤4294967295:=by omega
    have HL:=Lib.hid hl';have HH:=Lib.hid hh';have HN:=Lib.hid hn';have GN:=Z_ gn;clear hgone hl' hh' hn' gn
    go_wp2_with (first|(go_at_call 136;refine(gone_calls l h _).mono ?_;rintro e w2 ⟨rfl,rfl⟩))
    have Y3:=Z_ (blk_drew A3.out);have Y6:=Z_ (blk_drew A6.out);have YB:=Z_ (below_drew1 AB.out);clear c0 c1 c2 c3 c4 l3 l6 f0 f1 f2 f4 A3 A6 AB;refine start_ (n:=20) (S:=fun w'=>w'.heap[w.heap.size]?=some (dbox l h n t x)) (ds:= [15,17,19]) #[false,false,false,false,false,false,false,false,false,false,false,false,false,false,false,false,false,false,false,false] (by kernel_rfl) rfl rfl Y3.out (fun hHeld=>?_);refine with_tabW dbit.tab8 dbit.bits8 (fun HT_ HW_=>?_);generalize wr.drew=w5 at Y3 Y6 YB hHeld ⊢;refine P_ 0 38 ?_;refine P_ 3 41 ?_;refine P_ 6 44 ?_;refine P_ 8 46 ?_;refine P_ 10 48 ?_;refine T_ 1 39 (y:=by rintro w' s0;have s10:=blk_cell s0 0;have s11:=blk_cell s0 1;have s12:=blk_cell s0 2;have s13:=blk_cell s0 3;have oo:=blk_cell s0 4;simp at s10 s11 s12 s13 oo;go_simp;with_reducible rfl) (h:=?_);refine T_ 4 42 (y:=by rintro w' s0;have s10:=blk_cell s0 0;have s11:=blk_cell s0 1;have s12:=blk_cell s0 2;have s13:=blk_cell s0 3;have oo:=blk_cell s0 4;simp at s10 s11 s12 s13 oo;go_simp;with_reducible rfl) (h:=?_);refine T_ 7 45 (y:=by rintro w' s0;have s10:=blk_cell s0 0;have s11:=blk_cell s0 1;have s12:=blk_cell s0 2;have s13:=blk_cell s0 3;have oo:=blk_cell s0 4;simp at s10 s11 s12 s13 oo;go_simp;with_reducible rfl) (h:=?_);refine T_ 9 47 (y:=by rintro w' s0;have s10:=blk_cell s0 0;have s11:=blk_cell s0 1;have s12:=blk_cell s0 2;have s13:=blk_cell s0 3;have oo:=blk_cell s0 4;simp at s10 s11 s12 s13 oo;go_simp;with_reducible rfl) (h:=?_);refine T_ 11 49 (y:=by rintro w' s0;have s10:=blk_cell s0 0;have s11:=blk_cell s0 1;have s12:=blk_cell s0 2;have s13:=blk_cell s0 3;have oo:=blk_cell s0 4;simp at s10 s11 s12 s13 oo;go_simp;with_reducible rfl) (h:=?_);refine O_ 2 40 fun K hK=>?_
    refine goes_ Tryz.func137 (by kernel_rfl) rfl #[.int .i64 l,.int .i64 0] (by rfl) rfl rfl (by(try simp only[List.map_toArray,List.map_cons,List.map_nil]);first|done|rfl) ?_;refine(up_is l 0 l' _ hl0 hl1 (by omega) (by omega) HL.out).mono ?_;rintro e w' ⟨rfl,rfl⟩;refine⟨_,rfl,?_⟩;refine hK.out _ _ Y3.out (fun hHeld=>?_);clear hK K;refine Nm_ 40 ?_;refine P_ 14 52 ?_;refine O_ 5 43 fun K hK=>?_
    refine goes_ Tryz.func137 (by kernel_rfl) rfl #[.int .i64 h,.int .i64 255] (by rfl) rfl rfl (by(try simp only[List.map_toArray,List.map_cons,List.map_nil]);first|done|rfl) ?_;refine(up_is h 255 h' _ hh0 Kl (by omega) (by omega) HH.out).mono ?_;rintro e w' ⟨rfl,rfl⟩;refine⟨_,rfl,?_⟩;refine hK.out _ _ Y3.out (fun hHeld=>?_);clear hK K;refine Nm_ 43 ?_;refine O_ 12 50 fun K hK=>?_
    refine goes_ Tryz.func159 (by kernel_rfl) rfl #[.string t,.int .i64 x] (by rfl) rfl rfl (by(try simp only[List.map_toArray,List.map_cons,List.map_nil]);first|done|rfl) ?_;refine(at_calls t x _ ha0).mono ?_;rintro e w' ⟨rfl,⟨nd,rfl⟩⟩;refine⟨_,rfl,?_⟩;have m3:=Z_ (blk_drewN Y3.out nd);have m6:=Z_ (blk_drewN Y6.out nd);have mB:=Z_ (pw_below_drewN YB.out nd);clear Y3 Y6 YB hHeld;generalize World.drewN _ nd=w6 at m3 m6 mB ⊢;have Y3:=m3;have Y6:=m6;have YB:=mB;clear m3 m6 mB;refine hK.out _ _ Y3.out (fun hHeld=>?_);clear hK K;refine Nm_ 50 ?_;refine O_ 13 51 fun K hK=>?_
    refine goes_ Tryz.func137 (by kernel_rfl) rfl #[.int .i64 n,.int .i64 (Dd.at_ t x)] (by rfl) rfl rfl (by(try simp only[List.map_toArray,List.map_cons,List.map_nil]);first|done|rfl) ?_;refine(up_is n _ n' _ hn0 hn1 hb0 hb1 HN.out).mono ?_;rintro e w' ⟨rfl,rfl⟩;refine⟨_,rfl,?_⟩;refine hK.out _ _ Y3.out (fun hHeld=>?_);clear hK K;refine Nm_ 51 ?_;have c0:=blk_cell Y3.out 0;have c1:=blk_cell Y3.out 1;have c2:=blk_cell Y3.out 2;have c3:=blk_cell Y3.out 3;have c4:=blk_cell Y3.out 4;have f0:=blk_frozen Y3.out 0;have f1:=blk_frozen Y3.out 1;have f2:=blk_frozen Y3.out 2;have f3:=blk_frozen Y3.out 3;have f4:=blk_frozen Y3.out 4;have l3:=blk_lt Y3.out;simp at c0 c1 c2 c3 c4;refine last_ (i:=15) (N:=none) #[true,true,true,true,true,true,true,true,true,true,true,true,true,true,true,true,false,false,false,false] rfl rfl (one_of HT_.out (by kernel_rfl)) (by decide) (fun K hK=>?_);refine skip_ (w1:=?_) (by rfl) rfl ?_ ?_;rotate_left
    ·go_simp
     rfl
    refine hK.out _ _ ?_;clear hK K;refine P_ 16 53 ?_;refine last_ (i:=17) (N:=none) #[true,true,true,true,true,true,true,true,true,true,true,true,true,true,true,true,true,true,false,false] rfl rfl (one_of HT_.out (by kernel_rfl)) (by decide) (fun K hK=>?_);refine skip_ (w1:=?_) (by rfl) rfl ?_ ?_;rotate_left
    ·go_simp
     rfl
    refine hK.out _ _ ?_;clear hK K;refine P_ 18 54 ?_;refine last_ (i:=19) (N:=none) #[true,true,true,true,true,true,true,true,true,true,true,true,true,true,true,true,true,true,true,true] rfl rfl (one_of HT_.out (by kernel_rfl)) (by decide) (fun K hK=>?_);refine skip_ (w1:=?_) (by rfl) rfl ?_ ?_;rotate_left
    ·go_simp
     rfl
    refine hK.out _ _ ?_;clear hK K;refine done_ (done_of HT_.out (by kernel_rfl)) ?_;go_wp2
    go_roundg d
    case measure=>omega
    case rel=>
     have hne:w.heap.size+1≠w.heap.size:=by omega
     have hle:=Nat.le_refl w.heap.size;refine⟨l',h',n',x+1,⟨?_⟩,⟨?_⟩,⟨?_⟩,GN,⟨?_⟩,⟨?_⟩,⟨?_⟩⟩
     ·have:=AN.out;rw[HH.out,show l*256%4294967296=l' by have:=HL.out;omega] at this;exact this
     ·have:=AS.out;simp only[Dd.sh] at this;rw[if_pos AG.out,HN.out,HH.out,show l*256%4294967296=l' by have:=HL.out;omega] at this;exact this
     ·have:=AO.out;omega
     ·exact blk_put (blk_set (blk_set (blk_set Y3.out 0 _) 1 _) 2 _) 4 _ rfl
     ·exact blk_far (p:=⟨w.heap.size,_,none⟩) (blk_far (p:=⟨w.heap.size,_,none⟩) (blk_far (p:=⟨w.heap.size,_,none⟩) (blk_far (p:=⟨w.heap.size,_,none⟩) Y6.out hne _) hne _) hne _) hne _
     ·exact below_set (below_set (below_set (below_set YB.out hle) hle) hle) hle
  ·have hne:(l / 16777216==h / 16777216)=false:=beq_eq_false_iff_ne.2 hgone;have AE:=AS.out;rw[Dd.stop hgone] at AE;clear hgone;have f6:=blk_frozen A6.out;have d0:wr.cell? ⟨w.heap.size+1,0,none⟩=some (.int .i64 0):=blk_cell A6.out 0;have d1:wr.cell? ⟨w.heap.size+1,1,none⟩=some (.int .i64 0):=blk_cell A6.out 1;have d2:wr.cell? ⟨w.heap.size+1,2,none⟩=some (.int .i64 0):=blk_cell A6.out 2;have d3:wr.cell? ⟨w.heap.size+1,3,none⟩=some (.string ⟨#[]⟩):=blk_cell A6.out 3;have d4:wr.cell? ⟨w.heap.size+1,4,none⟩=some (.int .i64 0):=blk_cell A6.out 4
   by_cases hs:x≤65544
   ·have hfin:Dd.fin (Dd.sh 4 (m+1) hi now t a) t 0=(l,h,n,t,x,0,0):=by rw[←AE];unfold Dd.fin;rw[if_pos hs]
    have HF:=Lib.hid hfin;have hs':¬65544<x:=by omega
    clear AE hfin hs
    go_wp2_with (first|(go_at_call 136;refine(gone_calls l h _).mono ?_;rintro e w2 ⟨rfl,rfl⟩))
    refine bodyPost_ret (results_ctt rfl _ _ (w.heap.size+1) 204 #[.int .i64 l,.int .i64 h,.int .i64 n,.string t,.int .i64 x] (0,0) _ rfl (blk_set (blk_set (blk_set (blk_set (blk_set A6.out 0 _) 1 _) 2 _) 3 _) 4 _) Tryz.underlying204 rfl info204) rfl ⟨by rw[HF.out];rfl,?_⟩;exact below_set (below_set (below_set (below_set (below_set AB.out (by omega)) (by omega)) (by omega)) (by omega)) (by omega)
   ·have hfin:Dd.fin (Dd.sh 4 (m+1) hi now t a) t 0=(0,0,0,⟨#[]⟩,0,0,500):=by rw[←AE];unfold Dd.fin;rw[if_neg hs];rfl
    have HF:=Lib.hid hfin;have hs':65544<x:=by omega
    clear AE hfin hs
    go_wp2_with (first|(go_at_call 136;refine(gone_calls l h _).mono ?_;rintro e w2 ⟨rfl,rfl⟩))
    refine bodyPost_ret (results_ctt rfl _ _ (w.heap.size+1) 204 #[.int .i64 0,.int .i64 0,.int .i64 0,.string ⟨#[]⟩,.int .i64 0] (0,0) _ rfl (blk_set (blk_set (blk_set (blk_set (blk_set A6.out 0 _) 1 _) 2 _) 3 _) 4 _) Tryz.underlying204 rfl info204) rfl ⟨by rw[HF.out];rfl,?_⟩;exact below_set (below_set (below_set (below_set (below_set AB.out (by omega)) (by omega)) (by omega)) (by omega)) (by omega)
theorem dbit_no(lo hi now:Int)(t:ByteArray)(a p:Int)(w:World)(hbad:Dd.may lo hi now t a=false∨Cd.chance p=false):
  Calls Tryz.prog 171 #[.agg #[.int .i64 lo,.int .i64 hi,.int .i64 now,.string t,.int .i64 a],.int .i64 p] w fun e w'=>e= .returned (dres Dd.bad)∧Below w.heap.size w w':=by
 have nC:=Tryz.underlying204;have HM:=Lib.hid (dmay_some lo hi now t a);have HC:=Lib.hid (chance_some p)
 cases hm:Dd.may lo hi now t a with
 |false=>
  rw[hm] at HM;clear hm hbad HC
  go_enter Tryz.func171,Tryz.ntmps171
  go_wp2_with (go_at_call 175;refine(decoder_May.calls lo hi now t a _ _ HM.out).mono ?_;rintro e w1 ⟨rfl,hb⟩;obtain⟨hc,hf⟩:=bcell hb)
  have hg:=hb.block (w.heap.size+1) (by simp);rw[heap_alloc2_new] at hg;refine bodyPost_ret (results_ctt rfl _ _ (w.heap.size+1) 204 #[.int .i64 0,.int .i64 0,.int .i64 0,.string ⟨#[]⟩,.int .i64 0] (0,0) _ rfl (blk_put (blk_put (blk_put (blk_put (blk_put (hg) 0 _ rfl) 1 _ rfl) 2 _ rfl) 3 _ rfl) 4 _ rfl) Tryz.underlying204 rfl info204) rfl ⟨rfl,?_⟩;exact below_set (below_set (below_set (below_set (below_set (below_two hb) (by omega)) (by omega)) (by omega)) (by omega)) (by omega)
 |true=>
  have hch:Cd.chance p=false:=hbad.resolve_left (by rw[hm];decide);rw[hm] at HM;rw[hch] at HC;clear hm hbad hch
  go_enter Tryz.func171,Tryz.ntmps171
  go_wp2_with (first
   |(go_at_call 175;refine(decoder_May.calls lo hi now t a _ _ HM.out).mono ?_;rintro e w1 ⟨rfl,hb⟩;obtain⟨hc,hf⟩:=bcell hb)
   |(go_at_call 134;refine(coder_Chance.calls p _ _ HC.out).mono ?_;rintro e w2 ⟨rfl,⟨nc,rfl⟩⟩))
  have hg:=hb.block (w.heap.size+1) (by simp);rw[heap_alloc2_new] at hg;refine bodyPost_ret (results_ctt rfl _ _ (w.heap.size+1) 204 #[.int .i64 0,.int .i64 0,.int .i64 0,.string ⟨#[]⟩,.int .i64 0] (0,0) _ rfl (blk_put (blk_put (blk_put (blk_put (blk_put (blk_drewN hg _) 0 _ rfl) 1 _ rfl) 2 _ rfl) 3 _ rfl) 4 _ rfl) Tryz.underlying204 rfl info204) rfl ⟨rfl,?_⟩;exact below_set (below_set (below_set (below_set (below_set (pw_below_drewN (below_two hb) _) (by omega)) (by omega)) (by omega)) (by omega)) (by omega)
def decoder_Bit.f(lo hi now:Int)(t:ByteArray)(a p:Int):Option (Int×Int×Int×ByteArray×Int×Int×Int):=some (Dd.bit lo hi now t a p)
theorem decoder_Bit.calls(ae af ax:Int)(aQ:ByteArray)(aW a1:Int)(r1 r2 r3:Int)(r4:ByteArray)(r5 r6 r7:Int)(w:World)(h:decoder_Bit.f ae af ax aQ aW a1=some (r1,r2,r3,r4,r5,r6,r7)):
  Calls Tryz.prog 171 #[.agg #[.int .i64 ae,.int .i64 af,.int .i64 ax,.string aQ,.int .i64 aW],.int .i64 a1] w fun e w'=>e= .returned (.tuple #[.agg #[.int .i64 r1,.int .i64 r2,.int .i64 r3,.string r4,.int .i64 r5],.int .i64 r6,.int .i64 r7])∧Below w.heap.size w w':=by
 have h:=Option.some.inj h;have hr:Value.tuple #[.agg #[.int .i64 r1,.int .i64 r2,.int .i64 r3,.string r4,.int .i64 r5],.int .i64 r6,.int .i64 r7]=dres (Dd.bit ae af ax aQ aW a1):=by rw[h];rfl
 rw[hr];clear hr h;unfold Dd.bit
 by_cases hc:Dd.may ae af ax aQ aW=true∧Cd.chance a1=true
 ·obtain⟨h1,h2⟩:=hc;rw[if_pos ⟨h1,h2⟩];have q:=od_ h1;have q2:=od_ h2;have hmid:=middle_some ae af a1 q.1 (by omega) q.2.1 q2.1 q2.2;have hlo:=Cd.mid_lo (show ae≤af by omega) (show 0≤a1 by omega);have hhi:=Cd.mid_hi (show ae<af by omega) (show 0≤a1 by omega) q2.2
  by_cases hn:ax≤Cd.mid ae af a1
  ·rw[if_pos hn];exact dbit_one _ _ _ _ _ _ w h1 h2 _ hmid hlo hhi hn
  ·rw[if_neg hn];exact dbit_zero _ _ _ _ _ _ w h1 h2 _ hmid hlo hhi (by omega)
 ·rw[if_neg hc];refine dbit_no _ _ _ _ _ _ w ?_
  by_cases h1:Dd.may ae af ax aQ aW=true
  ·exact .inr (by cases hh:Cd.chance a1 with|false=>rfl|true=>exact absurd ⟨h1,hh⟩ hc)
  ·exact .inl (by cases hh:Dd.may ae af ax aQ aW with|false=>rfl|true=>exact absurd hh h1)
def rdb.T4:Bool×List (List Nat×List Nat):=(true,[([],[]),([0],[0]),([1],[1]),([],[]),([],[]),([2,3,4],[2,3,4])])
def rdb.B4:List Nat:= [0,1,3,0,0,31]
theorem rdb.tab4:rtab .any (opsOf Tryz.f161 4)=rdb.T4:=by kernel_rfl
theorem rdb.bits4:waitsOk rdb.T4.2 rdb.B4=true:=by kernel_rfl
theorem rbit_calls(w0:World)(g gx:Nat)(m:List Int)(before:Nat)(v:Value)(l:List Int)(lo hi now:Int)(tx:ByteArray)(ta:Int)(b:Int)(r1 r2 r3 r5:Int)(w:World)(hT:Tabs w0)(hM:MOk m)(hb0:before≤63)(hl:l.length≤63)(hbits:l.any ctxOdd=false)(hbit:b=0∨b=1)
  (hrr:Dd.bit lo hi now tx ta (mP m (cx0 l) (cx1 before l) (cx2 l))=(r1,r2,r3,tx,r5,b,0))
  (hg:w.heap[g]?=some (.cells (stc m before v [.int .i64 lo,.int .i64 hi,.int .i64 now,.string tx,.int .i64 ta]).toArray 209 (0,0))) (hr:Kd.R (Kd.int .i64) 3 w w0.heap.size (fun k=>k≠g∧k≠gx) v l) (hgx:gx<w.heap.size) (hg0:w0.heap.size≤g) (hW:Below w0.heap.size w0 w):
  Calls Tryz.prog 161 #[.pointer (some ⟨g,0,none⟩)] w fun e w'=>e= .returned (.bool true)∧LearnPost w0 g gx 209 w.heap[gx]? (mLearn m (cx0 l) (cx1 before l) (cx2 l) b) before (l++ [b]) [.int .i64 r1,.int .i64 r2,.int .i64 r3,.string tx,.int .i64 r5] w':=by
 have lh:=Tryz.underlying81;have nC:=Tryz.underlying204;obtain⟨A,c,rfl,hlc,hC⟩:=Kd.R_reads hr;have CH:=Lib.hid (stChance_calls g 209 m before A c l [.int .i64 lo,.int .i64 hi,.int .i64 now,.string tx,.int .i64 ta] w (hT.below hW) hM hb0 hl hlc hbits hg hC);have T0:=Z_ hT;have HM:=Z_ hM;have HBit:=Z_ hbit;have HR:=Lib.hid (show decoder_Bit.f lo hi now tx ta (mP m (cx0 l) (cx1 before l) (cx2 l))=some (r1,r2,r3,tx,r5,b,0) from congrArg some hrr);have YG:=Z_ hg;have HV:=Z_ hr;have YW:=Z_ hW;have HGL:g<w.heap.size:=blk_lt hg;have YX:Aside0 (Fr gx g w.heap[gx]? w):=⟨hgx,fun _=>rfl⟩;obtain⟨ox,hox⟩:∃o,w.heap[gx]?=o:=⟨_,rfl⟩;rw[hox] at YX ⊢;clear hox;generalize hv:Value.slice A l.length c=v at YG HV CH;clear hT hM hg hr hW hbit hrr hbits hC hv
 go_enter Tryz.func161,Tryz.ntmps161
 go_wp2_with fail
 refine CH.out.mono ?_;rintro e wk_ ⟨rfl,hb⟩;replace YG:=Z_ (blk_below YG.out hb);replace HV:=Z_ (Kd.R_below HV.out hb);replace YW:=Z_ (below_step YW.out hb);replace YX:=Z_ (Fr.below YX.out hb);clear hb CH
 go_wp2_with (first|(refine X_ 4 #[.int .i64 0,.int .i64 0,.int .i64 0] 81 ?_;intro gc hg wk_ hbox hb;have HGC:=Z_ (show g<gc by have:=blk_lt YG.out;omega);have HG_:=Z_ hg;have HB_:=Z_ hb;have YC:=Z_ hbox;clear hbox hb hg)|((with_reducible refine gate_store (t:=81) (p:=4) rfl ?_);refine wpList_store_mid rfl 81 _ _ rfl gc 0 #[.int .i64 (cx0 l),.int .i64 (cx1 before l),.int .i64 (cx2 l)] rfl rfl (there_blk (vs:= [.int .i64 0,.int .i64 0,.int .i64 0]) YC.out 0 3 (by decide)) (by kernel_rfl) (by simp[Value.oneCell']) ?_;have nc_:=Z_ (setCells_all (vs:= [.int .i64 (cx0 l),.int .i64 (cx1 before l),.int .i64 (cx2 l)]) (old:= [.int .i64 0,.int .i64 0,.int .i64 0]) YC.out rfl);have hb:=below_setCells HB_.out (Nat.le_of_eq HG_.out.symm) [.int .i64 (cx0 l),.int .i64 (cx1 before l),.int .i64 (cx2 l)] 0;replace YG:=Z_ (blk_below YG.out hb);replace HV:=Z_ (Kd.R_below HV.out hb);replace YW:=Z_ (below_step YW.out hb);replace YX:=Z_ (Fr.below YX.out hb);clear hb HB_ HG_ YC;have YC:=nc_;clear nc_;generalize World.setCells _ _ _ _=wk_ at YG HV YW YX YC ⊢)|((with_reducible refine gate_dst (N:=19) rfl ?_);refine wpList_load_mid rfl 204 _ rfl g 197 rfl [.int .i64 lo,.int .i64 hi,.int .i64 now,.string tx,.int .i64 ta] _ (range_str YG.out HM.out.1) Tryz.underlying204 rfl (by kernel_rfl) ?_)|(go_at_call 171;refine(decoder_Bit.calls lo hi now tx ta (mP m (cx0 l) (cx1 before l) (cx2 l)) r1 r2 r3 tx r5 b 0 _ HR.out).mono ?_;rintro e wk_ ⟨rfl,hb⟩;replace YG:=Z_ (blk_below YG.out hb);replace HV:=Z_ (Kd.R_below HV.out hb);replace YW:=Z_ (below_step YW.out hb);replace YX:=Z_ (Fr.below YX.out hb);replace YC:=Z_ (blk_below YC.out hb);clear hb)|(refine X_ 5 #[.int .i64 0,.int .i64 0,.int .i64 0,.string ⟨#[]⟩,.int .i64 0] 204 ?_;intro gd hg wk_ hbox hb;have HGD:=Z_ (show g<gd by have:=blk_lt YG.out;omega);have HG_:=Z_ hg;have HB_:=Z_ hb;have YD:=Z_ hbox;clear hbox hb hg)|((with_reducible refine gate_store (t:=204) (p:=5) rfl ?_);refine wpList_store_mid rfl 204 _ _ rfl gd 0 #[.int .i64 r1,.int .i64 r2,.int .i64 r3,.string tx,.int .i64 r5] rfl rfl (there_blk (vs:= [.int .i64 0,.int .i64 0,.int .i64 0,.string ⟨#[]⟩,.int .i64 0]) YD.out 0 5 (by decide)) (by kernel_rfl) (by simp[Value.oneCell']) ?_;have nc_:=Z_ (setCells_all (vs:= [.int .i64 r1,.int .i64 r2,.int .i64 r3,.string tx,.int .i64 r5]) (old:= [.int .i64 0,.int .i64 0,.int .i64 0,.string ⟨#[]⟩,.int .i64 0]) YD.out rfl);have hb:=below_setCells HB_.out (Nat.le_of_eq HG_.out.symm) [.int .i64 r1,.int .i64 r2,.int .i64 r3,.string tx,.int .i64 r5] 0;replace YG:=Z_ (blk_below YG.out hb);replace HV:=Z_ (Kd.R_below HV.out hb);replace YW:=Z_ (below_step YW.out hb);replace YX:=Z_ (Fr.below YX.out hb);replace YC:=Z_ (blk_below YC.out hb);clear hb HB_ HG_ YD;have YD:=nc_;clear nc_;generalize World.setCells _ _ _ _=wk_ at YG HV YW YX YC YD ⊢)|((with_reducible refine gate_dst (N:=26) rfl ?_);refine wpList_load_mid rfl 204 _ rfl gd 0 rfl [.int .i64 r1,.int .i64 r2,.int .i64 r3,.string tx,.int .i64 r5] _ (range_all YD.out) Tryz.underlying204 rfl (by kernel_rfl) ?_)|((with_reducible refine gate_store (t:=204) (p:=28) rfl ?_);refine wpList_store_mid rfl 204 _ _ rfl g 197 #[.int .i64 r1,.int .i64 r2,.int .i64 r3,.string tx,.int .i64 r5] rfl rfl (there_blk YG.out 197 5 (by rw[stc_len HM.out.1];exact Nat.le_refl _)) (by kernel_rfl) (by simp[Value.oneCell']) ?_;replace YG:=Z_ (set_str (rest':= [.int .i64 r1,.int .i64 r2,.int .i64 r3,.string tx,.int .i64 r5]) YG.out HM.out.1 rfl);replace HV:=Z_ (Kd.R_step HV.out (w1:=World.setCells wk_ g 197 [.int .i64 r1,.int .i64 r2,.int .i64 r3,.string tx,.int .i64 r5]) (fun k hk _=>heap_setCells_far hk.1 _ _ _));replace YW:=Z_ (below_setCells YW.out hg0 [.int .i64 r1,.int .i64 r2,.int .i64 r3,.string tx,.int .i64 r5] 197);replace YC:=Z_ (setCells_far (g:=g) (k:=gc) (Nat.ne_of_gt HGC.out) [.int .i64 r1,.int .i64 r2,.int .i64 r3,.string tx,.int .i64 r5] _ 197 YC.out);replace YX:=Z_ (Fr.setCells YX.out [.int .i64 r1,.int .i64 r2,.int .i64 r3,.string tx,.int .i64 r5] 197);clear YD;generalize World.setCells _ _ _ _=wk_ at YG HV YW YC YX ⊢))
 replace YG:=Z_ (blk_drew YG.out);replace YC:=Z_ (blk_drew YC.out);replace HV:=Z_ (Kd.R_drew HV.out);replace YW:=Z_ (below_drew1 YW.out);replace YX:=Z_ (Fr.drew YX.out);refine start_ (n:=6) (S:=fun w'=>w'.heap[gc]?=some (.cells #[.int .i64 (cx0 l),.int .i64 (cx1 before l),.int .i64 (cx2 l)] 81 (0,0))) (ds:= [5]) #[false,false,false,false,false,false] (by kernel_rfl) rfl rfl YC.out (fun hHeld=>?_);refine with_tabW rdb.tab4 rdb.bits4 (fun HT_ HW_=>?_);generalize World.drew _=wk_ at YG YC HV YW YX hHeld ⊢;refine P_ 0 29 ?_;refine P_ 1 30 ?_;refine P_ 2 31 ?_;refine P_ 4 33 ?_;refine T_ 3 32 (y:=by rintro w' s1;have r0:=blk_cell s1 0;have Qu:=blk_cell s1 1;have Qv:=blk_cell s1 2;simp at r0 Qu Qv;go_simp;with_reducible rfl) (h:=?_);refine last_ (i:=5) (N:=some 34) #[true,true,true,true,true,true] rfl rfl (one_of HT_.out (by kernel_rfl)) (by decide) (fun K hK=>?_);refine g_ Tryz.func109 #[.pointer (some ⟨g,0,none⟩),.agg #[.int .i64 (cx0 l),.int .i64 (cx1 before l),.int .i64 (cx2 l)],.int .i64 b] ?_;refine(stLearn_calls w0 g gx 209 m before v l [.int .i64 r1,.int .i64 r2,.int .i64 r3,.string tx,.int .i64 r5] (cx0 l) (cx1 before l) (cx2 l) b _ T0.out HM.out (cx0_lt _) (cx1_lt _ _) (cx2_lt _) HBit.out (by omega) YG.out HV.out YX.out.lt hg0 YW.out).mono ?_;rintro e wk_ ⟨rfl,hp⟩;refine⟨_,rfl,?_⟩;have HP:=Z_ hp;have YE:=Z_ YX.out.eq;clear hp YG YC HV YW YX hHeld;refine hK.out _ _ ?_;clear hK K;refine Nm_ 34 ?_;refine done_ (done_of HT_.out (by kernel_rfl)) ?_;go_wp2;go_ret;obtain⟨v1,q1,q2,q3,q4⟩:=HP.out.out;exact⟨rfl,⟨v1,q1,q2,q3,q4.lt,fun hn=>(q4.eq hn).trans (YE.out hn)⟩⟩
end Go.Proofs.YtfghldonnffldaaGreatDoor
namespace Go.Proofs.YtfghldonnffldaaGreatDoor.VTwo
open Go.RowKit TBase YtfghldonnffldaaGreatDoorW.PrintWords YtfghldonnffldaaGreatDoorW.PrintLast YtfghldonnffldaaGreatDoorW.PrintMore
attribute [local go_sem] max2_int min2_int max_two min_two max_three min_three max_four min_four
theorem info5:(Tryz.prog.info? 5).map (fun i=>(i.zero,i.size,i.bytes))=some (some (.int .u8 0),1,1):=by kernel_rfl
def rd_L2(xs:List (List Int))(i:Int):(List Int):=xs.getD i.toNat ([]:List Int)
theorem at_L2{w:World}{A:Option Addr}{n:Nat}{xs:List (List Int)}(h:Kd.C (Kd.slice 3 (Kd.int .i64)) w A n xs)(i:Int)(h0:0≤i)(h1:i<n):∃ad A0 c0,A=some ad∧w.cell? (ad.add i.toNat)=some (.slice A0 (rd_L2 xs i).length c0)∧(rd_L2 xs i).length≤c0∧(Kd.int .i64).C w A0 (rd_L2 xs i).length (rd_L2 xs i):=by
 obtain⟨ad,c,e,_,hK,hc0⟩:=Kd.C_get h ([]:List Int) i h0 h1;have hc:∀j u,c[j]?=some u→w.cell? (ad.add (i.toNat*1+j))=some u:=hc0;obtain⟨A0,c0,rfl,l0,g0⟩:=hK;exact⟨ad,A0,c0,e,by have hq:=hc 0 _ rfl;rwa [Nat.mul_one,Nat.add_zero] at hq,l0,g0⟩
mutual
def field_Put.j0:Nat→Int→Int→Bool→Option (ByteArray×Int)
 |0,_,_,_=>none
 |k+1,x0,x1,x24=>if x24=true then(some ((⟨#[]⟩:ByteArray),100)) else(if 0≤x1 then(if(x1:Int).toNat≤281474976710656 then((some (List.replicate (x1:Int).toNat 0:List Int)).bind fun y101=>(field_Put.l0 k x0 y101 (y101.length:Int) 0)) else(none)) else(none))
def field_Put.l0:Nat→Int→List Int→Int→Int→Option (ByteArray×Int)
 |0,_,_,_,_=>none
 |k+1,x0,x6,x28,x29=>if x29<x28 then(if 0≤(wrap64 (8*x29)) then(if 0≤x29 then(if x29<(x6.length:Int) then(field_Put.l0 k x0 (x6.set (x29:Int).toNat ((shr .i64 x0 (wrap64 (8*x29)))%256)) x28 (wrap64 (x29+1))) else(none)) else(none)) else(none)) else(some (strOfNums x6,0))
end
def field_Put.f(k:Nat)(a0:Int)(a1:Int):Option (ByteArray×Int):=if a1<1 then(field_Put.j0 k a0 a1 true) else(if a1>4 then(field_Put.j0 k a0 a1 true) else(if a0<0 then(field_Put.j0 k a0 a1 true) else(if 0≤(wrap64 (8*a1)) then(field_Put.j0 k a0 a1 ((shr .i64 a0 (wrap64 (8*a1))) !=0)) else(none))))
theorem field_Put.mono_l:∀k,(∀y0 y1 y2,LeO (field_Put.j0 k y0 y1 y2) (field_Put.j0 (k+1) y0 y1 y2))∧(∀y0 y1 y2 y3,LeO (field_Put.l0 k y0 y1 y2 y3) (field_Put.l0 (k+1) y0 y1 y2 y3))
 |0=>⟨fun _ _ _ r h=>by simp[field_Put.j0] at h,fun _ _ _ _ r h=>by simp[field_Put.l0] at h⟩
 |k+1=>by
  obtain⟨fD,ih1⟩:=field_Put.mono_l k;refine⟨?_,?_⟩
  ·intro y0 y1 y2;unfold field_Put.j0
   repeat' first
   |(with_reducible exact fD _ _ _)
   |(with_reducible exact ih1 _ _ _ _)
   |(with_reducible exact LeO.refl _)
   |(with_reducible exact LeO.none _)
   |(with_reducible refine LeO.ite ?_ ?_)
   |(with_reducible refine LeO.bind ?_ (fun _=>?_))
   |exact fD _ _ _
   |exact ih1 _ _ _ _
   |exact LeO.none _
   |refine LeO.ite ?_ ?_
   |refine LeO.bind ?_ (fun _=>?_)
  ·intro y0 y1 y2 y3;unfold field_Put.l0
   repeat' first
   |(with_reducible exact fD _ _ _)
   |(with_reducible exact ih1 _ _ _ _)
   |(with_reducible exact LeO.refl _)
   |(with_reducible exact LeO.none _)
   |(with_reducible refine LeO.ite ?_ ?_)
   |(with_reducible refine LeO.bind ?_ (fun _=>?_))
   |exact fD _ _ _
   |exact ih1 _ _ _ _
   |exact LeO.none _
   |refine LeO.ite ?_ ?_
   |refine LeO.bind ?_ (fun _=>?_)
theorem field_Put.mono:∀a0 a1 k,LeO (field_Put.f k a0 a1) (field_Put.f (k+1) a0 a1):=by
 intro a0 a1 k;obtain⟨fD,ih1⟩:=field_Put.mono_l k;unfold field_Put.f
 repeat' first
   |(with_reducible exact fD _ _ _)
   |(with_reducible exact ih1 _ _ _ _)
   |(with_reducible exact LeO.refl _)
   |(with_reducible exact LeO.none _)
   |(with_reducible refine LeO.ite ?_ ?_)
   |(with_reducible refine LeO.bind ?_ (fun _=>?_))
   |exact fD _ _ _
   |exact ih1 _ _ _ _
   |exact LeO.none _
   |refine LeO.ite ?_ ?_
   |refine LeO.bind ?_ (fun _=>?_)
theorem field_Put.calls(k:Nat)(a0:Int)(a1:Int)(r1:ByteArray)(r2:Int)(w:World)(h:field_Put.f k a0 a1=some (r1,r2)):
  Calls Tryz.prog 56 #[.int .i64 a0,.int .i64 a1] w fun e w'=>e= .returned (.tuple #[.string r1,.int .i64 r2])∧Below w.heap.size w w':=by
 have HB:=Z_ (Below.refl w.heap.size w);have H:(if a1<1 then(field_Put.j0 k a0 a1 true) else(if a1>4 then(field_Put.j0 k a0 a1 true) else(if a0<0 then(field_Put.j0 k a0 a1 true) else(if 0≤(wrap64 (8*a1)) then(field_Put.j0 k a0 a1 ((shr .i64 a0 (wrap64 (8*a1))) !=0)) else(none)))))=some (r1,r2):=h;clear h;have nI:=Z_ H;clear H
 go_enter Tryz.func56,Tryz.ntmps56
 go_upto_region 1 with (fail)
 go_cut [24] (fun v24 wc=>∃(kq:Nat) (uz:Bool),v24= .bool uz∧Aside0 (field_Put.j0 kq a0 a1 uz=some (r1,r2))∧Aside0 (kq≤k)∧Aside0 (Below w.heap.size w wc))
 case first=>
  have H:=nI.out;clear nI
  by_cases c4:a1<1
  ·rw[if_pos c4] at H;have c4b0:=dt_ c4;clear c4;(first|rw[c4b0]|(simp only[i64_w,i32_w];rw[c4b0])|skip);have H':=Z_ H;clear H;go_wp2;go_meet
   case rel=>exact⟨_,(true),(E1_),H',⟨L_⟩,⟨B_⟩⟩
  ·rw[if_neg c4] at H;have c4b0:=df_ c4;clear c4;(first|rw[c4b0]|(simp only[i64_w,i32_w];rw[c4b0])|skip)
   by_cases c5:a1>4
   ·rw[if_pos c5] at H;have c5b0:decide (4<a1)=true:=dt_ c5;clear c5;have H':=Z_ H;clear H;go_wp2;go_meet
    case rel=>exact⟨_,(true),(E1_),H',⟨L_⟩,⟨B_⟩⟩
   ·rw[if_neg c5] at H;have c5b0:decide (4<a1)=false:=df_ c5;clear c5
    by_cases c6:a0<0
    ·rw[if_pos c6] at H;have c6b0:=dt_ c6;clear c6;have H':=Z_ H;clear H;go_wp2;go_meet
     case rel=>exact⟨_,(true),(E1_),H',⟨L_⟩,⟨B_⟩⟩
    ·rw[if_neg c6] at H;have c6b0:=df_ c6;clear c6;obtain⟨EP,Dv⟩:∃j_:Int,(wrap64 (8*a1))=j_:=⟨_,rfl⟩;(first|rw[Dv] at H|simp only[Dv] at H);have hji7w:(IntKind.i64.wrap (8*a1))=EP:=(i64_w _).trans Dv
     by_cases c8:0≤(EP)
     ·rw[if_pos c8] at H;have c8b0:=eq_true c8;have c8b1:=dt_ c8;clear c8;obtain⟨vK,nS⟩:∃j_:Int,(shr .i64 a0 (EP))=j_:=⟨_,rfl⟩;(first|rw[nS] at H|simp only[nS] at H);have Tg:(a0 / 2 ^ min (EP).toNat 64)=vK:=nS;have hji9z:(EP)≤64→(a0 / 2 ^ (EP).toNat)=vK:=shr_small nS;have H':=Z_ H;clear H;go_wp2;go_meet
      case rel=>exact⟨_,(((vK) !=0)),(by first|rfl|(simp;done)|(simp only[←nS]<;>(first|rfl|simp))|(simp[*];done)),H',⟨L_⟩,⟨B_⟩⟩
     ·rw[if_neg c8] at H;exact absurd H (by simp)
 case rest=>
  clear nI
  try clear p2
  try clear c4
  try clear c4b0
  try clear c5
  try clear c5b0
  try clear c6
  try clear c6b0
  try clear p6
  try clear c8
  try clear c8b0
  try clear c8b1
  obtain⟨kq,uz,rfl,HA,HJ2,HB⟩:=hcut
  cases kq with
  |zero=>exact absurd HA.out (by simp[field_Put.j0])
  |succ rZ=>
   have H:=HA.out;clear HA;simp only[field_Put.j0] at H
   by_cases c10:uz=true
   ·subst c10;rw[if_pos rfl] at H;simp only[Option.some.injEq,Prod.mk.injEq] at H;obtain⟨rfl,rfl⟩:=H;go_wp2;go_ret2;exact⟨E_,B_⟩
   ·replace c10:=Bool.eq_false_iff.mpr c10;subst c10;rw[if_neg (show ¬(false=true) by decide)] at H
    by_cases c11:0≤a1
    ·rw[if_pos c11] at H;have c11b0:=eq_true c11;have c11b1:=dt_ c11;clear c11
     by_cases c12:(a1:Int).toNat≤281474976710656
     ·rw[if_pos c12] at H;have c12b0:=eq_true c12;have c12b1:=dt_ c12;(try simp only[nC_] at c12b1);clear c12;obtain⟨y101,hy101⟩:∃y_:List Int,y_=(List.replicate (a1:Int).toNat 0):=⟨_,rfl⟩;replace H:(field_Put.l0 rZ a0 y101 (y101.length:Int) 0)=some (r1,r2):=by first|(rw[hy101];with_reducible exact H)|(have bS:=(bs_ _ _).symm.trans H;rw[hy101];with_reducible exact bS)|(have bS:=(bs_ _ _).symm.trans H;with_reducible exact bS)|with_reducible exact H|(rw[hy101];exact H)|exact H
      have BH:=Z_ hy101;clear hy101;have H':=Z_ H;clear H
      go_wp2_with (first|((with_reducible refine gate_dst (N:=26) rfl ?_);refine Kd.R_make (Kd.int .u8) _ 5 rfl (N:=26) rfl 27 _ _ rfl a1 rfl rfl Tryz.underlying27 (.int .u8 0) 1 info5 rfl (by decide) (by omega) 0 (ok:=fun _=>True) (okp:=fun _=>True) rfl (fun _ hk=>hk) trivial (od_ A_) (Nat.le_trans (Nat.mul_le_mul_right _ (od_ A_:a1.toNat≤281474976710656)) (by omega)) (Below.refl _ _) (Nat.le_refl _) ?_;intro Vx ER xN hb hg_ hnew_;clear hg_ hnew_;(first|rw[←BH.out] at xN|(simp only[Int.reduceToNat] at xN;rw[←BH.out] at xN));have BI:=Z_ (Kd.R_lower xN (below_size B_));replace HB:=Hb_ hb;clear hb xN;obtain⟨Gf,C8,C9⟩:=Kd.R_slice BI.out;subst C9))
      go_loopg [29] rZ (fun kq v29 w'=>∃(dn:List Int) (fO:Int),v29= .int .i64 fO∧Aside0 (field_Put.l0 kq a0 dn (y101.length:Int) fO=some (r1,r2))∧Aside0 (kq≤rZ)∧Aside0 (Kd.R (Kd.int .u8) 5 w' w.heap.size (fun _=>True) (.slice Gf y101.length C8) dn)∧Aside0 (Below w.heap.size w w'))
      case atStart=>exact⟨(y101),(0),(E1_),H',⟨Nat.le_refl _⟩,⟨R_ BI⟩,⟨B_⟩⟩
      case round=>
       clear H'
       try clear c1
       try clear p2
       try clear c4
       try clear c4b0
       try clear c5
       try clear c5b0
       try clear c6
       try clear c6b0
       try clear p6
       try clear c8
       try clear c8b0
       try clear c8b1
       try clear c10
       try clear c11
       try clear c11b0
       try clear c11b1
       try clear c12
       try clear c12b0
       try clear c12b1
       try clear p2
       try clear p6
       obtain⟨dn,fO,rfl,HA,iq,HO_6,HB⟩:=hrel;have jB:=(Kd.R_reads' HO_6.out).1;rw[jB] at HO_6;(try simp only[jB])
       cases gk with
       |zero=>exact absurd HA.out (by simp[field_Put.l0])
       |succ k2=>
        have H:=HA.out;clear HA;simp only[field_Put.l0] at H
        by_cases c16:fO<(y101.length:Int)
        ·rw[if_pos c16] at H;have c16b0:=dt_ c16;(first|(have c16b0x_:=c16b0;rw[jB] at c16b0x_)|(have c16b0x_:=c16b0;rw[←jB] at c16b0x_)|skip);clear c16;obtain⟨vQ,xO⟩:∃j_:Int,(wrap64 (8*fO))=j_:=⟨_,rfl⟩;(first|rw[xO] at H|simp only[xO] at H);have hji17w:(IntKind.i64.wrap (8*fO))=vQ:=(i64_w _).trans xO
         by_cases c18:0≤(vQ)
         ·rw[if_pos c18] at H;have c18b0:=eq_true c18;have c18b1:=dt_ c18;clear c18;obtain⟨xP,uA⟩:∃j_:Int,(shr .i64 a0 (vQ))=j_:=⟨_,rfl⟩;(first|rw[uA] at H|simp only[uA] at H);have Qy:(a0 / 2 ^ min (vQ).toNat 64)=xP:=uA;have hji19z:(vQ)≤64→(a0 / 2 ^ (vQ).toNat)=xP:=shr_small uA
          by_cases c20:0≤fO
          ·rw[if_pos c20] at H;have c20b0:=dt_ c20;clear c20
           by_cases c21:fO<(dn.length:Int)
           ·rw[if_pos c21] at H;have c21b0:=dt_ c21;(first|(have c21b0x_:=c21b0;rw[jB] at c21b0x_)|(have c21b0x_:=c21b0;rw[←jB] at c21b0x_)|skip);clear c21;obtain⟨y104,hy104⟩:∃y_:List Int,y_=(dn.set (fO:Int).toNat ((xP)%256)):=⟨_,rfl⟩;replace H:(field_Put.l0 k2 a0 y104 (y101.length:Int) (wrap64 (fO+1)))=some (r1,r2):=by first|(rw[hy104];with_reducible exact H)|(have bS:=(bs_ _ _).symm.trans H;rw[hy104];with_reducible exact bS)|(have bS:=(bs_ _ _).symm.trans H;with_reducible exact bS)|with_reducible exact H|(rw[hy104];exact H)|exact H
            have GQ:=Z_ hy104;clear hy104;have H':=Z_ H;clear H;have Qz:0≤(fO:Int):=od_ A_;have q22:(fO:Int)<((dn.length:Int):Int):=od_ A_;obtain⟨Dw,Dx,Af,GR,QA,Vy,GU⟩:=Kd.R_form HO_6.out (by omega);(first|cases Af|(injection Af with ea_ en_ ec_;(first|subst ea_|(injection ea_ with ea_;subst ea_));subst ec_;clear en_));have QB:=Z_ GR;have Vz:=Z_ GU;clear GR QA GU;obtain⟨QC,QD⟩:=Kd.R_celln 0 HO_6.out (fO:Int) Qz q22;replace Qz:=eq_true Qz;replace q22:=eq_true q22;have Dy:=Kd.R_putg HO_6.out (fO:Int) ((xP)%256)
            go_wp2_with (first|((with_reducible refine gate_store (t:=5) (p:=39) rfl ?_);refine store_event (t:=5) (p:=39) (v:=?vo_w24) (w1:=(wr.setCell ⟨Dw,(fO:Int).toNat,none⟩ (.int .u8 ((xP)%256)))) ?hg ?ho ?hn ?hr ?_;(case ho=>rfl);(case hg=>rfl);(case hn=>rfl);(case hr=>first|(go_simp;done)|(go_simp;rfl));intro tV hw;have hg:wr.grownBy tV (some Dw):=(by rw[hw];exact Dy.2);have hp_:Kd.R (Kd.int .u8) 5 tV w.heap.size (fun _=>True) (.slice (some ⟨Dw,0,none⟩) dn.length C8) y104:=(by rw[hw,GQ.out];exact Dy.1);clear Dy;replace HO_6:=Z_ (hp_);replace HB:=Z_ ((by rw[hw];exact below_set (HB.out) QB.out:Below w.heap.size w tV));clear hg hw hp_))
            (try simp only[←jB])
            go_roundg k2
            case measure=>have:=HJ2.out;have:=iq.out;omega
            case rel=>exact⟨(y104),(wrap64 (fO+1)),(E1_),H',⟨by have:=HJ2.out;have:=iq.out;omega⟩,⟨by(try simp only[jB]);(with_reducible repeat (first|apply Kd.R_alloc|apply Kd.R_drewN|apply Kd.R_drew));exact HO_6.out⟩,⟨B_⟩⟩
           ·rw[if_neg c21] at H;exact absurd H (by simp)
          ·rw[if_neg c20] at H;exact absurd H (by simp)
         ·rw[if_neg c18] at H;exact absurd H (by simp)
        ·rw[if_neg c16] at H;have c16b0:=df_ c16;(first|(have c16b0x_:=c16b0;rw[jB] at c16b0x_)|(have c16b0x_:=c16b0;rw[←jB] at c16b0x_)|skip);clear c16;simp only[Option.some.injEq,Prod.mk.injEq] at H;obtain⟨rfl,rfl⟩:=H;have Ti:=own_string (P:=Tryz.prog) Tryz.underlying27 Tryz.underlying5 Tryz.underlying9 (Kd.own_of_R HO_6.out);go_wp2;go_ret2;exact⟨E_,B_⟩
     ·rw[if_neg c12] at H;exact absurd H (by simp)
    ·rw[if_neg c11] at H;exact absurd H (by simp)
mutual
def pcm_Put.j0:Nat→List (List Int)→Bool→Int→Int→Option (ByteArray×Int)
 |0,_,_,_,_=>none
 |k+1,x0,VA,bX,dH=>if VA=true then(some ((⟨#[]⟩:ByteArray),1900)) else(if 0≤(wrap64 (dH - 1)) then(if 0<(x0.length:Int) then(pcm_Put.l0 k x0 (shl .i64 1 (wrap64 (dH - 1))) ([]:List Int) ((rd_L2 x0 0).length:Int) 0 bX dH) else(none)) else(none))
def pcm_Put.l0:Nat→List (List Int)→Int→List Int→Int→Int→Int→Int→Option (ByteArray×Int)
 |0,_,_,_,_,_,_,_=>none
 |k+1,x0,x6,x7,xQ,ES,bX,dH=>if ES<xQ then(pcm_Put.l1 k x0 x6 x7 ES xQ ES x0 (x0.length:Int) 0 bX dH) else(some (strOfNums x7,0))
def pcm_Put.l1:Nat→List (List Int)→Int→List Int→Int→Int→Int→List (List Int)→Int→Int→Int→Int→Option (ByteArray×Int)
 |0,_,_,_,_,_,_,_,_,_,_,_=>none
 |k+1,x0,x6,x7,x8,xQ,ES,ET,Ku,xR,bX,dH=>if xR<Ku then(if 0≤xR then(if xR<(ET.length:Int) then(if 0≤x8 then(if x8<((rd_L2 ET xR).length:Int) then(if(rd (rd_L2 ET xR) x8)<(wrap64 (-x6)) then(some ((⟨#[]⟩:ByteArray),1900)) else(if(rd (rd_L2 ET xR) x8)≥x6 then(some ((⟨#[]⟩:ByteArray),1900)) else((pcm_bytes.f (rd (rd_L2 ET xR) x8) dH).bind fun t116=>(if x7.length+t116.length<140737488355328 then(pcm_Put.l1 k x0 x6 (x7++t116) x8 xQ ES ET Ku (wrap64 (xR+1)) bX dH) else(none))))) else(none)) else(none)) else(none)) else(none)) else(pcm_Put.l0 k x0 x6 x7 xQ (wrap64 (ES+1)) bX dH)
end
def pcm_Put.f(k:Nat)(l0:List (List Int))(av:Int)(aA:Int):Option (ByteArray×Int):=(pcm_May.f av aA).bind fun ag=>(if ag=true then(if(l0.length:Int)=av then(if 0<(l0.length:Int) then((pcm_Frame.f av aA).bind fun aM=>(if aM=0 then(none) else(if((rd_L2 l0 0).length:Int)>(wrap64 ((4096:Int) / aM)) then(pcm_Put.j0 k l0 true av aA) else(if 0≤(wrap64 (av - 1)) then(if(wrap64 (av - 1))<(l0.length:Int) then(pcm_Put.j0 k l0 (((rd_L2 l0 (wrap64 (av - 1))).length:Int) !=((rd_L2 l0 0).length:Int)) av aA) else(none)) else(none))))) else(none)) else(pcm_Put.j0 k l0 true av aA)) else(pcm_Put.j0 k l0 true av aA))
def pcm_Put.T1:Bool×List (List Nat×List Nat):=(true,[([],[]),([0],[0]),([1],[1]),([2,1],[2]),([3],[3]),([4,3],[3,4]),([3],[3]),([6,3],[3,6]),([5,7,3],[3,5,7]),([3,8],[3,8]),([9,3],[9]),([10],[10]),([11,10],[10,11]),([12,10],[10,12]),([13,10],[10,13]),([10],[10]),([15,10,10],[10,15]),([16,10],[10,16]),([14,17,10],[10,14,17]),([10,18],[10,18]),([19,16],[19]),([20],[20]),([20],[20]),([22,20],[20,22]),([23,20],[20,23]),([21,24,20],[20,21,24]),([25,20],[20,25]),([26,20],[20,26]),([20],[20]),([28,20],[20,28]),([29,20],[20,29]),([30,20],[20,30]),([27,31,20],[20,27,31]),([20,32],[20,32])])
def pcm_Put.B1:List Nat:= [0,1,3,7,15,31,15,79,255,511,1023,2047,4095,8191,16383,2047,34815,100351,262143,524287,1048575,2097151,2097151,6291455,14680063,33554431,67108863,134217727,2097151,270532607,807403519,1881145343,4294967295,8589934591]
theorem pcm_Put.tab1:rtab .any (opsOf Tryz.f124 1)=pcm_Put.T1:=by kernel_rfl
theorem pcm_Put.bits1:waitsOk pcm_Put.T1.2 pcm_Put.B1=true:=by kernel_rfl
def pcm_Put.T13:Bool×List (List Nat×List Nat):=(true,[([],[]),([],[]),([],[]),([1,2],[1,2]),([3],[3]),([],[]),([5],[5]),([4,6],[4,6]),([0,7,7],[0,7]),([8,8,0,1,2,3,4,5,6,7,8],[0,8])])
def pcm_Put.B13:List Nat:= [0,0,0,6,14,0,32,126,255,511]
theorem pcm_Put.tab13:rtab .any (opsOf Tryz.f124 13)=pcm_Put.T13:=by kernel_rfl
theorem pcm_Put.bits13:waitsOk pcm_Put.T13.2 pcm_Put.B13=true:=by kernel_rfl
theorem pcm_Put.calls(k:Nat)(A0:Option Addr)(c0:Nat)(l0:List (List Int))(av:Int)(aA:Int)(r1:ByteArray)(r2:Int)(w:World)(hr0:Kd.C (Kd.slice 3 (Kd.int .i64)) w A0 l0.length l0)(hc0:l0.length≤c0)(h:pcm_Put.f k l0 av aA=some (r1,r2)):
  Calls Tryz.prog 124 #[.slice A0 l0.length c0,.agg #[.int .i64 av,.int .i64 aA]] w fun e w'=>e= .returned (.tuple #[.string r1,.int .i64 r2])∧Below w.heap.size w w':=by
 have fH:=Tryz.underlying23;have cO:=Z_ hr0;have mY:=Z_ hc0;clear hr0 hc0;have HB:=Z_ (Below.refl w.heap.size w);have H:((pcm_May.f av aA).bind fun ag=>(if ag=true then(if(l0.length:Int)=av then(if 0<(l0.length:Int) then((pcm_Frame.f av aA).bind fun aM=>(if aM=0 then(none) else(if((rd_L2 l0 0).length:Int)>(wrap64 ((4096:Int) / aM)) then(pcm_Put.j0 k l0 true av aA) else(if 0≤(wrap64 (av - 1)) then(if(wrap64 (av - 1))<(l0.length:Int) then(pcm_Put.j0 k l0 (((rd_L2 l0 (wrap64 (av - 1))).length:Int) !=((rd_L2 l0 0).length:Int)) av aA) else(none)) else(none))))) else(none)) else(pcm_Put.j0 k l0 true av aA)) else(pcm_Put.j0 k l0 true av aA)))=some (r1,r2):=h;clear h;have nI:=Z_ H;clear H
 go_enter Tryz.func124,Tryz.ntmps124
 go_upto_region 1 with (first|((try (refine gate_guard (by rfl) ?_;dsimp only));refine X_ 3 #[.int .i64 av,.int .i64 aA] 23 ?_;intro fe hg w4 hbox hb;have aj:=Z_ (hbox);have wo:=Z_ (G2_ hg:w.heap.size≤_);have E9:=wo;replace HB:=Hb_ hb;clear hb hbox hg))
 (try simp only[Act.put,List.setIfInBounds_toArray,List.set_cons_zero,List.set_cons_succ])
 go_cut [44] (fun v44 wc=>∃(kq:Nat) (uB:Bool),v44= .bool uB∧Aside0 (pcm_Put.j0 kq l0 uB av aA=some (r1,r2))∧Aside0 (kq≤k)∧Aside0 (wc.heap[fe]?=some (.cells #[.int .i64 av,.int .i64 aA] 23 (0,0)))∧Aside0 (Below w.heap.size w wc))
 case first=>
  have H:=nI.out;clear nI;replace H:=Ob_ H;obtain⟨ag,jR,H⟩:=H;(try dsimp only at H);have A5:=Z_ jR;clear jR
  by_cases c6:ag=true
  ·subst c6;rw[if_pos rfl] at H
   by_cases c7:(l0.length:Int)=av
   ·rw[if_pos c7] at H;have c7b0:((l0.length:Int)==av)=true:=beq_iff_eq.mpr c7;have c7b1:((l0.length:Int) !=av)=false:=bne_eq_false_iff_eq.mpr c7;clear c7;(first|rw[c7b0]|(simp only[i64_w,i32_w];rw[c7b0])|skip)
    by_cases c8:0<(l0.length:Int)
    ·rw[if_pos c8] at H;have c8b0:=dt_ c8;have c8b1:decide (0<l0.length)=true:=dt_ (by omega);clear c8;replace H:=Ob_ H;obtain⟨aM,Bp,H⟩:=H;(try dsimp only at H);have A9:=Z_ Bp;clear Bp
     by_cases c10:aM=0
     ·rw[if_pos c10] at H;exact absurd H (by simp)
     ·rw[if_neg c10] at H;have c10b0:(aM==0)=false:=beq_eq_false_iff_ne.mpr c10;have c10b1:(aM !=0)=true:=bne_iff_ne.mpr c10
      by_cases c11:((rd_L2 l0 0).length:Int)>(wrap64 ((4096:Int) / aM))
      ·rw[if_pos c11] at H;have c11b0:decide ((wrap64 ((4096:Int) / aM))<((rd_L2 l0 0).length:Int))=true:=dt_ c11;have c11db0:=c11b0;rw[←Int.tdiv_eq_ediv_of_nonneg (show(0:Int)≤4096 by decide)] at c11db0;clear c11;have H':=Z_ H;clear H
       try go_wp2
       replace aj:=Z_ (blk_drew aj.out);replace HB:=Z_ (below_drew1 HB.out);have rE:0≤(0:Int):=(by omega);have rF:0<(l0.length:Int):=od_ A_;obtain⟨mF,rG,rH,Dz,ed,ek,kv⟩:=at_L2 cO.out 0 rE rF;have eu:=ed;(try rw[show((0:Int)).toNat=0 from rfl] at eu);(try rw[show 0*1=0 from rfl] at eu);(try rw[Addr.add_zero'] at eu)
       cases Dz
       have GV:(0<l0.length)=True:=eq_true (by omega);(try rw[show((0:Int)).toNat=0 from rfl] at ed);(try rw[Addr.add_zero'] at ed);replace ed:=Hc_ HB.out ed;have oq:=Z_ kv;have Ag:=Z_ ek;clear kv ek;replace rE:=eq_true rE;replace rF:=eq_true rF;refine start_ (n:=34) (S:=fun w'=>w'.cell? ⟨fe,0,none⟩=some (.int .i64 av)∧w'.cell? ⟨fe,1,none⟩=some (.int .i64 aA)∧w'.cell? mF=some (.slice rG (rd_L2 l0 0).length rH)) (ds:= []) #[false,false,false,false,false,false,false,false,false,false,false,false,false,false,false,false,false,false,false,false,false,false,false,false,false,false,false,false,false,false,false,false,false,false] (by kernel_rfl) rfl rfl ⟨(blk_cell aj.out 0).trans rfl,(blk_cell aj.out 1).trans rfl,(Hc_ HB.out eu)⟩ (fun hHeld=>?_);refine with_tabW pcm_Put.tab1 pcm_Put.bits1 (fun HT_ HW_=>?_);generalize w4.drew=w12 at aj HB oq ed hHeld ⊢;refine T_ 0 11 (y:=by rintro w' ⟨s0,s1,s2⟩;go_simp;with_reducible rfl) (h:=?_);refine O_ 1 12 fun K hK=>?_
       refine g_ Tryz.func62 #[.agg #[.int .i64 av,.int .i64 aA]] ?_
       with_reducible refine(pcm_May.calls av aA true _ A5.out).mono ?_
       rintro e ER ⟨rfl,hb⟩;refine⟨_,rfl,?_⟩;replace aj:=Z_ (blk_below (K_ aj) hb);replace HB:=Hb_ hb;(try clear hb);(try clear hb2);(try clear hk);(try clear hi);refine hK.out _ _ ⟨(blk_cell aj.out 0).trans rfl,(blk_cell aj.out 1).trans rfl,(Hc_ HB.out eu)⟩ (fun hHeld=>?_);clear hK K;refine Nm_ 12 ?_;refine P_ 2 13 ?_;refine P_ 3 14 ?_;refine P_ 4 15 ?_;refine P_ 5 16 ?_;refine P_ 6 17 ?_;refine T_ 7 18 (y:=by rintro w' ⟨s0,s1,s2⟩;go_simp;with_reducible rfl) (h:=?_);refine P_ 8 19 ?_;refine P_ 9 20 ?_;refine P_ 10 21 ?_;refine P_ 11 22 ?_;refine P_ 12 23 ?_;refine T_ 13 24 (y:=by rintro w' ⟨s0,s1,s2⟩;go_simp;with_reducible rfl) (h:=?_);refine P_ 14 25 ?_;refine T_ 15 26 (y:=by rintro w' ⟨s0,s1,s2⟩;go_simp;with_reducible rfl) (h:=?_);refine O_ 16 27 fun K hK=>?_
       refine g_ Tryz.func29 #[.agg #[.int .i64 av,.int .i64 aA]] ?_
       with_reducible refine(pcm_Frame.calls av aA aM _ A9.out).mono ?_
       rintro e yN ⟨rfl,hb⟩;refine⟨_,rfl,?_⟩;replace aj:=Z_ (blk_below (K_ aj) hb);replace HB:=Hb_ hb;(try clear hb);(try clear hb2);(try clear hk);(try clear hi);refine hK.out _ _ ⟨(blk_cell aj.out 0).trans rfl,(blk_cell aj.out 1).trans rfl,(Hc_ HB.out eu)⟩ (fun hHeld=>?_);clear hK K;refine Nm_ 27 ?_;refine P_ 17 28 ?_;refine P_ 18 29 ?_;refine P_ 19 30 ?_;refine P_ 20 31 ?_;refine U_ 21 32 ?_;refine U_ 22 33 ?_;refine U_ 23 34 ?_;refine U_ 24 35 ?_;refine U_ 25 36 ?_;refine U_ 26 37 ?_;refine U_ 27 38 ?_;refine U_ 28 39 ?_;refine U_ 29 40 ?_;refine U_ 30 41 ?_;refine U_ 31 42 ?_;refine U_ 32 43 ?_;refine P_ 33 44 ?_;refine done_ (done_of HT_.out (by kernel_rfl)) ?_
       try go_wp2
       go_meet
       case rel=>exact⟨_,(true),(E1_),H',⟨L_⟩,⟨(K_ aj)⟩,⟨B_⟩⟩
      ·rw[if_neg c11] at H;have c11b0:decide ((wrap64 ((4096:Int) / aM))<((rd_L2 l0 0).length:Int))=false:=df_ c11;have c11db0:=c11b0;rw[←Int.tdiv_eq_ediv_of_nonneg (show(0:Int)≤4096 by decide)] at c11db0;clear c11;obtain⟨jK,jg⟩:∃j_:Int,(wrap64 (av - 1))=j_:=⟨_,rfl⟩;(first|rw[jg] at H|simp only[jg] at H);(try rw[jg] at A5);(try rw[jg] at A9);have hji15w:(IntKind.i64.wrap (av - 1))=jK:=(i64_w _).trans jg
       by_cases c16:0≤(jK)
       ·rw[if_pos c16] at H;have c16b0:=dt_ c16;clear c16
        by_cases c17:(jK)<(l0.length:Int)
        ·rw[if_pos c17] at H;have c17b0:=dt_ c17;clear c17;have H':=Z_ H;clear H
         try go_wp2
         replace aj:=Z_ (blk_drew aj.out);replace HB:=Z_ (below_drew1 HB.out);have rE:0≤(0:Int):=(by omega);have rF:0<(l0.length:Int):=od_ A_;obtain⟨mF,rG,rH,Dz,ed,ek,kv⟩:=at_L2 cO.out 0 rE rF;have eu:=ed;(try rw[show((0:Int)).toNat=0 from rfl] at eu);(try rw[show 0*1=0 from rfl] at eu);(try rw[Addr.add_zero'] at eu)
         cases Dz
         have GV:(0<l0.length)=True:=eq_true (by omega);(try rw[show((0:Int)).toNat=0 from rfl] at ed);(try rw[Addr.add_zero'] at ed);replace ed:=Hc_ HB.out ed;have oq:=Z_ kv;have Ag:=Z_ ek;clear kv ek;replace rE:=eq_true rE;replace rF:=eq_true rF;have DC:0≤((jK):Int):=od_ A_;have DD:(jK)<(l0.length:Int):=od_ A_;obtain⟨GX,DF,DI,e109,lQ,fA,uC⟩:=at_L2 cO.out (jK) DC DD;have ou:=lQ;obtain rfl:mF=GX:=(by injection e109);replace lQ:=Hc_ HB.out lQ;have Ah:=Z_ uC;have Kv:=Z_ fA;clear uC fA;replace DC:=eq_true DC;replace DD:=eq_true DD;have lm:0≤(0:Int):=(by omega);have lq:0<(l0.length:Int):=od_ A_;obtain⟨pV,rJ,rM,xS,eT,bM,kw⟩:=at_L2 cO.out 0 lm lq;have jl:=eT;(try rw[show((0:Int)).toNat=0 from rfl] at jl);(try rw[show 0*1=0 from rfl] at jl);(try rw[Addr.add_zero'] at jl);obtain rfl:mF=pV:=(by injection xS);have Tj:(0<l0.length)=True:=eq_true (by omega);(try rw[show((0:Int)).toNat=0 from rfl] at eT);(try rw[Addr.add_zero'] at eT);replace eT:=Hc_ HB.out eT;have ow:=Z_ kw;have uD:=Z_ bM;clear kw bM;replace lm:=eq_true lm;replace lq:=eq_true lq;refine start_ (n:=34) (S:=fun w'=>w'.cell? ⟨fe,0,none⟩=some (.int .i64 av)∧w'.cell? ⟨fe,1,none⟩=some (.int .i64 aA)∧w'.cell? mF=some (.slice rG (rd_L2 l0 0).length rH)∧w'.cell? (mF.add ((jK)).toNat)=some (.slice DF (rd_L2 l0 (jK)).length DI)∧w'.cell? mF=some (.slice rJ (rd_L2 l0 0).length rM)) (ds:= []) #[false,false,false,false,false,false,false,false,false,false,false,false,false,false,false,false,false,false,false,false,false,false,false,false,false,false,false,false,false,false,false,false,false,false] (by kernel_rfl) rfl rfl ⟨(blk_cell aj.out 0).trans rfl,(blk_cell aj.out 1).trans rfl,(Hc_ HB.out eu),(Hc_ HB.out ou),(Hc_ HB.out jl)⟩ (fun hHeld=>?_);refine with_tabW pcm_Put.tab1 pcm_Put.bits1 (fun HT_ HW_=>?_);generalize w4.drew=EJ at aj HB oq Ah ow ed lQ eT hHeld ⊢;refine T_ 0 11 (y:=by rintro w' ⟨s0,s1,s2,s3,s4⟩;go_simp;with_reducible rfl) (h:=?_);refine O_ 1 12 fun K hK=>?_
         refine g_ Tryz.func62 #[.agg #[.int .i64 av,.int .i64 aA]] ?_
         with_reducible refine(pcm_May.calls av aA true _ A5.out).mono ?_
         rintro e VB ⟨rfl,hb⟩;refine⟨_,rfl,?_⟩;replace aj:=Z_ (blk_below (K_ aj) hb);replace HB:=Hb_ hb;(try clear hb);(try clear hb2);(try clear hk);(try clear hi);refine hK.out _ _ ⟨(blk_cell aj.out 0).trans rfl,(blk_cell aj.out 1).trans rfl,(Hc_ HB.out eu),(Hc_ HB.out ou),(Hc_ HB.out jl)⟩ (fun hHeld=>?_);clear hK K;refine Nm_ 12 ?_;refine P_ 2 13 ?_;refine P_ 3 14 ?_;refine P_ 4 15 ?_;refine P_ 5 16 ?_;refine P_ 6 17 ?_;refine T_ 7 18 (y:=by rintro w' ⟨s0,s1,s2,s3,s4⟩;go_simp;with_reducible rfl) (h:=?_);refine P_ 8 19 ?_;refine P_ 9 20 ?_;refine P_ 10 21 ?_;refine P_ 11 22 ?_;refine P_ 12 23 ?_;refine T_ 13 24 (y:=by rintro w' ⟨s0,s1,s2,s3,s4⟩;go_simp;with_reducible rfl) (h:=?_);refine P_ 14 25 ?_;refine T_ 15 26 (y:=by rintro w' ⟨s0,s1,s2,s3,s4⟩;go_simp;with_reducible rfl) (h:=?_);refine O_ 16 27 fun K hK=>?_
         refine g_ Tryz.func29 #[.agg #[.int .i64 av,.int .i64 aA]] ?_
         with_reducible refine(pcm_Frame.calls av aA aM _ A9.out).mono ?_
         rintro e nY ⟨rfl,hb⟩;refine⟨_,rfl,?_⟩;replace aj:=Z_ (blk_below (K_ aj) hb);replace HB:=Hb_ hb;(try clear hb);(try clear hb2);(try clear hk);(try clear hi);refine hK.out _ _ ⟨(blk_cell aj.out 0).trans rfl,(blk_cell aj.out 1).trans rfl,(Hc_ HB.out eu),(Hc_ HB.out ou),(Hc_ HB.out jl)⟩ (fun hHeld=>?_);clear hK K;refine Nm_ 27 ?_;refine P_ 17 28 ?_;refine P_ 18 29 ?_;refine P_ 19 30 ?_;refine P_ 20 31 ?_;refine P_ 21 32 ?_;refine P_ 22 33 ?_;refine P_ 28 39 ?_;refine P_ 29 40 ?_;refine T_ 23 34 (y:=by rintro w' ⟨s0,s1,s2,s3,s4⟩;go_simp;with_reducible rfl) (h:=?_);refine P_ 24 35 ?_;refine P_ 25 36 ?_;refine T_ 26 37 (y:=by rintro w' ⟨s0,s1,s2,s3,s4⟩;go_simp;with_reducible rfl) (h:=?_);refine P_ 27 38 ?_;refine T_ 30 41 (y:=by rintro w' ⟨s0,s1,s2,s3,s4⟩;go_simp;with_reducible rfl) (h:=?_);refine P_ 31 42 ?_;refine P_ 32 43 ?_;refine P_ 33 44 ?_;refine done_ (done_of HT_.out (by kernel_rfl)) ?_
         try go_wp2
         go_meet
         case rel=>exact⟨_,((((rd_L2 l0 (jK)).length:Int) !=((rd_L2 l0 0).length:Int))),(by first|rfl|(simp;done)|(simp only[←jg]<;>(first|rfl|simp))|(simp[*];done)),H',⟨L_⟩,⟨(K_ aj)⟩,⟨B_⟩⟩
        ·rw[if_neg c17] at H;exact absurd H (by simp)
       ·rw[if_neg c16] at H;exact absurd H (by simp)
    ·rw[if_neg c8] at H;exact absurd H (by simp)
   ·rw[if_neg c7] at H;have c7b0:((l0.length:Int)==av)=false:=beq_eq_false_iff_ne.mpr c7;have c7b1:((l0.length:Int) !=av)=true:=bne_iff_ne.mpr c7;(first|rw[c7b0]|(simp only[i64_w,i32_w];rw[c7b0])|skip);have H':=Z_ H;clear H
    try go_wp2
    replace aj:=Z_ (blk_drew aj.out);replace HB:=Z_ (below_drew1 HB.out);refine start_ (n:=34) (S:=fun w'=>w'.cell? ⟨fe,0,none⟩=some (.int .i64 av)∧w'.cell? ⟨fe,1,none⟩=some (.int .i64 aA)) (ds:= []) #[false,false,false,false,false,false,false,false,false,false,false,false,false,false,false,false,false,false,false,false,false,false,false,false,false,false,false,false,false,false,false,false,false,false] (by kernel_rfl) rfl rfl ⟨(blk_cell aj.out 0).trans rfl,(blk_cell aj.out 1).trans rfl⟩ (fun hHeld=>?_);refine with_tabW pcm_Put.tab1 pcm_Put.bits1 (fun HT_ HW_=>?_);generalize w4.drew=yM at aj HB hHeld ⊢;refine T_ 0 11 (y:=by rintro w' ⟨s0,s1⟩;go_simp;with_reducible rfl) (h:=?_);refine O_ 1 12 fun K hK=>?_
    refine g_ Tryz.func62 #[.agg #[.int .i64 av,.int .i64 aA]] ?_
    with_reducible refine(pcm_May.calls av aA true _ A5.out).mono ?_
    rintro e zS ⟨rfl,hb⟩;refine⟨_,rfl,?_⟩;replace aj:=Z_ (blk_below (K_ aj) hb);replace HB:=Hb_ hb;(try clear hb);(try clear hb2);(try clear hk);(try clear hi);refine hK.out _ _ ⟨(blk_cell aj.out 0).trans rfl,(blk_cell aj.out 1).trans rfl⟩ (fun hHeld=>?_);clear hK K;refine Nm_ 12 ?_;refine P_ 2 13 ?_;refine P_ 3 14 ?_;refine P_ 4 15 ?_;refine P_ 5 16 ?_;refine P_ 6 17 ?_;refine T_ 7 18 (y:=by rintro w' ⟨s0,s1⟩;go_simp;with_reducible rfl) (h:=?_);refine P_ 8 19 ?_;refine P_ 9 20 ?_;refine P_ 10 21 ?_;refine U_ 11 22 ?_;refine U_ 12 23 ?_;refine U_ 13 24 ?_;refine U_ 14 25 ?_;refine U_ 15 26 ?_;refine U_ 16 27 ?_;refine U_ 17 28 ?_;refine U_ 18 29 ?_;refine P_ 19 30 ?_;refine P_ 20 31 ?_;refine U_ 21 32 ?_;refine U_ 22 33 ?_;refine U_ 23 34 ?_;refine U_ 24 35 ?_;refine U_ 25 36 ?_;refine U_ 26 37 ?_;refine U_ 27 38 ?_;refine U_ 28 39 ?_;refine U_ 29 40 ?_;refine U_ 30 41 ?_;refine U_ 31 42 ?_;refine U_ 32 43 ?_;refine P_ 33 44 ?_;refine done_ (done_of HT_.out (by kernel_rfl)) ?_
    try go_wp2
    go_meet
    case rel=>exact⟨_,(true),(E1_),H',⟨L_⟩,⟨(K_ aj)⟩,⟨B_⟩⟩
  ·replace c6:=Bool.eq_false_iff.mpr c6;subst c6;rw[if_neg (show ¬(false=true) by decide)] at H;have H':=Z_ H;clear H
   try go_wp2
   replace aj:=Z_ (blk_drew aj.out);replace HB:=Z_ (below_drew1 HB.out);refine start_ (n:=34) (S:=fun w'=>w'.cell? ⟨fe,0,none⟩=some (.int .i64 av)∧w'.cell? ⟨fe,1,none⟩=some (.int .i64 aA)) (ds:= []) #[false,false,false,false,false,false,false,false,false,false,false,false,false,false,false,false,false,false,false,false,false,false,false,false,false,false,false,false,false,false,false,false,false,false] (by kernel_rfl) rfl rfl ⟨(blk_cell aj.out 0).trans rfl,(blk_cell aj.out 1).trans rfl⟩ (fun hHeld=>?_);refine with_tabW pcm_Put.tab1 pcm_Put.bits1 (fun HT_ HW_=>?_);generalize w4.drew=Cu at aj HB hHeld ⊢;refine T_ 0 11 (y:=by rintro w' ⟨s0,s1⟩;go_simp;with_reducible rfl) (h:=?_);refine O_ 1 12 fun K hK=>?_
   refine g_ Tryz.func62 #[.agg #[.int .i64 av,.int .i64 aA]] ?_
   with_reducible refine(pcm_May.calls av aA false _ A5.out).mono ?_
   rintro e tV ⟨rfl,hb⟩;refine⟨_,rfl,?_⟩;replace aj:=Z_ (blk_below (K_ aj) hb);replace HB:=Hb_ hb;(try clear hb);(try clear hb2);(try clear hk);(try clear hi);refine hK.out _ _ ⟨(blk_cell aj.out 0).trans rfl,(blk_cell aj.out 1).trans rfl⟩ (fun hHeld=>?_);clear hK K;refine Nm_ 12 ?_;refine P_ 2 13 ?_;refine P_ 3 14 ?_;refine U_ 4 15 ?_;refine U_ 5 16 ?_;refine U_ 6 17 ?_;refine U_ 7 18 ?_;refine U_ 8 19 ?_;refine P_ 9 20 ?_;refine P_ 10 21 ?_;refine U_ 11 22 ?_;refine U_ 12 23 ?_;refine U_ 13 24 ?_;refine U_ 14 25 ?_;refine U_ 15 26 ?_;refine U_ 16 27 ?_;refine U_ 17 28 ?_;refine U_ 18 29 ?_;refine P_ 19 30 ?_;refine P_ 20 31 ?_;refine U_ 21 32 ?_;refine U_ 22 33 ?_;refine U_ 23 34 ?_;refine U_ 24 35 ?_;refine U_ 25 36 ?_;refine U_ 26 37 ?_;refine U_ 27 38 ?_;refine U_ 28 39 ?_;refine U_ 29 40 ?_;refine U_ 30 41 ?_;refine U_ 31 42 ?_;refine U_ 32 43 ?_;refine P_ 33 44 ?_;refine done_ (done_of HT_.out (by kernel_rfl)) ?_
   try go_wp2
   go_meet
   case rel=>exact⟨_,(true),(E1_),H',⟨L_⟩,⟨(K_ aj)⟩,⟨B_⟩⟩
 case rest=>
  clear nI
  try clear c1
  try clear p2
  try clear c6
  try clear c7
  try clear c7b0
  try clear c7b1
  try clear c8
  try clear c16
  try clear c17
  obtain⟨kq,uB,rfl,HA,HJ2,aj,HB⟩:=hcut
  cases kq with
  |zero=>exact absurd HA.out (by simp[pcm_Put.j0])
  |succ rZ=>
   have H:=HA.out;clear HA;simp only[pcm_Put.j0] at H
   by_cases qK:uB=true
   ·subst qK;rw[if_pos rfl] at H;simp only[Option.some.injEq,Prod.mk.injEq] at H;obtain⟨rfl,rfl⟩:=H;go_wp2;go_ret2;exact⟨E_,B_⟩
   ·replace qK:=Bool.eq_false_iff.mpr qK;subst qK;rw[if_neg (show ¬(false=true) by decide)] at H;obtain⟨lL,nG⟩:∃j_:Int,(wrap64 (aA - 1))=j_:=⟨_,rfl⟩;(first|rw[nG] at H|simp only[nG] at H);have hji26w:(IntKind.i64.wrap (aA - 1))=lL:=(i64_w _).trans nG
    by_cases jI:0≤(lL)
    ·rw[if_pos jI] at H;have c27b0:=eq_true jI;have c27b1:=dt_ jI;clear jI;obtain⟨dB,jA⟩:∃j_:Int,(shl .i64 1 (lL))=j_:=⟨_,rfl⟩;(first|rw[jA] at H|simp only[jA] at H);have xU:(IntKind.i64.wrap (1*2 ^ min (lL).toNat 64))=dB:=jA;have hji28z:(lL)≤64→(IntKind.i64.wrap (1*2 ^ (lL).toNat))=dB:=shl_small jA;have hji28u:(IntKind.i64.wrap (2 ^ min (lL).toNat 64))=dB:=by have h_:=xU;rw[Int.one_mul] at h_;exact h_
     have hji28v:(lL)≤64→(IntKind.i64.wrap (2 ^ (lL).toNat))=dB:=fun hle_=>by have h_:=hji28z hle_;rw[Int.one_mul] at h_;exact h_
     have hji28y:(wrap64 (1*2 ^ min (lL).toNat 64))=dB:=(i64_w _).symm.trans xU;have hji28x:(lL)≤64→(wrap64 (1*2 ^ (lL).toNat))=dB:=fun h_=>(i64_w _).symm.trans (hji28z h_)
     by_cases jS:0<(l0.length:Int)
     ·rw[if_pos jS] at H;have c29b0:=dt_ jS;(first|(have c29b0x_:=c29b0;rw[ek] at c29b0x_)|(have c29b0x_:=c29b0;rw[←ek] at c29b0x_)|(have c29b0x_:=c29b0;rw[fA] at c29b0x_)|(have c29b0x_:=c29b0;rw[←fA] at c29b0x_)|(have c29b0x_:=c29b0;rw[bM] at c29b0x_)|(have c29b0x_:=c29b0;rw[←bM] at c29b0x_)|skip);have c29b1:decide (0<l0.length)=true:=dt_ (by omega);clear jS;have H':=Z_ H;clear H;have uE:=cz_ aj 0;have uF:=cz_ aj 1;have uG:=fz_ aj 0;have uH:=fz_ aj 1;have gJ:0≤(0:Int):=(by omega);have gK:0<(l0.length:Int):=od_ A_;obtain⟨ak,nN,nO,nP,bR,fq,jT⟩:=at_L2 cO.out 0 gJ gK
      cases nP
      have Tk:(0<l0.length)=True:=eq_true (by omega);(try rw[show((0:Int)).toNat=0 from rfl] at bR);(try rw[Addr.add_zero'] at bR);replace bR:=Hc_ HB.out bR;have sJ:=Z_ jT;have yT:=Z_ fq;clear jT fq;replace gJ:=eq_true gJ;replace gK:=eq_true gK;go_wp2
      go_loopg [7,53] rZ (fun kq v7 v53 w'=>∃(eY:List Int) (bP:Int),v53= .int .i64 bP∧Aside0 (pcm_Put.l0 kq l0 dB eY ((rd_L2 l0 0).length:Int) bP av aA=some (r1,r2))∧Aside0 (kq≤rZ)∧Aside0 (Kd.R (Kd.int .u8) 5 w' w.heap.size (fun _=>True) v7 eY)∧Aside0 (w'.heap[fe]?=some (.cells #[.int .i64 av,.int .i64 aA] 23 (0,0)))∧Aside0 (Below w.heap.size w w'))
      case atStart=>exact⟨(([]:List Int)),(0),(E1_),H',⟨Nat.le_refl _⟩,⟨by first|exact Kd.R_nil _ _ _ _ _|exact Kd.N_nil _ _ _ _ _|exact Kd.V_nil _ _ _ _ _|exact Kd.Q_nil _ _ _ _ _|exact Kd.S_nil _ _ _ _ _⟩,⟨(K_ aj)⟩,⟨B_⟩⟩
      case round=>
       clear H'
       try clear c1
       try clear p1
       try clear q1
       try clear hx1
       try clear VC
       try clear c2
       try clear p2
       try clear c6
       try clear p6
       try clear c7
       try clear c7b0
       try clear c7b1
       try clear c8
       try clear c11
       try clear qD
       try clear qE
       try clear qW
       try clear QE
       try clear c16
       try clear c17
       try clear qK
       try clear jI
       try clear c27b0
       try clear c27b1
       try clear jS
       try clear c29b0
       try clear c29b1
       try clear uE
       try clear uF
       try clear uG
       try clear uH
       try clear bR
       try clear gJ
       try clear p2
       try clear gK
       obtain⟨eY,bP,rfl,HA,iq,HO_7,aj,HB⟩:=hrel
       cases gk with
       |zero=>exact absurd HA.out (by simp[pcm_Put.l0])
       |succ k2=>
        have H:=HA.out;clear HA;simp only[pcm_Put.l0] at H
        by_cases c31:bP<((rd_L2 l0 0).length:Int)
        ·rw[if_pos c31] at H;have c31b0:=dt_ c31;clear c31;have H':=Z_ H;clear H;go_wp2
         go_loopg [7,58] k2 (fun kq v7 v58 w'=>∃(rO:List Int) (cz:Int),v58= .int .i64 cz∧Aside0 (pcm_Put.l1 kq l0 dB rO bP ((rd_L2 l0 0).length:Int) bP l0 (l0.length:Int) cz av aA=some (r1,r2))∧Aside0 (kq≤k2)∧Aside0 (Kd.R (Kd.int .u8) 5 w' w.heap.size (fun _=>True) v7 rO)∧Aside0 (w'.heap[fe]?=some (.cells #[.int .i64 av,.int .i64 aA] 23 (0,0)))∧Aside0 (Below w.heap.size w w'))
         case atStart=>exact⟨(eY),(0),(E1_),H',⟨Nat.le_refl _⟩,⟨R_ HO_7⟩,⟨(K_ aj)⟩,⟨B_⟩⟩
         case round=>
          clear H'
          try clear c1
          try clear p1
          try clear q1
          try clear hx1
          try clear VC
          try clear c2
          try clear p2
          try clear c3
          try clear c6
          try clear p6
          try clear c7
          try clear c7b0
          try clear c7b1
          try clear c8
          try clear c11
          try clear qD
          try clear qE
          try clear qW
          try clear QE
          try clear c16
          try clear c17
          try clear qK
          try clear jI
          try clear c27b0
          try clear c27b1
          try clear jS
          try clear c29b0
          try clear c29b1
          try clear c31
          try clear c31b0
          try clear uE
          try clear uF
          try clear uG
          try clear uH
          try clear bR
          try clear p1
          try clear qD
          try clear gJ
          try clear p2
          try clear p6
          try clear q1
          try clear qE
          try clear gK
          obtain⟨rO,cz,rfl,HA,Kw,HO_7,aj,HB⟩:=hrel
          cases gk with
          |zero=>exact absurd HA.out (by simp[pcm_Put.l1])
          |succ k3=>
           have H:=HA.out;clear HA;simp only[pcm_Put.l1] at H
           by_cases c32:cz<(l0.length:Int)
           ·rw[if_pos c32] at H;have c32b0:=dt_ c32;(first|(have c32b0x_:=c32b0;rw[ek] at c32b0x_)|(have c32b0x_:=c32b0;rw[←ek] at c32b0x_)|(have c32b0x_:=c32b0;rw[fA] at c32b0x_)|(have c32b0x_:=c32b0;rw[←fA] at c32b0x_)|(have c32b0x_:=c32b0;rw[bM] at c32b0x_)|(have c32b0x_:=c32b0;rw[←bM] at c32b0x_)|(have c32b0x_:=c32b0;rw[fq] at c32b0x_)|(have c32b0x_:=c32b0;rw[←fq] at c32b0x_)|skip);clear c32
            by_cases yO:0≤cz
            ·rw[if_pos yO] at H;have c33b0:=dt_ yO;clear yO
             by_cases c34:cz<(l0.length:Int)
             ·rw[if_pos c34] at H;have c34b0:=dt_ c34;(first|(have c34b0x_:=c34b0;rw[ek] at c34b0x_)|(have c34b0x_:=c34b0;rw[←ek] at c34b0x_)|(have c34b0x_:=c34b0;rw[fA] at c34b0x_)|(have c34b0x_:=c34b0;rw[←fA] at c34b0x_)|(have c34b0x_:=c34b0;rw[bM] at c34b0x_)|(have c34b0x_:=c34b0;rw[←bM] at c34b0x_)|(have c34b0x_:=c34b0;rw[fq] at c34b0x_)|(have c34b0x_:=c34b0;rw[←fq] at c34b0x_)|skip);clear c34
              by_cases Ky:0≤bP
              ·rw[if_pos Ky] at H;have c35b0:=dt_ Ky;clear Ky
               by_cases qL:bP<((rd_L2 l0 cz).length:Int)
               ·rw[if_pos qL] at H;have c36b0:=dt_ qL;clear qL
                by_cases c37:(rd (rd_L2 l0 cz) bP)<(wrap64 (-dB))
                ·rw[if_pos c37] at H;have c37b0:=dt_ c37;clear c37;simp only[Option.some.injEq,Prod.mk.injEq] at H;obtain⟨rfl,rfl⟩:=H;have gq:0≤(cz:Int):=od_ A_;have gu:cz<(l0.length:Int):=od_ A_;obtain⟨jh,xV,xW,mG,dh,fB,gU⟩:=at_L2 cO.out cz gq gu;obtain rfl:ak=jh:=(by injection mG);replace dh:=Hc_ HB.out dh;have gV:=Z_ gU;have uI:=Z_ fB;clear gU fB;replace gq:=eq_true gq;replace gu:=eq_true gu;have mH:0≤(bP:Int):=od_ A_;have mI:bP<((rd_L2 l0 cz).length:Int):=od_ A_;obtain⟨nH,xX,gW⟩:=Kd.at_int gV.out bP mH mI
                 cases xX
                 replace gW:=Hc_ HB.out gW;replace mH:=eq_true mH;replace mI:=eq_true mI;go_wp2;go_ret2;exact⟨by first|rfl|(simp[errW_none,errW_some]<;>rfl)|(simp only[←nG,←jA];first|rfl|(simp[errW_none,errW_some]<;>rfl))|(simp[*,errW_none,errW_some]<;>rfl),B_⟩
                ·rw[if_neg c37] at H;have c37b0:=df_ c37;clear c37
                 by_cases EU:(rd (rd_L2 l0 cz) bP)≥dB
                 ·rw[if_pos EU] at H;have c38b0:decide (dB≤(rd (rd_L2 l0 cz) bP))=true:=dt_ EU;clear EU;simp only[Option.some.injEq,Prod.mk.injEq] at H;obtain⟨rfl,rfl⟩:=H;have gq:0≤(cz:Int):=od_ A_;have gu:cz<(l0.length:Int):=od_ A_;obtain⟨jh,xV,xW,mG,dh,fB,gU⟩:=at_L2 cO.out cz gq gu;obtain rfl:ak=jh:=(by injection mG);replace dh:=Hc_ HB.out dh;have gV:=Z_ gU;have uI:=Z_ fB;clear gU fB;replace gq:=eq_true gq;replace gu:=eq_true gu;have mH:0≤(bP:Int):=od_ A_;have mI:bP<((rd_L2 l0 cz).length:Int):=od_ A_;obtain⟨nH,xX,gW⟩:=Kd.at_int gV.out bP mH mI
                  cases xX
                  replace gW:=Hc_ HB.out gW;replace mH:=eq_true mH;replace mI:=eq_true mI;have mJ:0≤(bP:Int):=od_ A_;have mK:bP<((rd_L2 l0 cz).length:Int):=od_ A_;obtain⟨uJ,xY,gm⟩:=Kd.at_int gV.out bP mJ mK;obtain rfl:nH=uJ:=(by injection xY);replace gm:=Hc_ HB.out gm;replace mJ:=eq_true mJ;replace mK:=eq_true mK;go_wp2;go_ret2;exact⟨by first|rfl|(simp[errW_none,errW_some]<;>rfl)|(simp only[←nG,←jA];first|rfl|(simp[errW_none,errW_some]<;>rfl))|(simp[*,errW_none,errW_some]<;>rfl),B_⟩
                 ·rw[if_neg EU] at H;have c38b0:decide (dB≤(rd (rd_L2 l0 cz) bP))=false:=df_ EU;clear EU;replace H:=Ob_ H;obtain⟨t116,xZ,H⟩:=H;(try dsimp only at H);have Kz:=Z_ xZ;clear xZ
                  by_cases c40:rO.length+t116.length<140737488355328
                  ·rw[if_pos c40] at H;have GY:=Z_ c40;clear c40;obtain⟨GZ,pW⟩:∃y_:List Int,y_=(rO++t116):=⟨_,rfl⟩;replace H:(pcm_Put.l1 k3 l0 dB GZ bP ((rd_L2 l0 0).length:Int) bP l0 (l0.length:Int) (wrap64 (cz+1)) av aA)=some (r1,r2):=by first|(rw[pW];with_reducible exact H)|(have bS:=(bs_ _ _).symm.trans H;rw[pW];with_reducible exact bS)|(have bS:=(bs_ _ _).symm.trans H;with_reducible exact bS)|with_reducible exact H|(rw[pW];exact H)|exact H
                   have G6:=Z_ pW;clear pW;have H':=Z_ H;clear H;have gq:0≤(cz:Int):=od_ A_;have gu:cz<(l0.length:Int):=od_ A_;obtain⟨jh,xV,xW,mG,dh,fB,gU⟩:=at_L2 cO.out cz gq gu;obtain rfl:ak=jh:=(by injection mG);replace dh:=Hc_ HB.out dh;have gV:=Z_ gU;have uI:=Z_ fB;clear gU fB;replace gq:=eq_true gq;replace gu:=eq_true gu;have mH:0≤(bP:Int):=od_ A_;have mI:bP<((rd_L2 l0 cz).length:Int):=od_ A_;obtain⟨nH,xX,gW⟩:=Kd.at_int gV.out bP mH mI
                   cases xX
                   replace gW:=Hc_ HB.out gW;replace mH:=eq_true mH;replace mI:=eq_true mI;have mJ:0≤(bP:Int):=od_ A_;have mK:bP<((rd_L2 l0 cz).length:Int):=od_ A_;obtain⟨uJ,xY,gm⟩:=Kd.at_int gV.out bP mJ mK;obtain rfl:nH=uJ:=(by injection xY);replace gm:=Hc_ HB.out gm;replace mJ:=eq_true mJ;replace mK:=eq_true mK
                   try go_wp2
                   replace HO_7:=Z_ (Kd.R_drew HO_7.out);replace aj:=Z_ (blk_drew aj.out);replace HB:=Z_ (below_drew1 HB.out);have lu:0≤(bP:Int):=od_ A_;have lw:bP<((rd_L2 l0 cz).length:Int):=od_ A_;obtain⟨uK,e115,dC⟩:=Kd.at_int gV.out bP lu lw;have gX:=dC;obtain rfl:nH=uK:=(by injection e115);replace dC:=Hc_ HB.out dC;replace lu:=eq_true lu;replace lw:=eq_true lw;refine start_ (n:=10) (S:=fun w'=>w'.cell? ⟨fe,0,none⟩=some (.int .i64 av)∧w'.cell? ⟨fe,1,none⟩=some (.int .i64 aA)∧w'.cell? (nH.add (bP).toNat)=some (.int .i64 (rd (rd_L2 l0 cz) bP))) (ds:= []) #[false,false,false,false,false,false,false,false,false,false] (by kernel_rfl) rfl rfl ⟨(blk_cell aj.out 0).trans rfl,(blk_cell aj.out 1).trans rfl,(Hc_ HB.out gX)⟩ (fun hHeld=>?_);refine with_tabW pcm_Put.tab13 pcm_Put.bits13 (fun HT_ HW_=>?_);generalize wr.drew=vR at HO_7 aj HB dC hHeld ⊢;refine P_ 0 77 ?_;refine P_ 1 78 ?_;refine P_ 2 79 ?_;refine P_ 3 80 ?_;refine P_ 5 82 ?_;refine T_ 4 81 (y:=by rintro w' ⟨s0,s1,s2⟩;go_simp;with_reducible rfl) (h:=?_);refine T_ 6 83 (y:=by rintro w' ⟨s0,s1,s2⟩;go_simp;with_reducible rfl) (h:=?_);refine O_ 7 84 fun K hK=>?_
                   refine g_ Tryz.func147 #[.int .i64 (rd (rd_L2 l0 cz) bP),.int .i64 aA] ?_
                   with_reducible refine(pcm_bytes.calls (rd (rd_L2 l0 cz) bP) aA t116 _ Kz.out).mono ?_
                   rintro e UX ⟨v117,rfl,ho0,hb⟩;refine⟨_,rfl,?_⟩;have pX:=Z_ (Kd.R_lower (Kd.R_new' ho0 (Kd.R_lt (R_ HO_7))) (below_size B_));replace HO_7:=Z_ (Kd.R_elder' (R_ HO_7) (Kd.R_base ho0) hb);replace aj:=Z_ (blk_below (K_ aj) hb);replace HB:=Hb_ hb;(try clear hb);(try clear hb2);(try clear hk);(try clear hi);(try clear ho0);obtain⟨DJ,DK,Ai⟩:=Kd.R_slice pX.out;(first|subst Ai|(injection Ai with AZ Fh Ba;have Fj:=AZ.symm;have Fp:=Ba.symm;clear AZ Fh Ba;subst Fj;subst Fp));refine hK.out _ _ ⟨(blk_cell aj.out 0).trans rfl,(blk_cell aj.out 1).trans rfl,(Hc_ HB.out gX)⟩ (fun hHeld=>?_);clear hK K;refine Nm_ 84 ?_;refine O_ 8 85 fun K hK=>?_
                   refine Kd.R_append_rows_step (Kd.int .u8) (w0:=w) w.heap.size (by rfl) (.tmp 77) (.tmp 84) 27 5 (.int .u8 0) 1 rfl Tryz.underlying27 info5 rfl (by decide) (by omega) u7 rO t116 _ _ _ (fun k_=>some k_≠(.slice DJ t116.length DK:Value).ownBlock) (fun _=>False) rfl rfl ?aO ?aR (fun _ _ h=>h) (fun _ h=>h.elim) ?aF ?aB ?aS ?aL ?_;(case aR=>repeat (first|exact(Kd.R_reads' pX.out).2.2|(with_reducible refine Kd.C_alloc ?_ _)|(with_reducible refine Kd.C_drewN ?_ _)|(with_reducible refine Kd.C_drew ?_)));(case aB=>exact B_);(case aF=>exact(fun k_ hk=>Kd.fresh' (Kd.R_lt (R_ pX)) k_ hk));(case aO=>exact(by(with_reducible repeat (first|apply Kd.R_alloc|apply Kd.R_drewN|apply Kd.R_drew));exact Kd.R_mono HO_7.out (fun _ hk=>hk.2)));(case aS=>exact(below_size B_));(case aL=>have:=GY.out;omega);intro VD Xj ho hb hg hat;rw[←G6.out] at ho;replace aj:=Z_ (blk_grown (g:=fe) (o:= .cells #[.int .i64 av,.int .i64 aA] 23 (0,0)) (K_ aj) hg (Kd.R_ne HO_7.out aj.out (by decide)));replace pX:=Z_ (Kd.R_after (ok:=(fun _=>True)) (R_ pX) hg hat);replace HB:=Z_ (hb);have G7:=Z_ (ho);clear HO_7;clear ho hb hg hat;refine hK.out _ _ ⟨(blk_cell aj.out 0).trans rfl,(blk_cell aj.out 1).trans rfl,(Hc_ HB.out gX)⟩ (fun hHeld=>?_);clear hK K;refine Nm_ 85 ?_;refine P_ 9 7 ?_;refine done_ (done_of HT_.out (by kernel_rfl)) ?_
                   try go_wp2
                   go_roundg k3
                   case measure=>have:=HJ2.out;have:=iq.out;have:=Kw.out;omega
                   case rel=>exact⟨(GZ),(wrap64 (cz+1)),(E1_),H',⟨by have:=HJ2.out;have:=iq.out;have:=Kw.out;omega⟩,⟨by(with_reducible repeat (first|apply Kd.R_alloc|apply Kd.R_drewN|apply Kd.R_drew));exact Kd.R_mono G7.out (fun _ hk=>trivial)⟩,⟨(K_ aj)⟩,⟨B_⟩⟩
                  ·rw[if_neg c40] at H;exact absurd H (by simp)
               ·rw[if_neg qL] at H;exact absurd H (by simp)
              ·rw[if_neg Ky] at H;exact absurd H (by simp)
             ·rw[if_neg c34] at H;exact absurd H (by simp)
            ·rw[if_neg yO] at H;exact absurd H (by simp)
           ·rw[if_neg c32] at H;have c32b0:=df_ c32;(first|(have c32b0x_:=c32b0;rw[ek] at c32b0x_)|(have c32b0x_:=c32b0;rw[←ek] at c32b0x_)|(have c32b0x_:=c32b0;rw[fA] at c32b0x_)|(have c32b0x_:=c32b0;rw[←fA] at c32b0x_)|(have c32b0x_:=c32b0;rw[bM] at c32b0x_)|(have c32b0x_:=c32b0;rw[←bM] at c32b0x_)|(have c32b0x_:=c32b0;rw[fq] at c32b0x_)|(have c32b0x_:=c32b0;rw[←fq] at c32b0x_)|(have c32b0x_:=c32b0;rw[fB] at c32b0x_)|(have c32b0x_:=c32b0;rw[←fB] at c32b0x_)|skip);clear c32;have H':=Z_ H;clear H;go_wp2
            go_roundg k3
            case measure=>have:=HJ2.out;have:=iq.out;have:=Kw.out;omega
            case rel=>exact⟨(rO),(wrap64 (bP+1)),(E1_),H',⟨by have:=HJ2.out;have:=iq.out;have:=Kw.out;omega⟩,⟨R_ HO_7⟩,⟨(K_ aj)⟩,⟨B_⟩⟩
        ·rw[if_neg c31] at H;have c31b0:=df_ c31;clear c31;simp only[Option.some.injEq,Prod.mk.injEq] at H;obtain⟨rfl,rfl⟩:=H;have Tm:=own_string (P:=Tryz.prog) Tryz.underlying27 Tryz.underlying5 Tryz.underlying9 (Kd.own_of_R HO_7.out);go_wp2;go_ret2;exact⟨by first|rfl|(simp[errW_none,errW_some]<;>rfl)|(simp only[←nG,←jA];first|rfl|(simp[errW_none,errW_some]<;>rfl))|(simp[*,errW_none,errW_some]<;>rfl),B_⟩
     ·rw[if_neg jS] at H;exact absurd H (by simp)
    ·rw[if_neg jI] at H;exact absurd H (by simp)
def descanttop_wav.f(k:Nat)(ae:Int)(af:Int)(a1:ByteArray):Option (ByteArray):=(descantref1_Low.f k ae 2).bind fun bz=>(if 14+bz.size≤9223372036854775807 then(if((⟨#[87,65,86,69,102,109,116,32,16,0,0,0,1,0]⟩:ByteArray)++bz).size+8≤9223372036854775807 then((descantref1_Low.f k (wrap64 (Int.tdiv (wrap64 (ae*af)) 8)) 2).bind fun t124=>(if(((⟨#[87,65,86,69,102,109,116,32,16,0,0,0,1,0]⟩:ByteArray)++bz)++(⟨#[114,97,116,101,97,110,100,98]⟩:ByteArray)).size+t124.size≤9223372036854775807 then((descantref1_Low.f k af 2).bind fun bJ=>(if((((⟨#[87,65,86,69,102,109,116,32,16,0,0,0,1,0]⟩:ByteArray)++bz)++(⟨#[114,97,116,101,97,110,100,98]⟩:ByteArray))++t124).size+bJ.size≤9223372036854775807 then(if(((((⟨#[87,65,86,69,102,109,116,32,16,0,0,0,1,0]⟩:ByteArray)++bz)++(⟨#[114,97,116,101,97,110,100,98]⟩:ByteArray))++t124)++bJ).size+4≤9223372036854775807 then((descantref1_Low.f k (a1.size:Int) 4).bind fun bu=>(if((((((⟨#[87,65,86,69,102,109,116,32,16,0,0,0,1,0]⟩:ByteArray)++bz)++(⟨#[114,97,116,101,97,110,100,98]⟩:ByteArray))++t124)++bJ)++(⟨#[100,97,116,97]⟩:ByteArray)).size+bu.size≤9223372036854775807 then(if(((((((⟨#[87,65,86,69,102,109,116,32,16,0,0,0,1,0]⟩:ByteArray)++bz)++(⟨#[114,97,116,101,97,110,100,98]⟩:ByteArray))++t124)++bJ)++(⟨#[100,97,116,97]⟩:ByteArray))++bu).size+a1.size≤9223372036854775807 then(if((a1.size:Int)%2)=1 then(if((((((((⟨#[87,65,86,69,102,109,116,32,16,0,0,0,1,0]⟩:ByteArray)++bz)++(⟨#[114,97,116,101,97,110,100,98]⟩:ByteArray))++t124)++bJ)++(⟨#[100,97,116,97]⟩:ByteArray))++bu)++a1).size+1≤9223372036854775807 then(if(((((((((⟨#[87,65,86,69,102,109,116,32,16,0,0,0,1,0]⟩:ByteArray)++bz)++(⟨#[114,97,116,101,97,110,100,98]⟩:ByteArray))++t124)++bJ)++(⟨#[100,97,116,97]⟩:ByteArray))++bu)++a1)++(⟨#[112]⟩:ByteArray)).size+12≤9223372036854775807 then((descantref1_Low.f k (((((((((((⟨#[87,65,86,69,102,109,116,32,16,0,0,0,1,0]⟩:ByteArray)++bz)++(⟨#[114,97,116,101,97,110,100,98]⟩:ByteArray))++t124)++bJ)++(⟨#[100,97,116,97]⟩:ByteArray))++bu)++a1)++(⟨#[112]⟩:ByteArray))++(⟨#[109,111,114,101,3,0,0,0,97,98,99,100]⟩:ByteArray)).size:Int) 4).bind fun t127=>(if 4+t127.size≤9223372036854775807 then(if((⟨#[82,73,70,70]⟩:ByteArray)++t127).size+((((((((((⟨#[87,65,86,69,102,109,116,32,16,0,0,0,1,0]⟩:ByteArray)++bz)++(⟨#[114,97,116,101,97,110,100,98]⟩:ByteArray))++t124)++bJ)++(⟨#[100,97,116,97]⟩:ByteArray))++bu)++a1)++(⟨#[112]⟩:ByteArray))++(⟨#[109,111,114,101,3,0,0,0,97,98,99,100]⟩:ByteArray)).size≤9223372036854775807 then(some (((⟨#[82,73,70,70]⟩:ByteArray)++t127)++((((((((((⟨#[87,65,86,69,102,109,116,32,16,0,0,0,1,0]⟩:ByteArray)++bz)++(⟨#[114,97,116,101,97,110,100,98]⟩:ByteArray))++t124)++bJ)++(⟨#[100,97,116,97]⟩:ByteArray))++bu)++a1)++(⟨#[112]⟩:ByteArray))++(⟨#[109,111,114,101,3,0,0,0,97,98,99,100]⟩:ByteArray)))) else(none)) else(none))) else(none)) else(none)) else(if((((((((⟨#[87,65,86,69,102,109,116,32,16,0,0,0,1,0]⟩:ByteArray)++bz)++(⟨#[114,97,116,101,97,110,100,98]⟩:ByteArray))++t124)++bJ)++(⟨#[100,97,116,97]⟩:ByteArray))++bu)++a1).size+12≤9223372036854775807 then((descantref1_Low.f k ((((((((((⟨#[87,65,86,69,102,109,116,32,16,0,0,0,1,0]⟩:ByteArray)++bz)++(⟨#[114,97,116,101,97,110,100,98]⟩:ByteArray))++t124)++bJ)++(⟨#[100,97,116,97]⟩:ByteArray))++bu)++a1)++(⟨#[109,111,114,101,3,0,0,0,97,98,99,100]⟩:ByteArray)).size:Int) 4).bind fun jL=>(if 4+jL.size≤9223372036854775807 then(if((⟨#[82,73,70,70]⟩:ByteArray)++jL).size+(((((((((⟨#[87,65,86,69,102,109,116,32,16,0,0,0,1,0]⟩:ByteArray)++bz)++(⟨#[114,97,116,101,97,110,100,98]⟩:ByteArray))++t124)++bJ)++(⟨#[100,97,116,97]⟩:ByteArray))++bu)++a1)++(⟨#[109,111,114,101,3,0,0,0,97,98,99,100]⟩:ByteArray)).size≤9223372036854775807 then(some (((⟨#[82,73,70,70]⟩:ByteArray)++jL)++(((((((((⟨#[87,65,86,69,102,109,116,32,16,0,0,0,1,0]⟩:ByteArray)++bz)++(⟨#[114,97,116,101,97,110,100,98]⟩:ByteArray))++t124)++bJ)++(⟨#[100,97,116,97]⟩:ByteArray))++bu)++a1)++(⟨#[109,111,114,101,3,0,0,0,97,98,99,100]⟩:ByteArray)))) else(none)) else(none))) else(none))) else(none)) else(none))) else(none)) else(none))) else(none))) else(none)) else(none))
def descanttop_wav.T2:Bool×List (List Nat×List Nat):=(true,[([],[]),([0],[0]),([1],[1]),([2],[2]),([3],[3]),([],[]),([5,2],[5]),([4,6],[4,6]),([],[]),([8],[8]),([9,6],[9]),([7,10],[7,10]),([11,10,0,1,2,3,4,5,6,7,8,9,10,11],[11])])
def descanttop_wav.B2:List Nat:= [0,1,3,7,15,0,39,127,0,256,871,2047,4095]
theorem descanttop_wav.tab2:rtab .any (opsOf Tryz.f11 2)=descanttop_wav.T2:=by kernel_rfl
theorem descanttop_wav.bits2:waitsOk descanttop_wav.T2.2 descanttop_wav.B2=true:=by kernel_rfl
theorem descanttop_wav.calls(k:Nat)(ae:Int)(af:Int)(a1:ByteArray)(r:ByteArray)(w:World)(h:descanttop_wav.f k ae af a1=some r):
  Calls Tryz.prog 11 #[.agg #[.int .i64 ae,.int .i64 af],.string a1] w fun e w'=>e= .returned (.string r)∧Below w.heap.size w w':=by
 have fH:=Tryz.underlying23;have HB:=Z_ (Below.refl w.heap.size w);have H:((descantref1_Low.f k ae 2).bind fun bz=>(if 14+bz.size≤9223372036854775807 then(if((⟨#[87,65,86,69,102,109,116,32,16,0,0,0,1,0]⟩:ByteArray)++bz).size+8≤9223372036854775807 then((descantref1_Low.f k (wrap64 (Int.tdiv (wrap64 (ae*af)) 8)) 2).bind fun t124=>(if(((⟨#[87,65,86,69,102,109,116,32,16,0,0,0,1,0]⟩:ByteArray)++bz)++(⟨#[114,97,116,101,97,110,100,98]⟩:ByteArray)).size+t124.size≤9223372036854775807 then((descantref1_Low.f k af 2).bind fun bJ=>(if((((⟨#[87,65,86,69,102,109,116,32,16,0,0,0,1,0]⟩:ByteArray)++bz)++(⟨#[114,97,116,101,97,110,100,98]⟩:ByteArray))++t124).size+bJ.size≤9223372036854775807 then(if(((((⟨#[87,65,86,69,102,109,116,32,16,0,0,0,1,0]⟩:ByteArray)++bz)++(⟨#[114,97,116,101,97,110,100,98]⟩:ByteArray))++t124)++bJ).size+4≤9223372036854775807 then((descantref1_Low.f k (a1.size:Int) 4).bind fun bu=>(if((((((⟨#[87,65,86,69,102,109,116,32,16,0,0,0,1,0]⟩:ByteArray)++bz)++(⟨#[114,97,116,101,97,110,100,98]⟩:ByteArray))++t124)++bJ)++(⟨#[100,97,116,97]⟩:ByteArray)).size+bu.size≤9223372036854775807 then(if(((((((⟨#[87,65,86,69,102,109,116,32,16,0,0,0,1,0]⟩:ByteArray)++bz)++(⟨#[114,97,116,101,97,110,100,98]⟩:ByteArray))++t124)++bJ)++(⟨#[100,97,116,97]⟩:ByteArray))++bu).size+a1.size≤9223372036854775807 then(if((a1.size:Int)%2)=1 then(if((((((((⟨#[87,65,86,69,102,109,116,32,16,0,0,0,1,0]⟩:ByteArray)++bz)++(⟨#[114,97,116,101,97,110,100,98]⟩:ByteArray))++t124)++bJ)++(⟨#[100,97,116,97]⟩:ByteArray))++bu)++a1).size+1≤9223372036854775807 then(if(((((((((⟨#[87,65,86,69,102,109,116,32,16,0,0,0,1,0]⟩:ByteArray)++bz)++(⟨#[114,97,116,101,97,110,100,98]⟩:ByteArray))++t124)++bJ)++(⟨#[100,97,116,97]⟩:ByteArray))++bu)++a1)++(⟨#[112]⟩:ByteArray)).size+12≤9223372036854775807 then((descantref1_Low.f k (((((((((((⟨#[87,65,86,69,102,109,116,32,16,0,0,0,1,0]⟩:ByteArray)++bz)++(⟨#[114,97,116,101,97,110,100,98]⟩:ByteArray))++t124)++bJ)++(⟨#[100,97,116,97]⟩:ByteArray))++bu)++a1)++(⟨#[112]⟩:ByteArray))++(⟨#[109,111,114,101,3,0,0,0,97,98,99,100]⟩:ByteArray)).size:Int) 4).bind fun t127=>(if 4+t127.size≤9223372036854775807 then(if((⟨#[82,73,70,70]⟩:ByteArray)++t127).size+((((((((((⟨#[87,65,86,69,102,109,116,32,16,0,0,0,1,0]⟩:ByteArray)++bz)++(⟨#[114,97,116,101,97,110,100,98]⟩:ByteArray))++t124)++bJ)++(⟨#[100,97,116,97]⟩:ByteArray))++bu)++a1)++(⟨#[112]⟩:ByteArray))++(⟨#[109,111,114,101,3,0,0,0,97,98,99,100]⟩:ByteArray)).size≤9223372036854775807 then(some (((⟨#[82,73,70,70]⟩:ByteArray)++t127)++((((((((((⟨#[87,65,86,69,102,109,116,32,16,0,0,0,1,0]⟩:ByteArray)++bz)++(⟨#[114,97,116,101,97,110,100,98]⟩:ByteArray))++t124)++bJ)++(⟨#[100,97,116,97]⟩:ByteArray))++bu)++a1)++(⟨#[112]⟩:ByteArray))++(⟨#[109,111,114,101,3,0,0,0,97,98,99,100]⟩:ByteArray)))) else(none)) else(none))) else(none)) else(none)) else(if((((((((⟨#[87,65,86,69,102,109,116,32,16,0,0,0,1,0]⟩:ByteArray)++bz)++(⟨#[114,97,116,101,97,110,100,98]⟩:ByteArray))++t124)++bJ)++(⟨#[100,97,116,97]⟩:ByteArray))++bu)++a1).size+12≤9223372036854775807 then((descantref1_Low.f k ((((((((((⟨#[87,65,86,69,102,109,116,32,16,0,0,0,1,0]⟩:ByteArray)++bz)++(⟨#[114,97,116,101,97,110,100,98]⟩:ByteArray))++t124)++bJ)++(⟨#[100,97,116,97]⟩:ByteArray))++bu)++a1)++(⟨#[109,111,114,101,3,0,0,0,97,98,99,100]⟩:ByteArray)).size:Int) 4).bind fun jL=>(if 4+jL.size≤9223372036854775807 then(if((⟨#[82,73,70,70]⟩:ByteArray)++jL).size+(((((((((⟨#[87,65,86,69,102,109,116,32,16,0,0,0,1,0]⟩:ByteArray)++bz)++(⟨#[114,97,116,101,97,110,100,98]⟩:ByteArray))++t124)++bJ)++(⟨#[100,97,116,97]⟩:ByteArray))++bu)++a1)++(⟨#[109,111,114,101,3,0,0,0,97,98,99,100]⟩:ByteArray)).size≤9223372036854775807 then(some (((⟨#[82,73,70,70]⟩:ByteArray)++jL)++(((((((((⟨#[87,65,86,69,102,109,116,32,16,0,0,0,1,0]⟩:ByteArray)++bz)++(⟨#[114,97,116,101,97,110,100,98]⟩:ByteArray))++t124)++bJ)++(⟨#[100,97,116,97]⟩:ByteArray))++bu)++a1)++(⟨#[109,111,114,101,3,0,0,0,97,98,99,100]⟩:ByteArray)))) else(none)) else(none))) else(none))) else(none)) else(none))) else(none)) else(none))) else(none))) else(none)) else(none)))=some r:=h;clear h;replace H:=Ob_ H;obtain⟨bz,jw,H⟩:=H;(try dsimp only at H);have A3:=Z_ jw;clear jw
 by_cases c4:14+bz.size≤9223372036854775807
 ·rw[if_pos c4] at H;have c4b0:=eq_true c4;have c4b1:=dt_ c4
  try have c4b2:(9223372036854775807<14+bz.size)=False:=eq_false (Nat.not_lt.2 c4)
  by_cases c5:((⟨#[87,65,86,69,102,109,116,32,16,0,0,0,1,0]⟩:ByteArray)++bz).size+8≤9223372036854775807
  ·rw[if_pos c5] at H;have c5b0:=eq_true c5;have c5b1:=dt_ c5
   try have c5b2:(9223372036854775807<((⟨#[87,65,86,69,102,109,116,32,16,0,0,0,1,0]⟩:ByteArray)++bz).size+8)=False:=eq_false (Nat.not_lt.2 c5)
   (try (have c5b3:=c5b2;simp only[ByteArray.size_append] at c5b3));(try (have c5b9:=c5b2;simp only[ByteArray.size_append,show(⟨#[87,65,86,69,102,109,116,32,16,0,0,0,1,0]⟩:ByteArray).size=14 from rfl,show(⟨#[114,97,116,101,97,110,100,98]⟩:ByteArray).size=8 from rfl,show(⟨#[100,97,116,97]⟩:ByteArray).size=4 from rfl,show(⟨#[112]⟩:ByteArray).size=1 from rfl,show(⟨#[109,111,114,101,3,0,0,0,97,98,99,100]⟩:ByteArray).size=12 from rfl,show(⟨#[82,73,70,70]⟩:ByteArray).size=4 from rfl] at c5b9));replace H:=Ob_ H;obtain⟨t124,pI,H⟩:=H;(try dsimp only at H);have A6:=Z_ pI;clear pI
   by_cases c7:(((⟨#[87,65,86,69,102,109,116,32,16,0,0,0,1,0]⟩:ByteArray)++bz)++(⟨#[114,97,116,101,97,110,100,98]⟩:ByteArray)).size+t124.size≤9223372036854775807
   ·rw[if_pos c7] at H;have c7b0:=eq_true c7;have c7b1:=dt_ c7
    try have c7b2:(9223372036854775807<(((⟨#[87,65,86,69,102,109,116,32,16,0,0,0,1,0]⟩:ByteArray)++bz)++(⟨#[114,97,116,101,97,110,100,98]⟩:ByteArray)).size+t124.size)=False:=eq_false (Nat.not_lt.2 c7)
    (try (have c7b3:=c7b2;simp only[ByteArray.size_append] at c7b3));(try (have c7b9:=c7b2;simp only[ByteArray.size_append,show(⟨#[87,65,86,69,102,109,116,32,16,0,0,0,1,0]⟩:ByteArray).size=14 from rfl,show(⟨#[114,97,116,101,97,110,100,98]⟩:ByteArray).size=8 from rfl,show(⟨#[100,97,116,97]⟩:ByteArray).size=4 from rfl,show(⟨#[112]⟩:ByteArray).size=1 from rfl,show(⟨#[109,111,114,101,3,0,0,0,97,98,99,100]⟩:ByteArray).size=12 from rfl,show(⟨#[82,73,70,70]⟩:ByteArray).size=4 from rfl] at c7b9));replace H:=Ob_ H;obtain⟨bJ,uo,H⟩:=H;(try dsimp only at H);have A8:=Z_ uo;clear uo
    by_cases c9:((((⟨#[87,65,86,69,102,109,116,32,16,0,0,0,1,0]⟩:ByteArray)++bz)++(⟨#[114,97,116,101,97,110,100,98]⟩:ByteArray))++t124).size+bJ.size≤9223372036854775807
    ·rw[if_pos c9] at H;have c9b0:=eq_true c9;have c9b1:=dt_ c9
     try have c9b2:(9223372036854775807<((((⟨#[87,65,86,69,102,109,116,32,16,0,0,0,1,0]⟩:ByteArray)++bz)++(⟨#[114,97,116,101,97,110,100,98]⟩:ByteArray))++t124).size+bJ.size)=False:=eq_false (Nat.not_lt.2 c9)
     (try (have c9b3:=c9b2;simp only[ByteArray.size_append] at c9b3));(try (have c9b9:=c9b2;simp only[ByteArray.size_append,show(⟨#[87,65,86,69,102,109,116,32,16,0,0,0,1,0]⟩:ByteArray).size=14 from rfl,show(⟨#[114,97,116,101,97,110,100,98]⟩:ByteArray).size=8 from rfl,show(⟨#[100,97,116,97]⟩:ByteArray).size=4 from rfl,show(⟨#[112]⟩:ByteArray).size=1 from rfl,show(⟨#[109,111,114,101,3,0,0,0,97,98,99,100]⟩:ByteArray).size=12 from rfl,show(⟨#[82,73,70,70]⟩:ByteArray).size=4 from rfl] at c9b9))
     by_cases c10:(((((⟨#[87,65,86,69,102,109,116,32,16,0,0,0,1,0]⟩:ByteArray)++bz)++(⟨#[114,97,116,101,97,110,100,98]⟩:ByteArray))++t124)++bJ).size+4≤9223372036854775807
     ·rw[if_pos c10] at H;have c10b0:=eq_true c10;have c10b1:=dt_ c10
      try have c10b2:(9223372036854775807<(((((⟨#[87,65,86,69,102,109,116,32,16,0,0,0,1,0]⟩:ByteArray)++bz)++(⟨#[114,97,116,101,97,110,100,98]⟩:ByteArray))++t124)++bJ).size+4)=False:=eq_false (Nat.not_lt.2 c10)
      (try (have c10b3:=c10b2;simp only[ByteArray.size_append] at c10b3));(try (have c10b9:=c10b2;simp only[ByteArray.size_append,show(⟨#[87,65,86,69,102,109,116,32,16,0,0,0,1,0]⟩:ByteArray).size=14 from rfl,show(⟨#[114,97,116,101,97,110,100,98]⟩:ByteArray).size=8 from rfl,show(⟨#[100,97,116,97]⟩:ByteArray).size=4 from rfl,show(⟨#[112]⟩:ByteArray).size=1 from rfl,show(⟨#[109,111,114,101,3,0,0,0,97,98,99,100]⟩:ByteArray).size=12 from rfl,show(⟨#[82,73,70,70]⟩:ByteArray).size=4 from rfl] at c10b9));replace H:=Ob_ H;obtain⟨bu,pY,H⟩:=H;(try dsimp only at H);have EW:=Z_ pY;clear pY
      by_cases c12:((((((⟨#[87,65,86,69,102,109,116,32,16,0,0,0,1,0]⟩:ByteArray)++bz)++(⟨#[114,97,116,101,97,110,100,98]⟩:ByteArray))++t124)++bJ)++(⟨#[100,97,116,97]⟩:ByteArray)).size+bu.size≤9223372036854775807
      ·rw[if_pos c12] at H;have c12b0:=eq_true c12;have c12b1:=dt_ c12
       try have c12b2:(9223372036854775807<((((((⟨#[87,65,86,69,102,109,116,32,16,0,0,0,1,0]⟩:ByteArray)++bz)++(⟨#[114,97,116,101,97,110,100,98]⟩:ByteArray))++t124)++bJ)++(⟨#[100,97,116,97]⟩:ByteArray)).size+bu.size)=False:=eq_false (Nat.not_lt.2 c12)
       (try (have c12b3:=c12b2;simp only[ByteArray.size_append] at c12b3));(try (have c12b9:=c12b2;simp only[ByteArray.size_append,show(⟨#[87,65,86,69,102,109,116,32,16,0,0,0,1,0]⟩:ByteArray).size=14 from rfl,show(⟨#[114,97,116,101,97,110,100,98]⟩:ByteArray).size=8 from rfl,show(⟨#[100,97,116,97]⟩:ByteArray).size=4 from rfl,show(⟨#[112]⟩:ByteArray).size=1 from rfl,show(⟨#[109,111,114,101,3,0,0,0,97,98,99,100]⟩:ByteArray).size=12 from rfl,show(⟨#[82,73,70,70]⟩:ByteArray).size=4 from rfl] at c12b9))
       by_cases c13:(((((((⟨#[87,65,86,69,102,109,116,32,16,0,0,0,1,0]⟩:ByteArray)++bz)++(⟨#[114,97,116,101,97,110,100,98]⟩:ByteArray))++t124)++bJ)++(⟨#[100,97,116,97]⟩:ByteArray))++bu).size+a1.size≤9223372036854775807
       ·rw[if_pos c13] at H;have c13b0:=eq_true c13;have c13b1:=dt_ c13
        try have c13b2:(9223372036854775807<(((((((⟨#[87,65,86,69,102,109,116,32,16,0,0,0,1,0]⟩:ByteArray)++bz)++(⟨#[114,97,116,101,97,110,100,98]⟩:ByteArray))++t124)++bJ)++(⟨#[100,97,116,97]⟩:ByteArray))++bu).size+a1.size)=False:=eq_false (Nat.not_lt.2 c13)
        (try (have c13b3:=c13b2;simp only[ByteArray.size_append] at c13b3));(try (have c13b9:=c13b2;simp only[ByteArray.size_append,show(⟨#[87,65,86,69,102,109,116,32,16,0,0,0,1,0]⟩:ByteArray).size=14 from rfl,show(⟨#[114,97,116,101,97,110,100,98]⟩:ByteArray).size=8 from rfl,show(⟨#[100,97,116,97]⟩:ByteArray).size=4 from rfl,show(⟨#[112]⟩:ByteArray).size=1 from rfl,show(⟨#[109,111,114,101,3,0,0,0,97,98,99,100]⟩:ByteArray).size=12 from rfl,show(⟨#[82,73,70,70]⟩:ByteArray).size=4 from rfl] at c13b9))
        by_cases c14:((a1.size:Int)%2)=1
        ·rw[if_pos c14] at H;have c14b0:(((a1.size:Int)%2)==1)=true:=beq_iff_eq.mpr c14;have c14b1:(((a1.size:Int)%2) !=1)=false:=bne_eq_false_iff_eq.mpr c14;clear c14
         by_cases c15:((((((((⟨#[87,65,86,69,102,109,116,32,16,0,0,0,1,0]⟩:ByteArray)++bz)++(⟨#[114,97,116,101,97,110,100,98]⟩:ByteArray))++t124)++bJ)++(⟨#[100,97,116,97]⟩:ByteArray))++bu)++a1).size+1≤9223372036854775807
         ·rw[if_pos c15] at H;have c15b0:=eq_true c15;have c15b1:=dt_ c15
          try have c15b2:(9223372036854775807<((((((((⟨#[87,65,86,69,102,109,116,32,16,0,0,0,1,0]⟩:ByteArray)++bz)++(⟨#[114,97,116,101,97,110,100,98]⟩:ByteArray))++t124)++bJ)++(⟨#[100,97,116,97]⟩:ByteArray))++bu)++a1).size+1)=False:=eq_false (Nat.not_lt.2 c15)
          (try (have c15b3:=c15b2;simp only[ByteArray.size_append] at c15b3));(try (have c15b9:=c15b2;simp only[ByteArray.size_append,show(⟨#[87,65,86,69,102,109,116,32,16,0,0,0,1,0]⟩:ByteArray).size=14 from rfl,show(⟨#[114,97,116,101,97,110,100,98]⟩:ByteArray).size=8 from rfl,show(⟨#[100,97,116,97]⟩:ByteArray).size=4 from rfl,show(⟨#[112]⟩:ByteArray).size=1 from rfl,show(⟨#[109,111,114,101,3,0,0,0,97,98,99,100]⟩:ByteArray).size=12 from rfl,show(⟨#[82,73,70,70]⟩:ByteArray).size=4 from rfl] at c15b9))
          by_cases c16:(((((((((⟨#[87,65,86,69,102,109,116,32,16,0,0,0,1,0]⟩:ByteArray)++bz)++(⟨#[114,97,116,101,97,110,100,98]⟩:ByteArray))++t124)++bJ)++(⟨#[100,97,116,97]⟩:ByteArray))++bu)++a1)++(⟨#[112]⟩:ByteArray)).size+12≤9223372036854775807
          ·rw[if_pos c16] at H;have c16b0:=eq_true c16;have c16b1:=dt_ c16
           try have c16b2:(9223372036854775807<(((((((((⟨#[87,65,86,69,102,109,116,32,16,0,0,0,1,0]⟩:ByteArray)++bz)++(⟨#[114,97,116,101,97,110,100,98]⟩:ByteArray))++t124)++bJ)++(⟨#[100,97,116,97]⟩:ByteArray))++bu)++a1)++(⟨#[112]⟩:ByteArray)).size+12)=False:=eq_false (Nat.not_lt.2 c16)
           (try (have c16b3:=c16b2;simp only[ByteArray.size_append] at c16b3));(try (have c16b9:=c16b2;simp only[ByteArray.size_append,show(⟨#[87,65,86,69,102,109,116,32,16,0,0,0,1,0]⟩:ByteArray).size=14 from rfl,show(⟨#[114,97,116,101,97,110,100,98]⟩:ByteArray).size=8 from rfl,show(⟨#[100,97,116,97]⟩:ByteArray).size=4 from rfl,show(⟨#[112]⟩:ByteArray).size=1 from rfl,show(⟨#[109,111,114,101,3,0,0,0,97,98,99,100]⟩:ByteArray).size=12 from rfl,show(⟨#[82,73,70,70]⟩:ByteArray).size=4 from rfl] at c16b9));replace H:=Ob_ H;obtain⟨t127,pu,H⟩:=H;(try dsimp only at H);have EL:=Z_ pu;clear pu
           by_cases c18:4+t127.size≤9223372036854775807
           ·rw[if_pos c18] at H;have c18b0:=eq_true c18;have c18b1:=dt_ c18
            try have c18b2:(9223372036854775807<4+t127.size)=False:=eq_false (Nat.not_lt.2 c18)
            by_cases c19:((⟨#[82,73,70,70]⟩:ByteArray)++t127).size+((((((((((⟨#[87,65,86,69,102,109,116,32,16,0,0,0,1,0]⟩:ByteArray)++bz)++(⟨#[114,97,116,101,97,110,100,98]⟩:ByteArray))++t124)++bJ)++(⟨#[100,97,116,97]⟩:ByteArray))++bu)++a1)++(⟨#[112]⟩:ByteArray))++(⟨#[109,111,114,101,3,0,0,0,97,98,99,100]⟩:ByteArray)).size≤9223372036854775807
            ·rw[if_pos c19] at H;have c19b0:=eq_true c19;have c19b1:=dt_ c19
             try have c19b2:(9223372036854775807<((⟨#[82,73,70,70]⟩:ByteArray)++t127).size+((((((((((⟨#[87,65,86,69,102,109,116,32,16,0,0,0,1,0]⟩:ByteArray)++bz)++(⟨#[114,97,116,101,97,110,100,98]⟩:ByteArray))++t124)++bJ)++(⟨#[100,97,116,97]⟩:ByteArray))++bu)++a1)++(⟨#[112]⟩:ByteArray))++(⟨#[109,111,114,101,3,0,0,0,97,98,99,100]⟩:ByteArray)).size)=False:=eq_false (Nat.not_lt.2 c19)
             (try (have c19b3:=c19b2;simp only[ByteArray.size_append] at c19b3));(try (have c19b9:=c19b2;simp only[ByteArray.size_append,show(⟨#[87,65,86,69,102,109,116,32,16,0,0,0,1,0]⟩:ByteArray).size=14 from rfl,show(⟨#[114,97,116,101,97,110,100,98]⟩:ByteArray).size=8 from rfl,show(⟨#[100,97,116,97]⟩:ByteArray).size=4 from rfl,show(⟨#[112]⟩:ByteArray).size=1 from rfl,show(⟨#[109,111,114,101,3,0,0,0,97,98,99,100]⟩:ByteArray).size=12 from rfl,show(⟨#[82,73,70,70]⟩:ByteArray).size=4 from rfl] at c19b9));obtain rfl:=Option.some.inj H
             go_enter Tryz.func11,Tryz.ntmps11
             try go_wp2_with (first|(refine X_ 2 #[.int .i64 ae,.int .i64 af] 23 ?_;intro p9 hg nY hbox hb;have bg:=Z_ (hbox);have yc:=Z_ (G2_ hg:w.heap.size≤_);have G8:=yc;replace HB:=Hb_ hb;clear hb hbox hg;have oz:=cz_ bg 0;have oC:=cz_ bg 1;have oD:=fz_ bg 0;have oF:=fz_ bg 1))
             replace bg:=Z_ (blk_drew bg.out);replace HB:=Z_ (below_drew1 HB.out);refine start_ (n:=13) (S:=fun w'=>w'.cell? ⟨p9,0,none⟩=some (.int .i64 ae)∧w'.cell? ⟨p9,1,none⟩=some (.int .i64 af)) (ds:= []) #[false,false,false,false,false,false,false,false,false,false,false,false,false] (by kernel_rfl) rfl rfl ⟨(blk_cell bg.out 0).trans rfl,(blk_cell bg.out 1).trans rfl⟩ (fun hHeld=>?_);refine with_tabW descanttop_wav.tab2 descanttop_wav.bits2 (fun HT_ HW_=>?_);generalize nY.drew=zS at bg HB hHeld ⊢;refine P_ 0 13 ?_;refine P_ 5 18 ?_;refine P_ 8 21 ?_;refine T_ 1 14 (y:=by rintro w' ⟨s0,s1⟩;go_simp;with_reducible rfl) (h:=?_);refine T_ 9 22 (y:=by rintro w' ⟨s0,s1⟩;go_simp;with_reducible rfl) (h:=?_);refine O_ 2 15 fun K hK=>?_
             refine g_ Tryz.func30 #[.int .i64 ae,.int .i64 2] ?_
             with_reducible refine(descantref1_Low.calls k ae 2 bz _ A3.out).mono ?_
             rintro e Cu ⟨rfl,hb⟩;refine⟨_,rfl,?_⟩;replace bg:=Z_ (blk_below (K_ bg) hb);replace HB:=Hb_ hb;(try clear hb);(try clear hb2);(try clear hk);(try clear hi);refine hK.out _ _ ⟨(blk_cell bg.out 0).trans rfl,(blk_cell bg.out 1).trans rfl⟩ (fun hHeld=>?_);clear hK K;refine Nm_ 15 ?_;refine P_ 3 16 ?_;refine P_ 4 17 ?_;refine O_ 6 19 fun K hK=>?_
             refine g_ Tryz.func30 #[.int .i64 (wrap64 (Int.tdiv (wrap64 (ae*af)) 8)),.int .i64 2] ?_
             with_reducible refine(descantref1_Low.calls k (wrap64 (Int.tdiv (wrap64 (ae*af)) 8)) 2 t124 _ A6.out).mono ?_
             rintro e tV ⟨rfl,hb⟩;refine⟨_,rfl,?_⟩;replace bg:=Z_ (blk_below (K_ bg) hb);replace HB:=Hb_ hb;(try clear hb);(try clear hb2);(try clear hk);(try clear hi);refine hK.out _ _ ⟨(blk_cell bg.out 0).trans rfl,(blk_cell bg.out 1).trans rfl⟩ (fun hHeld=>?_);clear hK K;refine Nm_ 19 ?_;refine P_ 7 20 ?_;refine O_ 10 23 fun K hK=>?_
             refine g_ Tryz.func30 #[.int .i64 af,.int .i64 2] ?_
             with_reducible refine(descantref1_Low.calls k af 2 bJ _ A8.out).mono ?_
             rintro e tX ⟨rfl,hb⟩;refine⟨_,rfl,?_⟩;replace bg:=Z_ (blk_below (K_ bg) hb);replace HB:=Hb_ hb;(try clear hb);(try clear hb2);(try clear hk);(try clear hi);refine hK.out _ _ ⟨(blk_cell bg.out 0).trans rfl,(blk_cell bg.out 1).trans rfl⟩ (fun hHeld=>?_);clear hK K;refine Nm_ 23 ?_;refine P_ 11 24 ?_;refine P_ 12 6 ?_;refine done_ (done_of HT_.out (by kernel_rfl)) ?_
             try go_wp2_with (first|(refine G_ 29 Tryz.func30 #[.int .i64 (a1.size:Int),.int .i64 4] ?_;refine(descantref1_Low.calls k (a1.size:Int) 4 bu _ EW.out).mono ?_;rintro e Gr ⟨rfl,hb⟩;refine⟨_,rfl,?_⟩;replace bg:=Z_ (blk_below (K_ bg) hb);replace HB:=Hb_ hb;(try clear hb))|(refine G_ 43 Tryz.func30 #[.int .i64 (((((((((((⟨#[87,65,86,69,102,109,116,32,16,0,0,0,1,0]⟩:ByteArray)++bz)++(⟨#[114,97,116,101,97,110,100,98]⟩:ByteArray))++t124)++bJ)++(⟨#[100,97,116,97]⟩:ByteArray))++bu)++a1)++(⟨#[112]⟩:ByteArray))++(⟨#[109,111,114,101,3,0,0,0,97,98,99,100]⟩:ByteArray)).size:Int),.int .i64 4] ?_;refine(descantref1_Low.calls k (((((((((((⟨#[87,65,86,69,102,109,116,32,16,0,0,0,1,0]⟩:ByteArray)++bz)++(⟨#[114,97,116,101,97,110,100,98]⟩:ByteArray))++t124)++bJ)++(⟨#[100,97,116,97]⟩:ByteArray))++bu)++a1)++(⟨#[112]⟩:ByteArray))++(⟨#[109,111,114,101,3,0,0,0,97,98,99,100]⟩:ByteArray)).size:Int) 4 t127 _ EL.out).mono ?_;rintro e QF ⟨rfl,hb⟩;refine⟨_,rfl,?_⟩;replace bg:=Z_ (blk_below (K_ bg) hb);replace HB:=Hb_ hb;(try clear hb)))
             try (have hA_:=EL.out;simp[ByteArray.size_append] at hA_;refine(descantref1_Low.calls k _ 4 _ _ hA_).mono ?_;rintro e QF ⟨rfl,hb⟩;have bN:=Z_ (below_step HB.out hb);clear HB hb;have HB:=bN;clear bN;go_wp2)
             go_ret;exact⟨E_,B_⟩
            ·rw[if_neg c19] at H;exact absurd H (by simp)
           ·rw[if_neg c18] at H;exact absurd H (by simp)
          ·rw[if_neg c16] at H;exact absurd H (by simp)
         ·rw[if_neg c15] at H;exact absurd H (by simp)
        ·rw[if_neg c14] at H;have c14b0:(((a1.size:Int)%2)==1)=false:=beq_eq_false_iff_ne.mpr c14;have c14b1:(((a1.size:Int)%2) !=1)=true:=bne_iff_ne.mpr c14
         by_cases c28:((((((((⟨#[87,65,86,69,102,109,116,32,16,0,0,0,1,0]⟩:ByteArray)++bz)++(⟨#[114,97,116,101,97,110,100,98]⟩:ByteArray))++t124)++bJ)++(⟨#[100,97,116,97]⟩:ByteArray))++bu)++a1).size+12≤9223372036854775807
         ·rw[if_pos c28] at H;have c28b0:=eq_true c28;have c28b1:=dt_ c28
          try have c28b2:(9223372036854775807<((((((((⟨#[87,65,86,69,102,109,116,32,16,0,0,0,1,0]⟩:ByteArray)++bz)++(⟨#[114,97,116,101,97,110,100,98]⟩:ByteArray))++t124)++bJ)++(⟨#[100,97,116,97]⟩:ByteArray))++bu)++a1).size+12)=False:=eq_false (Nat.not_lt.2 c28)
          (try (have c28b3:=c28b2;simp only[ByteArray.size_append] at c28b3));(try (have c28b9:=c28b2;simp only[ByteArray.size_append,show(⟨#[87,65,86,69,102,109,116,32,16,0,0,0,1,0]⟩:ByteArray).size=14 from rfl,show(⟨#[114,97,116,101,97,110,100,98]⟩:ByteArray).size=8 from rfl,show(⟨#[100,97,116,97]⟩:ByteArray).size=4 from rfl,show(⟨#[112]⟩:ByteArray).size=1 from rfl,show(⟨#[109,111,114,101,3,0,0,0,97,98,99,100]⟩:ByteArray).size=12 from rfl,show(⟨#[82,73,70,70]⟩:ByteArray).size=4 from rfl] at c28b9));replace H:=Ob_ H;obtain⟨jL,yf,H⟩:=H;(try dsimp only at H);have KA:=Z_ yf;clear yf
          by_cases lJ:4+jL.size≤9223372036854775807
          ·rw[if_pos lJ] at H;have c30b0:=eq_true lJ;have c30b1:=dt_ lJ
           try have c30b2:(9223372036854775807<4+jL.size)=False:=eq_false (Nat.not_lt.2 lJ)
           by_cases c31:((⟨#[82,73,70,70]⟩:ByteArray)++jL).size+(((((((((⟨#[87,65,86,69,102,109,116,32,16,0,0,0,1,0]⟩:ByteArray)++bz)++(⟨#[114,97,116,101,97,110,100,98]⟩:ByteArray))++t124)++bJ)++(⟨#[100,97,116,97]⟩:ByteArray))++bu)++a1)++(⟨#[109,111,114,101,3,0,0,0,97,98,99,100]⟩:ByteArray)).size≤9223372036854775807
           ·rw[if_pos c31] at H;have c31b0:=eq_true c31;have c31b1:=dt_ c31
            try have c31b2:(9223372036854775807<((⟨#[82,73,70,70]⟩:ByteArray)++jL).size+(((((((((⟨#[87,65,86,69,102,109,116,32,16,0,0,0,1,0]⟩:ByteArray)++bz)++(⟨#[114,97,116,101,97,110,100,98]⟩:ByteArray))++t124)++bJ)++(⟨#[100,97,116,97]⟩:ByteArray))++bu)++a1)++(⟨#[109,111,114,101,3,0,0,0,97,98,99,100]⟩:ByteArray)).size)=False:=eq_false (Nat.not_lt.2 c31)
            (try (have c31b3:=c31b2;simp only[ByteArray.size_append] at c31b3));(try (have c31b9:=c31b2;simp only[ByteArray.size_append,show(⟨#[87,65,86,69,102,109,116,32,16,0,0,0,1,0]⟩:ByteArray).size=14 from rfl,show(⟨#[114,97,116,101,97,110,100,98]⟩:ByteArray).size=8 from rfl,show(⟨#[100,97,116,97]⟩:ByteArray).size=4 from rfl,show(⟨#[112]⟩:ByteArray).size=1 from rfl,show(⟨#[109,111,114,101,3,0,0,0,97,98,99,100]⟩:ByteArray).size=12 from rfl,show(⟨#[82,73,70,70]⟩:ByteArray).size=4 from rfl] at c31b9));obtain rfl:=Option.some.inj H
            go_enter Tryz.func11,Tryz.ntmps11
            try go_wp2_with (first|(refine X_ 2 #[.int .i64 ae,.int .i64 af] 23 ?_;intro p9 hg w32 hbox hb;have bg:=Z_ (hbox);have yc:=Z_ (G2_ hg:w.heap.size≤_);have G8:=yc;replace HB:=Hb_ hb;clear hb hbox hg;have KC:=cz_ bg 0;have KD:=cz_ bg 1;have KE:=fz_ bg 0;have KF:=fz_ bg 1))
            replace bg:=Z_ (blk_drew bg.out);replace HB:=Z_ (below_drew1 HB.out);refine start_ (n:=13) (S:=fun w'=>w'.cell? ⟨p9,0,none⟩=some (.int .i64 ae)∧w'.cell? ⟨p9,1,none⟩=some (.int .i64 af)) (ds:= []) #[false,false,false,false,false,false,false,false,false,false,false,false,false] (by kernel_rfl) rfl rfl ⟨(blk_cell bg.out 0).trans rfl,(blk_cell bg.out 1).trans rfl⟩ (fun hHeld=>?_);refine with_tabW descanttop_wav.tab2 descanttop_wav.bits2 (fun HT_ HW_=>?_);generalize w32.drew=EM at bg HB hHeld ⊢;refine P_ 0 13 ?_;refine P_ 5 18 ?_;refine P_ 8 21 ?_;refine T_ 1 14 (y:=by rintro w' ⟨s0,s1⟩;go_simp;with_reducible rfl) (h:=?_);refine T_ 9 22 (y:=by rintro w' ⟨s0,s1⟩;go_simp;with_reducible rfl) (h:=?_);refine O_ 2 15 fun K hK=>?_
            refine g_ Tryz.func30 #[.int .i64 ae,.int .i64 2] ?_
            with_reducible refine(descantref1_Low.calls k ae 2 bz _ A3.out).mono ?_
            rintro e Qk ⟨rfl,hb⟩;refine⟨_,rfl,?_⟩;replace bg:=Z_ (blk_below (K_ bg) hb);replace HB:=Hb_ hb;(try clear hb);(try clear hb2);(try clear hk);(try clear hi);refine hK.out _ _ ⟨(blk_cell bg.out 0).trans rfl,(blk_cell bg.out 1).trans rfl⟩ (fun hHeld=>?_);clear hK K;refine Nm_ 15 ?_;refine P_ 3 16 ?_;refine P_ 4 17 ?_;refine O_ 6 19 fun K hK=>?_
            refine g_ Tryz.func30 #[.int .i64 (wrap64 (Int.tdiv (wrap64 (ae*af)) 8)),.int .i64 2] ?_
            with_reducible refine(descantref1_Low.calls k (wrap64 (Int.tdiv (wrap64 (ae*af)) 8)) 2 t124 _ A6.out).mono ?_
            rintro e Tn ⟨rfl,hb⟩;refine⟨_,rfl,?_⟩;replace bg:=Z_ (blk_below (K_ bg) hb);replace HB:=Hb_ hb;(try clear hb);(try clear hb2);(try clear hk);(try clear hi);refine hK.out _ _ ⟨(blk_cell bg.out 0).trans rfl,(blk_cell bg.out 1).trans rfl⟩ (fun hHeld=>?_);clear hK K;refine Nm_ 19 ?_;refine P_ 7 20 ?_;refine O_ 10 23 fun K hK=>?_
            refine g_ Tryz.func30 #[.int .i64 af,.int .i64 2] ?_
            with_reducible refine(descantref1_Low.calls k af 2 bJ _ A8.out).mono ?_
            rintro e VE ⟨rfl,hb⟩;refine⟨_,rfl,?_⟩;replace bg:=Z_ (blk_below (K_ bg) hb);replace HB:=Hb_ hb;(try clear hb);(try clear hb2);(try clear hk);(try clear hi);refine hK.out _ _ ⟨(blk_cell bg.out 0).trans rfl,(blk_cell bg.out 1).trans rfl⟩ (fun hHeld=>?_);clear hK K;refine Nm_ 23 ?_;refine P_ 11 24 ?_;refine P_ 12 6 ?_;refine done_ (done_of HT_.out (by kernel_rfl)) ?_
            try go_wp2_with (first|(refine G_ 29 Tryz.func30 #[.int .i64 (a1.size:Int),.int .i64 4] ?_;refine(descantref1_Low.calls k (a1.size:Int) 4 bu _ EW.out).mono ?_;rintro e JY ⟨rfl,hb⟩;refine⟨_,rfl,?_⟩;replace bg:=Z_ (blk_below (K_ bg) hb);replace HB:=Hb_ hb;(try clear hb))|(refine G_ 43 Tryz.func30 #[.int .i64 ((((((((((⟨#[87,65,86,69,102,109,116,32,16,0,0,0,1,0]⟩:ByteArray)++bz)++(⟨#[114,97,116,101,97,110,100,98]⟩:ByteArray))++t124)++bJ)++(⟨#[100,97,116,97]⟩:ByteArray))++bu)++a1)++(⟨#[109,111,114,101,3,0,0,0,97,98,99,100]⟩:ByteArray)).size:Int),.int .i64 4] ?_;refine(descantref1_Low.calls k ((((((((((⟨#[87,65,86,69,102,109,116,32,16,0,0,0,1,0]⟩:ByteArray)++bz)++(⟨#[114,97,116,101,97,110,100,98]⟩:ByteArray))++t124)++bJ)++(⟨#[100,97,116,97]⟩:ByteArray))++bu)++a1)++(⟨#[109,111,114,101,3,0,0,0,97,98,99,100]⟩:ByteArray)).size:Int) 4 jL _ KA.out).mono ?_;rintro e Jr ⟨rfl,hb⟩;refine⟨_,rfl,?_⟩;replace bg:=Z_ (blk_below (K_ bg) hb);replace HB:=Hb_ hb;(try clear hb)))
            try (have hA_:=KA.out;simp[ByteArray.size_append] at hA_;refine(descantref1_Low.calls k _ 4 _ _ hA_).mono ?_;rintro e QF ⟨rfl,hb⟩;have bN:=Z_ (below_step HB.out hb);clear HB hb;have HB:=bN;clear bN;go_wp2)
            go_ret;exact⟨E_,B_⟩
           ·rw[if_neg c31] at H;exact absurd H (by simp)
          ·rw[if_neg lJ] at H;exact absurd H (by simp)
         ·rw[if_neg c28] at H;exact absurd H (by simp)
       ·rw[if_neg c13] at H;exact absurd H (by simp)
      ·rw[if_neg c12] at H;exact absurd H (by simp)
     ·rw[if_neg c10] at H;exact absurd H (by simp)
    ·rw[if_neg c9] at H;exact absurd H (by simp)
   ·rw[if_neg c7] at H;exact absurd H (by simp)
  ·rw[if_neg c5] at H;exact absurd H (by simp)
 ·rw[if_neg c4] at H;exact absurd H (by simp)
end Go.Proofs.YtfghldonnffldaaGreatDoor.VTwo
namespace Go.Proofs.YtfghldonnffldaaGreatDoor
open Go.RowKit YtfghldonnffldaaGreatDoorW.PrintWords YtfghldonnffldaaGreatDoorW.PrintLast YtfghldonnffldaaGreatDoorW.PrintMore TBase
open VTwo
namespace Le
def val:List Int→Nat
 | []=>0
 |b::r=>b.toNat+256*val r
theorem val_snoc(l:List Int)(b:Int):val (l++ [b])=val l+256 ^ l.length*b.toNat:=by
 induction l with
 |nil=>simp[val]
 |cons a r ih=>
  rw[List.cons_append,val,ih,val,List.length_cons,Nat.pow_succ,Nat.mul_add,Nat.add_assoc,Nat.mul_comm (256 ^ r.length) 256,Nat.mul_assoc]
theorem val_lt(l:List Int)(h:∀x∈l,0≤x∧x≤255):val l<256 ^ l.length:=by
 induction l with
 |nil=>exact Nat.one_pos
 |cons a r ih=>
  have h1:=h a List.mem_cons_self;have h2:=ih (fun x hx=>h x (List.mem_cons_of_mem _ hx));rw[val,List.length_cons,Nat.pow_succ];omega
theorem bytes_bd(s:ByteArray):∀x∈bytesOf s,0≤x∧x≤255:=by
 intro x hx;unfold bytesOf at hx;obtain⟨b,_,rfl⟩:=List.mem_map.1 hx;have:=b.toNat_lt;omega
theorem take_bytes(s:ByteArray)(i:Nat)(h:i<s.size):(bytesOf s).take (i+1)=(bytesOf s).take i++ [bt s i]:=by
 have hl:i<(bytesOf s).length:=by rw[bytesOf_length];exact h
 rw[List.take_succ_eq_append_getElem hl]
 congr 2
 have h1:=rd_bytesOf s (i:Int);unfold rd at h1;rw[nC_,gD_,gE_ hl] at h1;exact h1
theorem or_add(a b i:Nat)(hi:i<4)(ha:a<256 ^ i)(hb:b<256):Go.bits .or .i64 (a:Int) (shl .i64 (wrap64 (b:Int)) (wrap64 (8*(i:Int))))=((a+256 ^ i*b:Nat):Int):=by
 have w1:wrap64 (8*(i:Int))=((8*i:Nat):Int):=by unfold wrap64;omega
 have w2:wrap64 (b:Int)=(b:Int):=by unfold wrap64;omega
 rw[w1,w2];have hp:256 ^ i=2 ^ (8*i):=by rw[Nat.pow_mul]
 have hle:256 ^ i≤256 ^ 3:=Nat.pow_le_pow_right (by omega) (by omega);have hm:256 ^ i*b≤256 ^ 3*255:=Nat.mul_le_mul hle (by omega)
 have hs:shl .i64 (b:Int) ((8*i:Nat):Int)=((256 ^ i*b:Nat):Int):=by
  unfold shl;rw[nC_,Nat.min_eq_left (by show 8*i≤64;omega)]
  have e:(b:Int)*2 ^ (8*i)=((256 ^ i*b:Nat):Int):=by
   rw[hp,Int.natCast_mul,Int.mul_comm]
   congr 1
   first|done|exact(Int.natCast_pow 2 (8*i)).symm
  rw[e,IntKind.wrap_i64];omega
 rw[hs,or64 a (256 ^ i*b) (by omega) (by omega)];rw[hp] at ha ⊢;have h3:=Nat.two_pow_add_eq_or_of_lt (i:=8*i) (b:=a) ha b;rw[Nat.or_comm,←h3,Nat.add_comm]
theorem get_l0(s:ByteArray)(hs:s.size≤4):∀d k i,i+d=s.size→d<k→field_Get.l0 k s (val ((bytesOf s).take i):Int) (s.size:Int) (i:Int)=some ((val (bytesOf s):Int),0):=by
 intro d
 induction d with
 |zero=>
  intro k i hi hk;obtain⟨k,rfl⟩:∃m,k=m+1:=⟨k - 1,by omega⟩;rw[field_Get.l0,if_neg (by omega),List.take_of_length_le (by rw[bytesOf_length];omega)]
 |succ d ih=>
  intro k i hi hk;obtain⟨k,rfl⟩:∃m,k=m+1:=⟨k - 1,by omega⟩;have hb:=bt_range s (i:Int);obtain⟨b,hbb⟩:∃b:Nat,bt s (i:Int)=b:=⟨(bt s (i:Int)).toNat,by omega⟩;have hl:((bytesOf s).take i).length=i:=by rw[List.length_take,bytesOf_length];omega
  have hv:=val_lt ((bytesOf s).take i) (fun x hx=>bytes_bd s x (List.mem_of_mem_take hx));rw[hl] at hv;have w1:wrap64 ((i:Int)+1)=((i+1:Nat):Int):=by unfold wrap64;omega
  have w0:0≤wrap64 (8*(i:Int)):=by unfold wrap64;omega
  have h1:=or_add (val ((bytesOf s).take i)) b i (by omega) hv (by omega)
  have h2:val ((bytesOf s).take (i+1))=val ((bytesOf s).take i)+256 ^ i*b:=by
   rw[take_bytes s i (by omega),val_snoc,hl,hbb,nC_]
  rw[field_Get.l0,if_pos (by omega),if_pos (by omega),if_pos (by omega),if_pos w0,hbb,h1,←h2,w1];exact ih k (i+1) (by omega) (by omega)
theorem get_f(s:ByteArray)(h0:0<s.size)(hs:s.size≤4):field_Get.f 20 s=some ((val (bytesOf s):Int),0):=by
 unfold field_Get.f
 have hne:¬s.toList=([]:List UInt8):=by
  intro h;have h1:s.toList.length=s.size:=by rw[ByteArray.toList_eq];exact data_length s
  rw[h] at h1;have h2:0=s.size:=h1;omega
 rw[if_neg hne,df_ (by omega),field_Get.j0,if_neg (by decide)];exact get_l0 s hs s.size 19 0 (by omega) (by omega)
def bytes(n x:Nat):List Int:=(List.range n).map fun i=>((x / 256 ^ i%256:Nat):Int)
theorem bytes_len(n x:Nat):(bytes n x).length=n:=by unfold bytes;rw[List.length_map,List.length_range]
theorem bytes_succ(n x:Nat):bytes (n+1) x=bytes n x++ [((x / 256 ^ n%256:Nat):Int)]:=by unfold bytes;rw[List.range_succ,List.map_append];rfl
theorem put_l0(n x:Nat)(hn:n≤4):∀d k i,i+d=n→d<k→field_Put.l0 k (x:Int) (bytes i x++List.replicate (n - i) 0) (n:Int) (i:Int)=some (strOfNums (bytes n x),0):=by
 intro d
 induction d with
 |zero=>
  intro k i hi hk;obtain⟨k,rfl⟩:∃m,k=m+1:=⟨k - 1,by omega⟩;obtain rfl:i=n:=by omega
  rw[field_Put.l0,if_neg (by omega),Nat.sub_self,List.replicate_zero,List.append_nil]
 |succ d ih=>
  intro k i hi hk;obtain⟨k,rfl⟩:∃m,k=m+1:=⟨k - 1,by omega⟩;have w1:wrap64 ((i:Int)+1)=((i+1:Nat):Int):=by unfold wrap64;omega
  have w0:wrap64 (8*(i:Int))=((8*i:Nat):Int):=by unfold wrap64;omega
  have hs:shr .i64 (x:Int) ((8*i:Nat):Int)%256=((x / 256 ^ i%256:Nat):Int):=by
   unfold shr;rw[nC_,Nat.min_eq_left (by show 8*i≤64;omega)];have hp:256 ^ i=2 ^ (8*i):=by rw[Nat.pow_mul]
   have e:(x:Int) / 2 ^ (8*i)=((x / 2 ^ (8*i):Nat):Int):=by
    rw[Int.natCast_ediv]
    congr 1
    first|done|exact(Int.natCast_pow 2 (8*i)).symm
   rw[e,hp];omega
  have hset:(bytes i x++List.replicate (n - i) 0).set i ((x / 256 ^ i%256:Nat):Int)=bytes (i+1) x++List.replicate (n - (i+1)) 0:=by
   rw[List.set_append_right _ _ (by rw[bytes_len];exact Nat.le_refl _),bytes_len,Nat.sub_self,show n - i=(n - (i+1))+1 by omega,List.replicate_succ,List.set_cons_zero,bytes_succ,List.append_assoc];rfl
  rw[field_Put.l0,if_pos (by omega),w0,if_pos (by omega),if_pos (by omega),if_pos (by rw[List.length_append,bytes_len,List.length_replicate];omega),hs,nC_,hset,w1];exact ih k (i+1) (by omega) (by omega)
theorem put_f(n x:Nat)(h1:1≤n)(hn:n≤4)(hx:x<256 ^ n):field_Put.f 20 (x:Int) (n:Int)=some (strOfNums (bytes n x),0):=by
 have w0:wrap64 (8*(n:Int))=((8*n:Nat):Int):=by unfold wrap64;omega
 have hs:shr .i64 (x:Int) ((8*n:Nat):Int)=0:=by
  unfold shr;rw[nC_,Nat.min_eq_left (by show 8*n≤64;omega)];have hp:256 ^ n=2 ^ (8*n):=by rw[Nat.pow_mul]
  have e:(x:Int) / 2 ^ (8*n)=((x / 2 ^ (8*n):Nat):Int):=by
   rw[Int.natCast_ediv]
   congr 1
   first|done|exact(Int.natCast_pow 2 (8*n)).symm
  rw[e,←hp,Nat.div_eq_of_lt hx];rfl
 unfold field_Put.f;rw[if_neg (by omega),if_neg (by omega),if_neg (by omega),w0,if_pos (by omega),hs];show field_Put.j0 20 _ _ false=_;rw[field_Put.j0,if_neg (by decide),if_pos (by omega),if_pos (by omega),bs_,nC_,List.length_replicate];have:=put_l0 n x hn n 19 0 (by omega) (by omega);rw[Nat.sub_zero] at this;exact this
def vb(x:Nat):List Int:=if x<128 then [(x:Int)] else [((x%128+128:Nat):Int),((x / 128:Nat):Int)]
theorem tdiv128(x:Nat):Int.tdiv (x:Int) 128=((x / 128:Nat):Int):=rfl
theorem vput_f(x:Nat)(h:x<16384):varint_Put.f 20 (x:Int)=some (strOfNums (vb x),0):=by
 unfold varint_Put.f;rw[if_neg (by omega),df_ (by omega),varint_Put.j0,if_neg (by decide)];unfold vb
 by_cases hx:x<128
 ·have e:(x:Int)%256=(x:Int):=by omega
  rw[if_pos hx,varint_Put.l0,if_neg (by omega),if_pos (by decide),e];rfl
 ·have e1:wrap64 (Int.tdiv (x:Int) 128)=((x / 128:Nat):Int):=by rw[tdiv128];unfold wrap64;omega
  have e2:wrap64 (Int.tmod (x:Int) 128+128)%256=((x%128+128:Nat):Int):=by
   have:Int.tmod (x:Int) 128=((x%128:Nat):Int):=rfl;rw[this];unfold wrap64;omega
  have e3:((x / 128:Nat):Int)%256=((x / 128:Nat):Int):=by omega
  rw[if_neg hx,varint_Put.l0,if_pos (by omega),if_pos (by decide),e1,e2,varint_Put.l0,if_neg (by omega),if_pos (by simp),e3];rfl
theorem number_f(x:Nat)(h:x<16384):stream_number.f 20 (x:Int)=some (strOfNums (vb x)):=by
 unfold stream_number.f;rw[vput_f x h];rfl
end Le
end Go.Proofs.YtfghldonnffldaaGreatDoor
namespace Go.Proofs.YtfghldonnffldaaGreatDoor
open Go.RowKit YtfghldonnffldaaGreatDoorW.PrintWords YtfghldonnffldaaGreatDoorW.PrintLast YtfghldonnffldaaGreatDoorW.PrintMore TBase
theorem bcc_used(b:Nat)(w:World)(h0:w.cell? ⟨b,0,none⟩=some (.pointer (some ⟨b,0,none⟩))):
  Calls Tryz.prog 67 #[.pointer (some ⟨b,0,none⟩)] w fun e w'=>e= .returned (.tuple #[])∧w'=w:=by
 obtain⟨j,hj,_⟩:∃j,Tryz.prog.info? 66=some j∧j.size=2:=⟨(Tryz.prog.info? 66).get!,by kernel_rfl,by kernel_rfl⟩
 go_enter Tryz.func67,Tryz.ntmps67
 go_wp2;rw[Lib.run_neq_ptr_same w _ Tryz.underlying64 hj];go_wp2
 go_end0
 exact⟨rfl,rfl⟩
theorem bcc_fresh(b:Nat)(w:World)(h0:w.cell? ⟨b,0,none⟩=some (.pointer none))(hsh:w.shape? b=some (66,2))(hfz:w.frozen? ⟨b,0,none⟩=false):
  Calls Tryz.prog 67 #[.pointer (some ⟨b,0,none⟩)] w fun e w'=>e= .returned (.tuple #[])∧w'=w.setCell ⟨b,0,none⟩ (.pointer (some ⟨b,0,none⟩)):=by
 obtain⟨j,hj,hjs⟩:∃j,Tryz.prog.info? 66=some j∧j.size=2:=⟨(Tryz.prog.info? 66).get!,by kernel_rfl,by kernel_rfl⟩
 go_enter Tryz.func67,Tryz.ntmps67
 go_wp2;rw[Lib.run_to_unsafe w ⟨b,0,none⟩ Tryz.underlying64 Tryz.underlying163 hj (by rw[hjs];decide) hsh (Nat.zero_lt_succ 1)];simp only[Result.andThen];rw[Oper.upon_value];go_wp2;rw[run_callFunc_extern Tryz.func98 (by kernel_rfl) (by kernel_rfl) (by kernel_rfl) (e:=Extern.AbiNoEscape.same) (by kernel_rfl)];rw[Lib.run_noEscape];simp only[Result.andThen];rw[Oper.upon_value];go_wp2;rw[Lib.run_from_unsafe w ⟨b,0,none⟩ Tryz.underlying163 Tryz.underlying64 hj hsh (by kernel_rfl)];simp only[Result.andThen];rw[Oper.upon_value];go_wp2
 go_end0
 exact⟨rfl,rfl⟩
theorem bcc_calls(B b:Nat)(bs:List Value)(w:World)(h:Lib.IsBuilderF 66 5 B b bs w):
  Calls Tryz.prog 67 #[.pointer (some ⟨b,0,none⟩)] w fun e w'=>e= .returned (.tuple #[])∧Lib.BuilderAtF 66 5 B b (.pointer (some ⟨b,0,none⟩)) bs w'∧Below B w w':=by
 rcases h with h|h
 ·refine(bcc_fresh b w h.cell0 h.shape h.frozen0).mono ?_;rintro e w' ⟨rfl,rfl⟩;exact⟨rfl,h.used _,(Below.refl B w).setCell (p:=⟨b,0,none⟩) h.1 _⟩
 ·refine(bcc_used b w h.cell0).mono ?_;rintro e w' ⟨rfl,rfl⟩;exact⟨rfl,h,Below.refl B _⟩
theorem bws_calls(B b:Nat)(bs:List Value)(s:ByteArray)(w:World)(h:Lib.IsBuilderF 66 5 B b bs w)(hlen:bs.length+s.size≤140737488355328)(hBw:B≤w.heap.size):
  Calls Tryz.prog 32 #[.pointer (some ⟨b,0,none⟩),.string s] w fun e w'=>e= .returned (.tuple #[.int .i64 s.size,.nilIface])∧Lib.BuilderAtF 66 5 B b (.pointer (some ⟨b,0,none⟩)) (bs++Lib.strCells s) w'∧Below B w w':=by
 obtain⟨i0,hi,hz0,hz1,hz2⟩:∃i,Tryz.prog.info? 5=some i∧i.zero=some (.int .u8 0)∧i.size=1∧i.bytes=1:=⟨(Tryz.prog.info? 5).get!,by kernel_rfl,by kernel_rfl,by kernel_rfl,by kernel_rfl⟩
 go_enter Tryz.func32,Tryz.ntmps32
 go_wp2_with (go_at_call 67;refine(bcc_calls B b bs _ h).mono ?_)
 rintro e w1 ⟨rfl,h1,hb1⟩;obtain⟨hB,v,hbk,hown,hne⟩:=h1;have c0:w1.cell? ⟨b,0,none⟩=some (.pointer (some ⟨b,0,none⟩)):=by rw[Lib.cell_of_heap hbk];rfl
 have c1:w1.cell? ⟨b,1,none⟩=some v:=by rw[Lib.cell_of_heap hbk];rfl
 go_wp2_with (at_builtin;refine Lib.wpList_append_own_stringF _ rfl _ _ 27 9 rfl B 5 i0 Tryz.underlying27 Tryz.underlying9 hi hz0 hz1 hz2 _ _ _ rfl hown s rfl ?c3 ?c4 ?c5 ?_)
 case c3=>unfold maxLen;omega
 case c4=>omega
 case c5=>have:=hb1.size;omega
 intro v' w2 hown' hgrow _;have hlt:b<w1.heap.size:=blk_lt hbk
 have hb2:w2.heap[b]?=some (.cells #[.pointer (some ⟨b,0,none⟩),v] 66 (0,0)):=by
  rw[hgrow.block b hlt (fun e=>hne e.symm)];exact hbk
 have d0:w2.cell? ⟨b,0,none⟩=some (.pointer (some ⟨b,0,none⟩)):=by rw[Lib.cell_of_heap hb2];rfl
 have d1:w2.cell? ⟨b,1,none⟩=some v:=by rw[Lib.cell_of_heap hb2];rfl
 have f1:w2.frozen? ⟨b,1,none⟩=false:=Lib.frozen_of_heap hb2 1
 obtain⟨ao,n',cap,rfl⟩:∃ao n' cap,v'= .slice ao n' cap:=by
  rcases hown'.2 with ⟨hv,_⟩|⟨g,cap,cur,fz,hv,_⟩
  ·exact⟨_,_,_,hv⟩
  ·exact⟨_,_,_,hv⟩
 go_wp2;go_ret2;refine⟨rfl,?_,?_⟩
 ·exact Lib.BuilderAtF.put (T:=66) (e:=5) hB hb2 (bs':=bs++Lib.strCells s) (by simpa [Lib.strCells_length] using hown') (by decide)
 ·exact(hb1.grown hgrow (by have:=hb1.size;omega) (fun k hk=>(hown.lt k hk).1)).setCell (p:=⟨b,1,none⟩) hB _
end Go.Proofs.YtfghldonnffldaaGreatDoor
namespace Go.Proofs.YtfghldonnffldaaGreatDoor
open Go.RowKit YtfghldonnffldaaGreatDoorW.PrintWords YtfghldonnffldaaGreatDoorW.PrintLast YtfghldonnffldaaGreatDoorW.PrintMore TBase
open VTwo
theorem bldF_below{B b:Nat}{bs:List Value}{W W':World}(h:Lib.IsBuilderF 66 5 B b bs W)(hb:Below W.heap.size W W'):Lib.IsBuilderF 66 5 B b bs W':=by
 have key:∀p,Lib.BuilderAtF 66 5 B b p bs W→Lib.BuilderAtF 66 5 B b p bs W':=by
  rintro p ⟨h1,v,h2,⟨q1,q2⟩,h4⟩;refine⟨h1,v,blk_below h2 hb,⟨q1,?_⟩,h4⟩
  rcases q2 with q2|⟨g,cap,cur,fz,e,ge,hh,r⟩
  ·exact .inl q2
  ·exact .inr ⟨g,cap,cur,fz,e,ge,blk_below hh hb,r⟩
 rcases h with h|h
 ·exact .inl (key _ h)
 ·exact .inr (key _ h)
theorem size_drew{w:World}{g:Nat}(h:g≤w.heap.size):g≤w.drew.heap.size:=h
theorem bldF_new{b:Nat}{W:World}(h:W.heap[b]?=some (.cells #[.pointer none,.slice none 0 0] 66 (0,0))):Lib.IsBuilderF 66 5 b b (Lib.byteCells []) W:=
 .inl ⟨Nat.le_refl _,.slice none 0 0,h,⟨by simp[Lib.byteCells],.inl ⟨rfl,rfl⟩⟩,by simp[Value.ownBlock]⟩
theorem wstr_calls(b:Nat)(L:List UInt8)(s:ByteArray)(w:World)(h:Lib.IsBuilderF 66 5 b b (Lib.byteCells L) w)(hlen:L.length+s.size≤140737488355328)(hBw:b≤w.heap.size):
  Calls Tryz.prog 32 #[.pointer (some ⟨b,0,none⟩),.string s] w fun e w'=>e= .returned (.tuple #[.int .i64 s.size,.nilIface])∧Lib.IsBuilderF 66 5 b b (Lib.byteCells (L++s.data.toList)) w'∧Below b w w':=by
 refine(bws_calls b b (Lib.byteCells L) s w h (by unfold Lib.byteCells;rw[List.length_map];exact hlen) hBw).mono ?_;rintro e w' ⟨rfl,h1,h2⟩;have e1:Lib.byteCells (L++s.data.toList)=Lib.byteCells L++Lib.strCells s:=by unfold Lib.byteCells Lib.strCells;rw[List.map_append]
 rw[e1];exact⟨rfl,.inr h1,h2⟩
theorem str_calls(b:Nat)(L:List UInt8)(w:World)(h:Lib.IsBuilderF 66 5 b b (Lib.byteCells L) w)(hBw:b≤w.heap.size):
  Calls Tryz.prog 34 #[.pointer (some ⟨b,0,none⟩)] w fun e w'=>e= .returned (.string ⟨L.toArray⟩)∧Lib.IsBuilderF 66 5 b b (Lib.byteCells L) w'∧Below b w w':=
 Tryz.Builder_String_any_f b b L w h hBw
theorem conv_bytes(W:World)(xs:List Int)(n:Nat)(hn:xs.length=n):(convert 27 9 (.slice (some ⟨W.heap.size,0,none⟩) n n)).run Tryz.prog (W.alloc (.cells (nums .u8 xs).toArray 5))= .ok (.string (strOfNums xs)) (W.alloc (.cells (nums .u8 xs).toArray 5)):=
 run_convert_bytes_arg (W.alloc (.cells (nums .u8 xs).toArray 5)) 27 5 Tryz.underlying27 Tryz.underlying5 W.heap.size 0 n n xs hn (fun i hi=>by
  rw[blk_cell (blk_new W _)];unfold nums;have hlt:i<xs.length:=by omega
  rw[List.getElem?_toArray,Nat.zero_add,List.getElem?_map,gD_,gE_ hlt]
  rfl) 9 Tryz.underlying9
def dsct:ByteArray:=⟨#[68,83,67,84]⟩
def sput1(ch bi sz:Nat):ByteArray:=dsct++strOfNums [(ch:Int),bi,sz]
def sput2(fr:Nat)(hd tl:ByteArray):ByteArray:=strOfNums (Le.vb fr)++strOfNums (Le.vb hd.size)++strOfNums (Le.vb tl.size)++hd++tl
def sput3(l:List ByteArray):List UInt8:=(l.map fun s=>(strOfNums (Le.bytes 2 s.size)).data.toList).flatten
def sputL(ch bi sz fr:Nat)(hd tl:ByteArray)(l:List ByteArray):List UInt8:=(sput1 ch bi sz).data.toList++(sput2 fr hd tl).data.toList++sput3 l
def sput(ch bi sz fr:Nat)(hd tl:ByteArray)(l:List ByteArray):ByteArray:=
 ⟨(sputL ch bi sz fr hd tl l).toArray⟩++strOfNums (Le.bytes 4 (Crc.sum (sputL ch bi sz fr hd tl l)))++⟨(Lib.join (l.map (·.data.toList)) []).toArray⟩
theorem join_calls(A:Option Addr)(c:Nat)(l:List ByteArray)(n:Nat)(w:World)(hn:l.length=n)(hr:Kd.C Kd.string w A n l)(hc:n≤c)(hs:(Lib.join (l.map (·.data.toList)) []).length≤140737488355328)(hl:n≤140737488355328):
  Calls Tryz.prog 57 #[.slice A n c,.string ⟨#[]⟩] w fun e w'=>e= .returned (.string ⟨(Lib.join (l.map (·.data.toList)) []).toArray⟩)∧Below w.heap.size w w':=by
 subst hn
 by_cases h0:l= []
 ·subst h0;refine(Tryz.strings_Join_none A c ⟨#[]⟩ w).mono ?_;rintro e w' ⟨rfl,rfl⟩;exact⟨rfl,Below.refl _ _⟩
 ·have hp:0<l.length:=List.length_pos_iff.mpr h0;obtain⟨ad,rfl,h1⟩:=Kd.at_string hr 0 (by omega) (by omega);have h1':w.cell? ad=some (.string (rdOf ByteArray.empty l 0)):=h1;obtain⟨b,o,s⟩:=ad;have e:=spot_none h1';obtain rfl:s=none:=by injection e
  have hcells:∀(j:Nat) x,l[j]?=some x→w.cell? ⟨b,o+j,none⟩=some (.string x):=by
   intro j x hx;have hj:=(List.getElem?_eq_some_iff.1 hx).1;obtain⟨ad,e2,h2⟩:=Kd.at_string hr (j:Int) (by omega) (by omega)
   cases e2
   rw[nC_] at h2;have h3:rdOf ByteArray.empty l (j:Int)=x:=by unfold rdOf;rw[nC_,gD_,hx];rfl
   rw[h3] at h2
   cases j with
   |zero=>exact h2
   |succ j=>simpa [Addr.add] using h2
  exact Tryz.strings_Join b o c l ⟨#[]⟩ w hcells (World.block_lt_of_cell? w _ h1') hl hc hs
theorem sput1_len(ch bi sz:Nat):(sput1 ch bi sz).size=7:=by unfold sput1;rw[ByteArray.size_append,strOfNums_size];rfl
theorem vb_len(x:Nat):(strOfNums (Le.vb x)).size≤2:=by rw[strOfNums_size];unfold Le.vb;split<;>simp
theorem sput2_len(fr:Nat)(hd tl:ByteArray):(sput2 fr hd tl).size≤6+hd.size+tl.size:=by
 unfold sput2;have:=vb_len fr;have:=vb_len hd.size;have:=vb_len tl.size;simp only[ByteArray.size_append];omega
theorem sput3_len(l:List ByteArray):(sput3 l).length=2*l.length:=by
 unfold sput3
 induction l with
 |nil=>rfl
 |cons s r ih=>
  rw[List.map_cons,List.flatten_cons,List.length_append,ih,data_length,strOfNums_size,Le.bytes_len,List.length_cons];omega
theorem sput3_take(l:List ByteArray)(i:Nat)(h:i<l.length):sput3 (l.take (i+1))=sput3 (l.take i)++(strOfNums (Le.bytes 2 (l.getD i ByteArray.empty).size)).data.toList:=by
 have hs:l.take (i+1)=l.take i++ [l.getD i ByteArray.empty]:=by
  rw[List.take_succ_eq_append_getElem h,gD_,gE_ h];rfl
 rw[hs];unfold sput3;rw[List.map_append,List.flatten_append];simp
def spt.T5:Bool×List (List Nat×List Nat):=(true,[([],[]),([0],[0]),([1],[1]),([],[]),([3],[3]),([4],[4]),([5,2],[5]),([2,6],[2,6]),([],[]),([8],[8]),([9],[9]),([10,6],[10]),([7,11],[7,11]),([],[]),([13],[13]),([12,14],[12,14]),([],[]),([16],[16]),([15,17],[15,17]),([18,11],[18])])
def spt.B5:List Nat:= [0,1,3,0,8,24,63,127,0,256,768,1919,4095,0,8192,32767,0,65536,262143,524287]
theorem spt.tab5:rtab .any (opsOf Tryz.f23 5)=spt.T5:=by kernel_rfl
theorem spt.bits5:waitsOk spt.T5.2 spt.B5=true:=by kernel_rfl
def spt.T13:Bool×List (List Nat×List Nat):=(true,[([],[]),([],[]),([0,1],[0,1]),([],[]),([3],[3]),([4,0],[4]),([2,5],[2,5]),([6,5,0,1,2,3,4,5,6],[6]),([7,0,1,2,3,4,5,6,7],[])])
def spt.B13:List Nat:= [0,0,3,0,8,25,63,127,255]
theorem spt.tab13:rtab .any (opsOf Tryz.f23 13)=spt.T13:=by kernel_rfl
theorem spt.bits13:waitsOk spt.T13.2 spt.B13=true:=by kernel_rfl
theorem sput_calls(ch bi sz fr:Nat)(hd tl:ByteArray)(A:Option Addr)(n c:Nat)(l:List ByteArray)(w:World)(hh:headOk ch bi sz fr hd tl)(hn:stream_Many.f fr sz=some (n:Int))(hln:l.length=n)(Xk:n≤4096)(hok:∀s∈l,szB s=true)(hr:Kd.C Kd.string w A n l)(hc:n≤c)(hjs:(Lib.join (l.map (·.data.toList)) []).length≤140737488355328):
  Calls Tryz.prog 23 #[.agg #[.int .i64 ch,.int .i64 bi,.int .i64 sz,.int .i64 fr,.string hd,.string tl,.slice A n c]] w fun e w'=>e= .returned (.tuple #[.string (sput ch bi sz fr hd tl l),.int .i64 0])∧Below w.heap.size w w':=by
 have lM:=Tryz.underlying49;have HLN:=Lib.hid hln;have HO:=Z_ hok;have H0:=Z_ hr;have hbd:1≤ch∧ch≤2∧bi≤16∧sz≤64∧fr≤4096∧hd.size≤4096∧tl.size≤4096:=by obtain⟨h1,h2,h3,h4,h5,h6,h7,h8⟩:=hh;omega
 have YT:Aside0 ((w.alloc (.cells #[.int .i64 ch,.int .i64 bi,.int .i64 sz,.int .i64 fr,.string hd,.string tl,.slice A n c] 49)).heap[w.heap.size]?=some (.cells #[.int .i64 ch,.int .i64 bi,.int .i64 sz,.int .i64 fr,.string hd,.string tl,.slice A n c] 49 (0,0))):=⟨blk_new w _⟩;have YW:Aside0 (Below w.heap.size w (w.alloc (.cells #[.int .i64 ch,.int .i64 bi,.int .i64 sz,.int .i64 fr,.string hd,.string tl,.slice A n c] 49))):=⟨below_alloc (Below.refl _ _) _⟩;have CM:=Lib.hid (may_calls w.heap.size ch bi sz fr hd tl A n c l _ hh hn hln hok YT.out (Kd.C_below hr YW.out));clear hh hn hln hok hr;obtain⟨b1,b2,b3,b4,b5,b6,b7⟩:=hbd;have QG:=Lib.hid (Le.number_f fr (by omega));have QH:=Lib.hid (Le.number_f hd.size (by omega));have QI:=Lib.hid (Le.number_f tl.size (by omega));have v1:=vb_len fr;have v2:=vb_len hd.size;have v3:=vb_len tl.size;have hs2:sput2 fr hd tl=strOfNums (Le.vb fr)++strOfNums (Le.vb hd.size)++strOfNums (Le.vb tl.size)++hd++tl:=rfl;obtain⟨a1,ha1⟩:∃a,strOfNums (Le.vb fr)=a:=⟨_,rfl⟩;obtain⟨a2,ha2⟩:∃a,strOfNums (Le.vb hd.size)=a:=⟨_,rfl⟩;obtain⟨a3,Tp⟩:∃a,strOfNums (Le.vb tl.size)=a:=⟨_,rfl⟩;rw[ha1] at v1 QG hs2;rw[ha2] at v2 QH hs2;rw[Tp] at v3 QI hs2;have HS2:=Lib.hid hs2;clear ha1 ha2 Tp hs2;have k1:(9223372036854775807<a1.size+a2.size)=False:=eq_false (by omega);have k2:(9223372036854775807<a1.size+a2.size+a3.size)=False:=eq_false (by omega);have k3:(9223372036854775807<a1.size+a2.size+a3.size+hd.size)=False:=eq_false (by omega);have k4:(9223372036854775807<a1.size+a2.size+a3.size+hd.size+tl.size)=False:=eq_false (by omega);obtain⟨res,hres⟩:∃r,sput ch bi sz fr hd tl l=r:=⟨_,rfl⟩;have RES:=Lib.hid hres;rw[hres];clear hres
 go_enter Tryz.func23,Tryz.ntmps23
 go_wp2_with fail
 refine CM.out.mono ?_;rintro e wk_ ⟨rfl,hb⟩;replace YT:=Z_ (blk_below YT.out hb);replace YW:=Z_ (below_step YW.out hb);clear CM hb;have vS:w.heap.size<wk_.heap.size:=blk_lt YT.out;have r0:=blk_cell YT.out 0;have r1:=blk_cell YT.out 1;have r2:=blk_cell YT.out 2;simp at r0 r1 r2;have hcv:∀W:World,(convert 27 9 (.slice (some ⟨W.heap.size,0,none⟩) 3 3)).run Tryz.prog (W.alloc (.cells #[.int .u8 (ch:Int),.int .u8 (bi:Int),.int .u8 (sz:Int)] 5))= .ok (.string (strOfNums [(ch:Int),bi,sz])) (W.alloc (.cells #[.int .u8 (ch:Int),.int .u8 (bi:Int),.int .u8 (sz:Int)] 5)):=fun W=>conv_bytes W [(ch:Int),bi,sz] 3 rfl
 go_wp2_with (refine X_ 4 #[.pointer none,.slice none 0 0] 66 ?_;intro gb hg w3 hbox hb;have DL:Aside0 (w.heap.size<gb):=⟨by rw[hg];exact vS⟩;have bU:=Z_ (blk_below YT.out hb);have bN:=Z_ (below_step YW.out hb);have YB:=Z_ (bldF_new hbox);have aZ:=Z_ (Nat.le_of_lt (blk_lt hbox));clear YT YW hbox hb hg r0 r1 r2;have YT:=bU;have YW:=bN;clear bU bN;have r0:=blk_cell YT.out 0;have r1:=blk_cell YT.out 1;have r2:=blk_cell YT.out 2;simp at r0 r1 r2)
 clear r0 r1 r2 hcv;replace YT:=Z_ (blk_alloc YT.out (.cells #[.int .u8 (ch:Int),.int .u8 (bi:Int),.int .u8 (sz:Int)] 5));replace YW:=Z_ (below_alloc YW.out (.cells #[.int .u8 (ch:Int),.int .u8 (bi:Int),.int .u8 (sz:Int)] 5));replace YB:=Z_ (bldF_below YB.out (below_alloc (Below.refl _ _) (.cells #[.int .u8 (ch:Int),.int .u8 (bi:Int),.int .u8 (sz:Int)] 5)));replace aZ:=Z_ (Nat.le_trans aZ.out (below_alloc (Below.refl _ _) (.cells #[.int .u8 (ch:Int),.int .u8 (bi:Int),.int .u8 (sz:Int)] 5)).size);generalize World.alloc _ _=wk_ at YT YW YB aZ ⊢;obtain⟨gt,hgt⟩:∃g,w.heap.size=g:=⟨_,rfl⟩;have HGT:Aside0 (gt<gb):=⟨hgt▸DL.out⟩;have HGB:Aside0 (w.heap.size≤gb):=⟨Nat.le_of_lt DL.out⟩;rw[hgt] at YT;have HGTE:=Lib.hid hgt;refine(wstr_calls gb [] _ _ YB.out (by have:=sput1_len ch bi sz;show 0+(sput1 ch bi sz).size≤_;omega) aZ.out).mono ?_;rintro e wk_ ⟨rfl,hbb,hbw⟩;replace YT:=Z_ ((hbw.block gt HGT.out).trans YT.out);replace YW:=Z_ (YW.out.trans (hbw.mono HGB.out));replace YB:=Z_ hbb;replace aZ:=Z_ (Nat.le_trans aZ.out hbw.size);clear hbw hbb;replace YB:Aside0 (Lib.IsBuilderF 66 5 gb gb (Lib.byteCells (sput1 ch bi sz).data.toList) wk_):=⟨YB.out⟩;have hL1:(sput1 ch bi sz).data.toList.length=7:=by rw[data_length,sput1_len]
 obtain⟨L1,hLL⟩:∃L,(sput1 ch bi sz).data.toList=L:=⟨_,rfl⟩;rw[hLL] at YB hL1;have VF:=Lib.hid hLL;clear hLL;rw[hgt];clear hgt
 go_wp2_with fail
 replace YT:=Z_ (blk_drew YT.out);replace YW:=Z_ (below_drew1 YW.out);replace YB:=Z_ (bldF_below YB.out (below_drew (Below.refl _ _)));replace aZ:=Z_ (size_drew aZ.out);refine start_ (n:=20) (S:=fun w'=>w'.heap[gt]?=some (.cells #[.int .i64 ch,.int .i64 bi,.int .i64 sz,.int .i64 fr,.string hd,.string tl,.slice A n c] 49 (0,0))) (ds:= []) #[false,false,false,false,false,false,false,false,false,false,false,false,false,false,false,false,false,false,false,false] (by kernel_rfl) rfl rfl YT.out (fun hHeld=>?_);refine with_tabW spt.tab5 spt.bits5 (fun HT_ HW_=>?_);generalize World.drew _=wk_ at YT YW YB aZ hHeld ⊢;refine P_ 0 28 ?_;refine P_ 3 31 ?_;refine P_ 8 36 ?_;refine P_ 13 41 ?_;refine P_ 16 44 ?_;refine T_ 1 29 (y:=by rintro w' s0;have r0:=blk_cell s0 0;have r1:=blk_cell s0 1;have r2:=blk_cell s0 2;have r3:=blk_cell s0 3;have r4:=blk_cell s0 4;have r5:=blk_cell s0 5;have r6:=blk_cell s0 6;simp at r0 r1 r2 r3 r4 r5 r6;go_simp;with_reducible rfl) (h:=?_);refine T_ 4 32 (y:=by rintro w' s0;have r0:=blk_cell s0 0;have r1:=blk_cell s0 1;have r2:=blk_cell s0 2;have r3:=blk_cell s0 3;have r4:=blk_cell s0 4;have r5:=blk_cell s0 5;have r6:=blk_cell s0 6;simp at r0 r1 r2 r3 r4 r5 r6;go_simp;with_reducible rfl) (h:=?_);refine P_ 5 33 ?_;refine T_ 9 37 (y:=by rintro w' s0;have r0:=blk_cell s0 0;have r1:=blk_cell s0 1;have r2:=blk_cell s0 2;have r3:=blk_cell s0 3;have r4:=blk_cell s0 4;have r5:=blk_cell s0 5;have r6:=blk_cell s0 6;simp at r0 r1 r2 r3 r4 r5 r6;go_simp;with_reducible rfl) (h:=?_);refine P_ 10 38 ?_;refine T_ 14 42 (y:=by rintro w' s0;have r0:=blk_cell s0 0;have r1:=blk_cell s0 1;have r2:=blk_cell s0 2;have r3:=blk_cell s0 3;have r4:=blk_cell s0 4;have r5:=blk_cell s0 5;have r6:=blk_cell s0 6;simp at r0 r1 r2 r3 r4 r5 r6;go_simp;with_reducible rfl) (h:=?_);refine T_ 17 45 (y:=by rintro w' s0;have r0:=blk_cell s0 0;have r1:=blk_cell s0 1;have r2:=blk_cell s0 2;have r3:=blk_cell s0 3;have r4:=blk_cell s0 4;have r5:=blk_cell s0 5;have r6:=blk_cell s0 6;simp at r0 r1 r2 r3 r4 r5 r6;go_simp;with_reducible rfl) (h:=?_);refine O_ 2 30 fun K hK=>?_
 refine g_ Tryz.func55 #[.int .i64 fr] ?_;refine(stream_number.calls 20 fr _ _ (QG).out).mono ?_;rintro e wk_ ⟨rfl,hb⟩;refine⟨_,rfl,?_⟩;replace YT:=Z_ (blk_below YT.out hb);replace YW:=Z_ (below_step YW.out hb);replace YB:=Z_ (bldF_below YB.out hb);replace aZ:=Z_ (Nat.le_trans aZ.out hb.size);clear hb;refine hK.out _ _ YT.out (fun hHeld=>?_);clear hK K;refine Nm_ 30 ?_;refine O_ 6 34 fun K hK=>?_
 refine g_ Tryz.func55 #[.int .i64 hd.size] ?_;refine(stream_number.calls 20 hd.size _ _ (QH).out).mono ?_;rintro e wk_ ⟨rfl,hb⟩;refine⟨_,rfl,?_⟩;replace YT:=Z_ (blk_below YT.out hb);replace YW:=Z_ (below_step YW.out hb);replace YB:=Z_ (bldF_below YB.out hb);replace aZ:=Z_ (Nat.le_trans aZ.out hb.size);clear hb;refine hK.out _ _ YT.out (fun hHeld=>?_);clear hK K;refine Nm_ 34 ?_;refine P_ 7 35 ?_;refine O_ 11 39 fun K hK=>?_
 refine g_ Tryz.func55 #[.int .i64 tl.size] ?_;refine(stream_number.calls 20 tl.size _ _ (QI).out).mono ?_;rintro e wk_ ⟨rfl,hb⟩;refine⟨_,rfl,?_⟩;replace YT:=Z_ (blk_below YT.out hb);replace YW:=Z_ (below_step YW.out hb);replace YB:=Z_ (bldF_below YB.out hb);replace aZ:=Z_ (Nat.le_trans aZ.out hb.size);clear hb;refine hK.out _ _ YT.out (fun hHeld=>?_);clear hK K;refine Nm_ 39 ?_;refine P_ 12 40 ?_;refine P_ 15 43 ?_;refine P_ 18 46 ?_;refine O_ 19 47 fun K hK=>?_
 refine g_ Tryz.func32 #[.pointer (some ⟨gb,0,none⟩),.string (a1++a2++a3++hd++tl)] ?_;rw[←HS2.out];refine(wstr_calls gb L1 (sput2 fr hd tl) _ YB.out (by have:=sput2_len fr hd tl;omega) aZ.out).mono ?_;rintro e wk_ ⟨rfl,hbb,hbw⟩;refine⟨_,rfl,?_⟩;replace YT:=Z_ ((hbw.block gt HGT.out).trans YT.out);replace YW:=Z_ (YW.out.trans (hbw.mono HGB.out));replace YB:=Z_ hbb;replace aZ:=Z_ (Nat.le_trans aZ.out hbw.size);clear hbw hbb;refine hK.out _ _ YT.out (fun hHeld=>?_);clear hK K;refine Nm_ 47 ?_;refine done_ (done_of HT_.out (by kernel_rfl)) ?_
 have hL2:(L1++(sput2 fr hd tl).data.toList).length≤8205:=by
  have:=sput2_len fr hd tl;rw[List.length_append,hL1,data_length];omega
 obtain⟨L2,hLL⟩:∃L,L1++(sput2 fr hd tl).data.toList=L:=⟨_,rfl⟩;rw[hLL] at YB hL2;have HL2:=Lib.hid hLL;clear hLL QG QH QI k1 k2 k3 k4;have r6:=blk_cell YT.out 6;simp at r6;go_wp2
 go_loopg [51] n (fun d v51 wr=>∃i:Nat,v51= .int .i64 i∧i+d=n∧Aside0 (wr.heap[gt]?=some (.cells #[.int .i64 ch,.int .i64 bi,.int .i64 sz,.int .i64 fr,.string hd,.string tl,.slice A n c] 49 (0,0)))∧Aside0 (Below w.heap.size w wr)∧Aside0 (Lib.IsBuilderF 66 5 gb gb (Lib.byteCells (L2++sput3 (l.take i))) wr)∧Aside0 (gb≤wr.heap.size))
 case atStart=>exact⟨0,rfl,by omega,YT,YW,⟨by rw[List.take_zero];show Lib.IsBuilderF 66 5 gb gb (Lib.byteCells (L2++ [])) _;rw[List.append_nil];exact YB.out⟩,aZ⟩
 case round=>
  clear YT YW YB aZ r6;obtain⟨i,rfl,hi,YT,YW,YB,aZ⟩:=hrel
  cases gk with
  |zero=>
   obtain rfl:n=i:=by omega
   have e1:l.take n=l:=List.take_of_length_le (by rw[HLN.out];exact Nat.le_refl _);rw[e1] at YB;have hLL:sputL ch bi sz fr hd tl l=L2++sput3 l:=by unfold sputL;rw[VF.out,HL2.out]
   have hlen:(L2++sput3 l).length≤100000:=by
    have:=sput3_len l;have:=HLN.out;rw[List.length_append];omega
   obtain⟨LL,hL⟩:∃L,L2++sput3 l=L:=⟨_,rfl⟩;rw[hL] at YB hLL hlen
   have Aj:Hid (res=⟨LL.toArray⟩++strOfNums (Le.bytes 4 (Crc.sum LL))++⟨(Lib.join (l.map (·.data.toList)) []).toArray⟩):=by
    show _=_;rw[←RES.out];unfold sput;rw[hLL]
   have HF:=Lib.hid (Le.put_f 4 (Crc.sum LL) (by omega) (by omega) (Crc.sum_lt LL));have HS:Hid (crc_Sum.f ⟨LL.toArray⟩=some (Crc.sum LL:Int)):=crc_Sum.some_ ⟨LL.toArray⟩ (by show LL.toArray.size≤_;rw[List.size_toArray];omega);have u2:(strOfNums (Le.bytes 4 (Crc.sum LL))).size=4:=by rw[strOfNums_size,Le.bytes_len]
   have u1:(⟨LL.toArray⟩:ByteArray).size=LL.length:=List.size_toArray;have u3:(⟨(Lib.join (l.map (·.data.toList)) []).toArray⟩:ByteArray).size=(Lib.join (l.map (·.data.toList)) []).length:=List.size_toArray;have CS:=Lib.hid (fun W h1 h2=>str_calls gb LL W h1 h2);have CJ:=Lib.hid (fun W h1=>join_calls A c l n W HLN.out h1 hc hjs (by omega));obtain⟨d1,hd1⟩:∃d:ByteArray,⟨LL.toArray⟩=d:=⟨_,rfl⟩;obtain⟨d2,hd2⟩:∃d:ByteArray,strOfNums (Le.bytes 4 (Crc.sum LL))=d:=⟨_,rfl⟩;obtain⟨d3,hd3⟩:∃d:ByteArray,⟨(Lib.join (l.map (·.data.toList)) []).toArray⟩=d:=⟨_,rfl⟩;rw[hd1] at u1 HS CS Aj;rw[hd2] at u2 HF Aj;rw[hd3] at u3 CJ Aj;have k1:(9223372036854775807<d1.size+d2.size)=False:=eq_false (by omega);have k2:(9223372036854775807<d1.size+d2.size+d3.size)=False:=eq_false (by omega);clear hL hLL e1 hd1 hd2 hd3 u1 u2 u3
   go_wp2_with fail
   refine(CS.out _ YB.out aZ.out).mono ?_;rintro e wk_ ⟨rfl,hbb,hbw⟩;replace YT:=Z_ ((hbw.block gt HGT.out).trans YT.out);replace YW:=Z_ (YW.out.trans (hbw.mono HGB.out));replace YB:=Z_ hbb;replace aZ:=Z_ (Nat.le_trans aZ.out hbw.size);clear hbw hbb
   go_wp2_with fail
   refine(crc_Sum.calls _ _ _ HS.out).mono ?_;rintro e wk_ ⟨rfl,hb⟩;replace YT:=Z_ (blk_below YT.out hb);replace YW:=Z_ (below_step YW.out hb);replace YB:=Z_ (bldF_below YB.out hb);replace aZ:=Z_ (Nat.le_trans aZ.out hb.size);clear hb
   go_wp2_with fail
   refine(field_Put.calls 20 _ 4 _ _ _ HF.out).mono ?_;rintro e wk_ ⟨rfl,hb⟩;replace YT:=Z_ (blk_below YT.out hb);replace YW:=Z_ (below_step YW.out hb);replace YB:=Z_ (bldF_below YB.out hb);replace aZ:=Z_ (Nat.le_trans aZ.out hb.size);clear hb
   go_wp2_with fail
   replace YT:=Z_ (blk_drew YT.out);replace YW:=Z_ (below_drew1 YW.out);replace YB:=Z_ (bldF_below YB.out (below_drew (Below.refl _ _)));replace aZ:=Z_ (size_drew aZ.out);refine start_ (n:=9) (S:=fun w'=>w'.heap[gt]?=some (.cells #[.int .i64 ch,.int .i64 bi,.int .i64 sz,.int .i64 fr,.string hd,.string tl,.slice A n c] 49 (0,0))) (ds:= []) #[false,false,false,false,false,false,false,false,false] (by kernel_rfl) rfl rfl YT.out (fun hHeld=>?_);refine with_tabW spt.tab13 spt.bits13 (fun HT_ HW_=>?_);generalize World.drew _=wk_ at YT YW YB aZ hHeld ⊢;refine P_ 1 71 ?_;refine P_ 3 73 ?_;refine T_ 4 74 (y:=by rintro w' s0;have r0:=blk_cell s0 0;have r1:=blk_cell s0 1;have r2:=blk_cell s0 2;have r3:=blk_cell s0 3;have r4:=blk_cell s0 4;have r5:=blk_cell s0 5;have r6:=blk_cell s0 6;simp at r0 r1 r2 r3 r4 r5 r6;go_simp;with_reducible rfl) (h:=?_);refine O_ 0 70 fun K hK=>?_
   refine g_ Tryz.func34 #[.pointer (some ⟨gb,0,none⟩)] ?_;refine(CS.out _ YB.out aZ.out).mono ?_;rintro e wk_ ⟨rfl,hbb,hbw⟩;refine⟨_,rfl,?_⟩;replace YT:=Z_ ((hbw.block gt HGT.out).trans YT.out);replace YW:=Z_ (YW.out.trans (hbw.mono HGB.out));replace YB:=Z_ hbb;replace aZ:=Z_ (Nat.le_trans aZ.out hbw.size);clear hbw hbb;refine hK.out _ _ YT.out (fun hHeld=>?_);clear hK K;refine Nm_ 70 ?_;refine P_ 2 72 ?_;refine O_ 5 75 fun K hK=>?_
   refine g_ Tryz.func57 #[.slice A n c,.string ⟨#[]⟩] ?_;refine(CJ.out _ (Kd.C_below H0.out YW.out)).mono ?_;rintro e wk_ ⟨rfl,hb⟩;refine⟨_,rfl,?_⟩;replace YT:=Z_ (blk_below YT.out hb);replace YW:=Z_ (below_step YW.out hb);replace YB:=Z_ (bldF_below YB.out hb);replace aZ:=Z_ (Nat.le_trans aZ.out hb.size);clear hb;refine hK.out _ _ YT.out (fun hHeld=>?_);clear hK K;refine Nm_ 75 ?_;refine P_ 6 76 ?_;refine P_ 7 2 ?_;refine P_ 8 3 ?_;refine done_ (done_of HT_.out (by kernel_rfl)) ?_;go_wp2;go_ret2;exact⟨by rw[Aj.out];rfl,YW.out⟩
  |succ d=>
   have QJ:=HLN.out;have hlt:i<l.length:=by omega
   have hlt':(i:Int)<n:=by omega
   have hi0:(0:Int)≤i:=by omega
   obtain⟨ad,e_,hx_⟩:=Kd.at_string (Kd.C_below H0.out YW.out) (i:Int) hi0 hlt'
   cases e_
   have hrd:rdOf ByteArray.empty l (i:Int)=l.getD i ByteArray.empty:=by unfold rdOf;rw[nC_]
   rw[hrd,nC_] at hx_;have hst:=sput3_take l i hlt;have hsz:=od_ (HO.out (l.getD i ByteArray.empty) (by rw[gD_,gE_ hlt];exact List.getElem_mem _));obtain⟨x,hx⟩:∃x,l.getD i ByteArray.empty=x:=⟨_,rfl⟩;rw[hx] at hx_ hst hsz;have HF:=Lib.hid (Le.put_f 2 x.size (by omega) (by omega) (show x.size<65536 by omega))
   have hlen:(L2++sput3 (l.take i)).length≤100000:=by
    have:=sput3_len (l.take i);rw[List.length_take] at this;rw[List.length_append];omega
   have DN:L2++sput3 (l.take (i+1))=(L2++sput3 (l.take i))++(strOfNums (Le.bytes 2 x.size)).data.toList:=by rw[hst,List.append_assoc]
   obtain⟨LL,hL⟩:∃L,L2++sput3 (l.take i)=L:=⟨_,rfl⟩;rw[hL] at YB DN hlen;have HST:=Lib.hid DN;have h2:(strOfNums (Le.bytes 2 x.size)).size=2:=by rw[strOfNums_size,Le.bytes_len]
   clear hrd hst hx hL DN QJ hsz
   go_wp2_with fail
   refine(field_Put.calls 20 _ 2 _ _ _ HF.out).mono ?_;rintro e wk_ ⟨rfl,hb⟩;replace YT:=Z_ (blk_below YT.out hb);replace YW:=Z_ (below_step YW.out hb);replace YB:=Z_ (bldF_below YB.out hb);replace aZ:=Z_ (Nat.le_trans aZ.out hb.size);clear hb;clear hx_
   go_wp2_with fail
   refine(wstr_calls gb LL _ _ YB.out (by omega) aZ.out).mono ?_;rintro e wk_ ⟨rfl,hbb,hbw⟩;replace YT:=Z_ ((hbw.block gt HGT.out).trans YT.out);replace YW:=Z_ (YW.out.trans (hbw.mono HGB.out));replace YB:=Z_ hbb;replace aZ:=Z_ (Nat.le_trans aZ.out hbw.size);clear hbw hbb;go_wp2
   go_roundg d
   case measure=>omega
   case rel=>exact⟨i+1,by go_num,by omega,YT,YW,⟨by rw[HST.out];exact YB.out⟩,aZ⟩
end Go.Proofs.YtfghldonnffldaaGreatDoor
namespace Go.Proofs.YtfghldonnffldaaGreatDoor
open Go.RowKit YtfghldonnffldaaGreatDoorW.PrintWords YtfghldonnffldaaGreatDoorW.PrintLast YtfghldonnffldaaGreatDoorW.PrintMore TBase
theorem run_storeVar_cell{P:Program}(w:World)(b o:Nat)(ty:TypeId)(v:Value)(ht:w.there b o 1)(hi:(P.info? ty).map (·.size)=some 1)(h1:v.oneCell'=true):
  (storeVar ty ⟨b,o,none⟩ v).run P w= .ok () (w.setCells b o [v]):=by
 have:=run_storeCells_cells (P:=P) b o [v] 0 w (fun j hj=>by simpa using (ht j (by simpa using hj)).1) (fun j hj=>by simpa using (ht j (by simpa using hj)).2) (fun x hx=>by simp at hx;subst hx;exact h1);have hc:v.cells= #[v]:=by cases v<;>first|rfl|cases h1
 cases hq:P.info? ty with
 |none=>simp[hq] at hi
 |some i=>
  have hs:i.size=1:=by simpa [hq] using hi
  simp only[Nat.add_zero] at this;simp[storeVar,sizeOf,typeInfo,hq,hc,hs,this]
theorem setCells_size(g:Nat)(vs:List Value):∀(o:Nat) (w:World),(w.setCells g o vs).heap.size=w.heap.size:=by
 induction vs with
 |nil=>intro o w;rfl
 |cons v r ih=>intro o w;rw[World.setCells,ih];simp
theorem exec_store_cell{P:Program}{op:Oper}{a:Act}{w:World}(ty:TypeId)(x y:Operand)(ho:op.op= .store ty x y)
  (b o:Nat) (v:Value) (hx:a.eval x= .pointer (some ⟨b,o,none⟩)) (hy:a.eval y=v) (ht:w.there b o 1) (hi:(P.info? ty).map (·.size)=some 1) (h1:v.oneCell'=true):
  (execOp a.eval op).run P w= .ok .skip (w.setCells b o [v]):=by
 unfold execOp;simp only[ho,hx,hy,Instr.storeAt,Instr.sureAddr,Sem.run_bind,Sem.run_pure,Result.andThen_ok,run_storeVar_cell w b o ty v ht hi h1]
theorem wpList_store_cell{P:Program}{ops:Array Oper}{rest:List Oper}{op:Oper}{a:Act}{w:World}{Q:Exit→Act→World→Prop}(hgd:op.guard=none)(ty:TypeId)(x y:Operand)(ho:op.op= .store ty x y)
  (b o:Nat) (v:Value) (hx:a.eval x= .pointer (some ⟨b,o,none⟩)) (hy:a.eval y=v) (ht:w.there b o 1) (hi:(P.info? ty).map (·.size)=some 1) (h1:v.oneCell'=true)
  (h:wpList P ops Q rest (a.put op.dst undef) (w.setCells b o [v])):wpList P ops Q (op::rest) a w:=
 wpList_plain hgd fun _ hK=>by
  unfold Oper.wp execOp;simp only[ho,hx,hy,Instr.storeAt,Instr.sureAddr,Sem.run_bind,Sem.run_pure,Result.andThen_ok,run_storeVar_cell w b o ty v ht hi h1];exact hK _ _ h
theorem st5_4{w:World}{g:Nat}{a b c d x y v:Value}(n:Value)(h:w.heap[g]?=some (.cells #[a,b,c,d,x,y,v] 49 (0,0))):(w.setCells g 4 [n]).heap[g]?=some (.cells #[a,b,c,d,n,y,v] 49 (0,0)):=by
 have:=setCells_blk (t:=49) [n] [a,b,c,d] [x] [y,v] w (by simpa using h) rfl
 simpa using this
theorem st5_5{w:World}{g:Nat}{a b c d x y v:Value}(n:Value)(h:w.heap[g]?=some (.cells #[a,b,c,d,x,y,v] 49 (0,0))):(w.setCells g 5 [n]).heap[g]?=some (.cells #[a,b,c,d,x,n,v] 49 (0,0)):=by
 have:=setCells_blk (t:=49) [n] [a,b,c,d,x] [y] [v] w (by simpa using h) rfl
 simpa using this
theorem st5_6{w:World}{g:Nat}{a b c d x y v:Value}(n:Value)(h:w.heap[g]?=some (.cells #[a,b,c,d,x,y,v] 49 (0,0))):(w.setCells g 6 [n]).heap[g]?=some (.cells #[a,b,c,d,x,y,n] 49 (0,0)):=by
 have:=setCells_blk (t:=49) [n] [a,b,c,d,x,y] [v] [] w (by simpa using h) rfl
 simpa using this
theorem rd1{g:Nat}{s:ByteArray}{p:Nat}{w:World}(h:RdAt g s p w):w.cell? ⟨g,1,none⟩=some (.int .i64 p):=by
 have:=blk_cell h 1
 simpa using this
theorem rd2{g:Nat}{s:ByteArray}{p:Nat}{w:World}(h:RdAt g s p w):w.cell? ⟨g,2,none⟩=some (.bool false):=by
 have:=blk_cell h 2
 simpa using this
theorem stream_size_f(s:ByteArray):stream_size.f (s.size:Int)=some (szB s):=by
 unfold stream_size.f szB
 by_cases h1:(s.size:Int)≥9
 ·rw[if_pos h1]
  congr 1
  exact decide_eq_decide.2 (by omega)
 ·rw[if_neg h1]
  congr 1
  exact(df_ (by omega)).symm
def szs(l:List ByteArray):List Int:=l.map fun s=>(s.size:Int)
theorem szs_take(l:List ByteArray)(i:Nat)(h:i<l.length):szs (l.take (i+1))=szs (l.take i)++ [((l.getD i ByteArray.empty).size:Int)]:=by
 have hs:l.take (i+1)=l.take i++ [l.getD i ByteArray.empty]:=by
  rw[List.take_succ_eq_append_getElem h,gD_,gE_ h];rfl
 rw[hs];unfold szs;rw[List.map_append];rfl
theorem szs_len(l:List ByteArray)(i:Nat)(h:i≤l.length):(szs (l.take i)).length=i:=by
 unfold szs;rw[List.length_map,List.length_take];omega
theorem rd_put2{g:Nat}{s:ByteArray}{p:Nat}{w:World}(h:RdAt g s p w):RdAt g s p (w.setCells g 2 [.bool false]):=by
 unfold RdAt at h ⊢;have:=setCells_blk (t:=96) [.bool false] [.string s,.int .i64 p] [.bool false] [] w (by simpa using h) rfl
 simpa using this
theorem rd_far{g k:Nat}{s:ByteArray}{p:Nat}{w:World}(h:RdAt g s p w)(hne:g≠k)(vs:List Value)(o:Nat):RdAt g s p (w.setCells k o vs):=setCells_far hne vs w o h
theorem rd_there{g:Nat}{s:ByteArray}{p:Nat}{w:World}(h:RdAt g s p w):w.there g 2 1:=there_blk (vs:= [.string s,.int .i64 p,.bool false]) h 2 1 (by simp)
theorem info9s:(Tryz.prog.info? 9).map (fun i=>(i.zero,i.size,i.bytes))=some (some (.string ⟨#[]⟩),1,16):=by kernel_rfl
def tot(l:List ByteArray):Nat:=(l.map (·.size)).sum
structure StrOk(s:ByteArray)(ch bi sz fr:Nat)(hd tl:ByteArray)(l:List ByteArray)(p1 p2 p3 p5 q:Nat):Prop where
 size:s.size≤65536
 seven:7≤s.size
 name:s.extract 0 (0+4)=⟨#[68,83,67,84]⟩
 f4:field_Get.f 20 (s.extract 4 (4+1))=some ((ch:Int),0)
 f5:field_Get.f 20 (s.extract 5 (5+1))=some ((bi:Int),0)
 f6:field_Get.f 20 (s.extract 6 (6+1))=some ((sz:Int),0)
 n1:varint_Get.f 20 s ((7:Nat):Int)=some ((fr:Int),(p1:Int),0)
 n2:varint_Get.f 20 s (p1:Int)=some ((hd.size:Int),(p2:Int),0)
 n3:varint_Get.f 20 s (p2:Int)=some ((tl.size:Int),(p3:Int),0)
 h:s.extract p3 (p3+hd.size)=hd
 t:s.extract (p3+hd.size) (p3+hd.size+tl.size)=tl
 hp5:p3+hd.size+tl.size=p5
 hq:p5+2*l.length=q
 sizes:∀i,i<l.length→field_Get.f 20 (s.extract (p5+2*i) (p5+2*i+2))=some (((l.getD i ByteArray.empty).size:Int),0)
 sum:field_Get.f 20 (s.extract q (q+4))=some ((Crc.sum (s.extract 0 q).data.toList:Int),0)
 segs:∀i,i<l.length→s.extract (q+4+tot (l.take i)) (q+4+tot (l.take i)+(l.getD i ByteArray.empty).size)=l.getD i ByteArray.empty
 fin:q+4+tot l=s.size
 ok:headOk ch bi sz fr hd tl
 many:stream_Many.f fr sz=some (l.length:Int)
 szs:∀x∈l,szB x=true
theorem tot_take(l:List ByteArray)(i:Nat)(h:i<l.length):tot (l.take (i+1))=tot (l.take i)+(l.getD i ByteArray.empty).size:=by
 have hs:l.take (i+1)=l.take i++ [l.getD i ByteArray.empty]:=by
  rw[List.take_succ_eq_append_getElem h,gD_,gE_ h];rfl
 rw[hs];unfold tot;rw[List.map_append,List.sum_append];simp
theorem tot_le(l:List ByteArray)(i:Nat):tot (l.take i)≤tot l:=by
 have:tot l=tot (l.take i)+tot (l.drop i):=by
  unfold tot;rw[←List.sum_append,←List.map_append,List.take_append_drop]
 omega
def sgt.T25:Bool×List (List Nat×List Nat):=(true,[([],[]),([0],[0]),([],[]),([],[]),([2,3],[2,3]),([4],[4]),([1,5,4],[1,5]),([0,1,2,3,4,5,6],[]),([7,6,6,0,1,2,3,4,5,6],[6,7])])
def sgt.B25:List Nat:= [0,1,0,0,12,28,63,127,255]
theorem sgt.tab25:rtab .any (opsOf Tryz.f20 25)=sgt.T25:=by kernel_rfl
theorem sgt.bits25:waitsOk sgt.T25.2 sgt.B25=true:=by kernel_rfl
theorem sget_calls(s:ByteArray)(ch bi sz fr:Nat)(hd tl:ByteArray)(l:List ByteArray)(p1 p2 p3 p5 q:Nat)(w:World)(ho:StrOk s ch bi sz fr hd tl l p1 p2 p3 p5 q):
  Calls Tryz.prog 20 #[.string s] w fun e w'=>∃eB:Value,e= .returned (.tuple #[.agg #[.int .i64 ch,.int .i64 bi,.int .i64 sz,.int .i64 fr,.string hd,.string tl,eB],.int .i64 0])∧Kd.R Kd.string 9 w' w.heap.size (fun _=>True) eB l∧Below w.heap.size w w':=by
 have lM:=Tryz.underlying49;have QK:=Tryz.underlying96;have fH:=Tryz.underlying23;have HO:=Z_ ho;have hsz:=ho.size;have hsz':¬(65536:Int)<s.size:=by omega
 have h7:=ho.seven;have hll:l.length≤65536:=by have h2:=ho.hq;have h3:=ho.fin;omega
 have hsm:s.size≤140737488351232:=by omega
 have Y2:Aside0 ((w.alloc (.cells #[.int .i64 0,.int .i64 0,.int .i64 0,.int .i64 0,.string ⟨#[]⟩,.string ⟨#[]⟩,.slice none 0 0] 49)).heap[w.heap.size]?=some (.cells #[.int .i64 0,.int .i64 0,.int .i64 0,.int .i64 0,.string ⟨#[]⟩,.string ⟨#[]⟩,.slice none 0 0] 49 (0,0))):=⟨blk_new w _⟩;have YW:Aside0 (Below w.heap.size w (w.alloc (.cells #[.int .i64 0,.int .i64 0,.int .i64 0,.int .i64 0,.string ⟨#[]⟩,.string ⟨#[]⟩,.slice none 0 0] 49))):=⟨below_alloc (Below.refl _ _) _⟩;clear ho
 go_enter Tryz.func20,Tryz.ntmps20
 go_wp2_with (refine X_ 16 #[.string s,.int .i64 0,.bool false] 96 ?_;intro g4 hg wk_ hbox hb;have rP:Aside0 (w.heap.size≠g4):=⟨by rw[hg];simp⟩;have rQ:Aside0 (w.heap.size≤g4):=⟨by rw[hg];simp⟩;replace Y2:=Z_ (blk_below Y2.out hb);replace YW:=Z_ (below_step YW.out hb);clear hb hg;have YR:Aside0 (RdAt g4 s 0 wk_):=⟨hbox⟩;clear hbox)
 refine(take_calls w g4 s 0 4 _ hsm (by omega) YR.out rQ.out YW.out).mono ?_;rintro e wk_ ⟨rfl,hra,hk⟩;have nr_:=Z_ hra;have bU:=Z_ ((hk.same _ (blk_lt Y2.out) rP.out).trans Y2.out);have bN:=Z_ hk.bel;clear YR Y2 YW;have YR:=nr_;have Y2:=bU;have YW:=bN;clear nr_ hra hk bU bN;rw[HO.out.name]
 go_wp2_with fail
 refine(fieldRd_calls w g4 s 4 1 20 _ _ _ hsm (by omega) HO.out.f4 YR.out rQ.out YW.out).mono ?_;rintro e wk_ ⟨rfl,hra,hk⟩;have nr_:=Z_ hra;have bU:=Z_ ((hk.same _ (blk_lt Y2.out) rP.out).trans Y2.out);have bN:=Z_ hk.bel;clear YR Y2 YW;have YR:=nr_;have Y2:=bU;have YW:=bN;clear nr_ hra hk bU bN
 go_wp2_with fail
 refine(fieldRd_calls w g4 s 5 1 20 _ _ _ hsm (by omega) HO.out.f5 YR.out rQ.out YW.out).mono ?_;rintro e wk_ ⟨rfl,hra,hk⟩;have nr_:=Z_ hra;have bU:=Z_ ((hk.same _ (blk_lt Y2.out) rP.out).trans Y2.out);have bN:=Z_ hk.bel;clear YR Y2 YW;have YR:=nr_;have Y2:=bU;have YW:=bN;clear nr_ hra hk bU bN
 go_wp2_with fail
 refine(fieldRd_calls w g4 s 6 1 20 _ _ _ hsm (by omega) HO.out.f6 YR.out rQ.out YW.out).mono ?_;rintro e wk_ ⟨rfl,hra,hk⟩;have nr_:=Z_ hra;have bU:=Z_ ((hk.same _ (blk_lt Y2.out) rP.out).trans Y2.out);have bN:=Z_ hk.bel;clear YR Y2 YW;have YR:=nr_;have Y2:=bU;have YW:=bN;clear nr_ hra hk bU bN
 go_wp2_with fail
 refine(numberRd_calls w g4 s 7 p1 20 _ _ HO.out.n1 YR.out rQ.out YW.out).mono ?_;rintro e wk_ ⟨rfl,hra,hk⟩;have nr_:=Z_ hra;have bU:=Z_ ((hk.same _ (blk_lt Y2.out) rP.out).trans Y2.out);have bN:=Z_ hk.bel;clear YR Y2 YW;have YR:=nr_;have Y2:=bU;have YW:=bN;clear nr_ hra hk bU bN
 go_wp2_with (first|(refine X_ 5 #[.int .i64 0,.int .i64 0,.int .i64 0,.int .i64 0,.string ⟨#[]⟩,.string ⟨#[]⟩,.slice none 0 0] 49 ?_;intro g5 hg wk_ hbox hb;have QL:Aside0 (g4≠g5):=⟨by rw[hg];exact Nat.ne_of_lt (blk_lt YR.out)⟩;have BJ:Aside0 (g5≠g4):=⟨by rw[hg];exact Nat.ne_of_gt (blk_lt YR.out)⟩;have QM:Aside0 (w.heap.size≤g5):=⟨by rw[hg];exact YW.out.size⟩;have QN:Aside0 (w.heap.size≠g5):=⟨by rw[hg];exact Nat.ne_of_lt (blk_lt Y2.out)⟩;have HG_:=Z_ hg;have HB_:=Z_ hb;have Y5:=Z_ hbox;clear hbox hb hg)|((with_reducible refine gate_store (t:=49) (p:=5) rfl ?_);refine wpList_store_mid rfl 49 _ _ rfl g5 0 #[.int .i64 ch,.int .i64 bi,.int .i64 sz,.int .i64 fr,.string ⟨#[]⟩,.string ⟨#[]⟩,.slice none 0 0] rfl rfl (there_blk (vs:= [.int .i64 0,.int .i64 0,.int .i64 0,.int .i64 0,.string ⟨#[]⟩,.string ⟨#[]⟩,.slice none 0 0]) Y5.out 0 7 (by decide)) (by kernel_rfl) (by simp[Value.oneCell']) ?_;have nc_:=Z_ (setCells_all (vs:= [.int .i64 ch,.int .i64 bi,.int .i64 sz,.int .i64 fr,.string ⟨#[]⟩,.string ⟨#[]⟩,.slice none 0 0]) (old:= [.int .i64 0,.int .i64 0,.int .i64 0,.int .i64 0,.string ⟨#[]⟩,.string ⟨#[]⟩,.slice none 0 0]) Y5.out rfl);have hb:=below_setCells HB_.out (Nat.le_of_eq HG_.out.symm) [.int .i64 ch,.int .i64 bi,.int .i64 sz,.int .i64 fr,.string ⟨#[]⟩,.string ⟨#[]⟩,.slice none 0 0] 0;replace YR:=Z_ (show RdAt _ _ _ _ from blk_below YR.out hb);replace Y2:=Z_ (blk_below Y2.out hb);replace YW:=Z_ (below_step YW.out hb);clear hb HB_ HG_ Y5;have Y5:=nc_;clear nc_;generalize World.setCells _ _ _ _=wk_ at YR Y2 YW Y5 ⊢))
 refine(numberRd_calls w g4 s p1 p2 20 _ _ HO.out.n2 YR.out rQ.out YW.out).mono ?_;rintro e wk_ ⟨rfl,hra,hk⟩;have nr_:=Z_ hra;have bU:=Z_ ((hk.same _ (blk_lt Y2.out) rP.out).trans Y2.out);have bN:=Z_ hk.bel;have eX:=Z_ ((hk.same _ (blk_lt Y5.out) BJ.out).trans Y5.out);clear YR Y2 YW Y5;have YR:=nr_;have Y2:=bU;have YW:=bN;have Y5:=eX;clear nr_ hra hk bU bN eX
 go_wp2_with fail
 refine(numberRd_calls w g4 s p2 p3 20 _ _ HO.out.n3 YR.out rQ.out YW.out).mono ?_;rintro e wk_ ⟨rfl,hra,hk⟩;have nr_:=Z_ hra;have bU:=Z_ ((hk.same _ (blk_lt Y2.out) rP.out).trans Y2.out);have bN:=Z_ hk.bel;have eX:=Z_ ((hk.same _ (blk_lt Y5.out) BJ.out).trans Y5.out);clear YR Y2 YW Y5;have YR:=nr_;have Y2:=bU;have YW:=bN;have Y5:=eX;clear nr_ hra hk bU bN eX
 go_wp2_with fail
 refine(take_calls w g4 s p3 hd.size _ hsm (by have h1:=HO.out.hp5;have h2:=HO.out.hq;have h3:=HO.out.fin;omega) YR.out rQ.out YW.out).mono ?_;rintro e wk_ ⟨rfl,hra,hk⟩;have nr_:=Z_ hra;have bU:=Z_ ((hk.same _ (blk_lt Y2.out) rP.out).trans Y2.out);have bN:=Z_ hk.bel;have eX:=Z_ ((hk.same _ (blk_lt Y5.out) BJ.out).trans Y5.out);clear YR Y2 YW Y5;have YR:=nr_;have Y2:=bU;have YW:=bN;have Y5:=eX;clear nr_ hra hk bU bN eX;rw[HO.out.h]
 go_wp2_with fail
 refine(take_calls w g4 s (p3+hd.size) tl.size _ hsm (by have h1:=HO.out.hp5;have h2:=HO.out.hq;have h3:=HO.out.fin;omega) YR.out rQ.out YW.out).mono ?_;rintro e wk_ ⟨rfl,hra,hk⟩;have nr_:=Z_ hra;have bU:=Z_ ((hk.same _ (blk_lt Y2.out) rP.out).trans Y2.out);have bN:=Z_ hk.bel;have eX:=Z_ ((hk.same _ (blk_lt Y5.out) BJ.out).trans Y5.out);clear YR Y2 YW Y5;have YR:=nr_;have Y2:=bU;have YW:=bN;have Y5:=eX;clear nr_ hra hk bU bN eX;rw[HO.out.t];replace YR:Aside0 (RdAt g4 s p5 wk_):=⟨HO.out.hp5▸YR.out⟩
 go_wp2_with (first|((with_reducible refine gate_store (t:=9) (p:=46) rfl ?_);refine wpList_store_cell rfl 9 _ _ rfl g5 4 (.string hd) rfl rfl (there_blk (vs:= [.int .i64 ch,.int .i64 bi,.int .i64 sz,.int .i64 fr,.string ⟨#[]⟩,.string ⟨#[]⟩,.slice none 0 0]) Y5.out 4 1 (Nat.le_of_ble_eq_true rfl)) (by kernel_rfl) rfl ?_;have bU:=Z_ (setCells_far (Ne.symm (Ne.symm QN.out)) [.string hd] _ 4 Y2.out);have bN:=Z_ (show RdAt _ _ _ _ from setCells_far (Ne.symm (Ne.symm QL.out)) [.string hd] _ 4 YR.out);have G9:=Z_ (below_setCells YW.out QM.out [.string hd] 4);have Ha:=Z_ (st5_4 (.string hd) Y5.out);clear YW Y5 Y2 YR;have YW:=G9;have Y5:=Ha;have Y2:=bU;have YR:=bN;clear G9 Ha bU bN;generalize World.setCells _ _ _ _=wk_ at YW Y5 Y2 YR ⊢)|((with_reducible refine gate_store (t:=9) (p:=47) rfl ?_);refine wpList_store_cell rfl 9 _ _ rfl g5 5 (.string tl) rfl rfl (there_blk (vs:= [.int .i64 ch,.int .i64 bi,.int .i64 sz,.int .i64 fr,.string hd,.string ⟨#[]⟩,.slice none 0 0]) Y5.out 5 1 (Nat.le_of_ble_eq_true rfl)) (by kernel_rfl) rfl ?_;have bU:=Z_ (setCells_far (Ne.symm (Ne.symm QN.out)) [.string tl] _ 5 Y2.out);have bN:=Z_ (show RdAt _ _ _ _ from setCells_far (Ne.symm (Ne.symm QL.out)) [.string tl] _ 5 YR.out);have G9:=Z_ (below_setCells YW.out QM.out [.string tl] 5);have Ha:=Z_ (st5_5 (.string tl) Y5.out);clear YW Y5 Y2 YR;have YW:=G9;have Y5:=Ha;have Y2:=bU;have YR:=bN;clear G9 Ha bU bN;generalize World.setCells _ _ _ _=wk_ at YW Y5 Y2 YR ⊢;have r2:=rd2 YR.out))
 clear r2;refine(head_calls g5 ch bi sz fr hd tl _ wk_ HO.out.ok Y5.out).mono ?_;rintro e Hd ⟨rfl,hb⟩;replace YR:=Z_ (show RdAt _ _ _ _ from blk_below YR.out hb);replace Y2:=Z_ (blk_below Y2.out hb);replace YW:=Z_ (below_step YW.out hb);replace Y5:=Z_ (blk_below Y5.out hb);clear hb;have r2:=blk_cell Y5.out 2;have r3:=blk_cell Y5.out 3;simp at r2 r3
 go_wp2_with fail
 clear r2 r3;refine(stream_Many.calls fr sz l.length _ HO.out.many).mono ?_;rintro e Hd ⟨rfl,⟨⟨nd,rfl⟩⟩⟩;replace YR:=Z_ (show RdAt _ _ _ _ from blk_drewN YR.out nd);replace Y2:=Z_ (blk_drewN Y2.out nd);replace YW:=Z_ (pw_below_drewN YW.out nd);replace Y5:=Z_ (blk_drewN Y5.out nd);generalize World.drewN _ nd=wk_ at YR Y2 YW Y5 ⊢;go_wp2
 go_loopg [62,8] l.length (fun d v62 v8 wr=>∃i:Nat,v62= .int .i64 i∧i+d=l.length∧Aside0 (RdAt g4 s (p5+2*i) wr)∧Aside0 (wr.heap[w.heap.size]?=some (.cells #[.int .i64 0,.int .i64 0,.int .i64 0,.int .i64 0,.string ⟨#[]⟩,.string ⟨#[]⟩,.slice none 0 0] 49 (0,0)))∧Aside0 (wr.heap[g5]?=some (.cells #[.int .i64 ch,.int .i64 bi,.int .i64 sz,.int .i64 fr,.string hd,.string tl,.slice none 0 0] 49 (0,0)))∧Aside0 (Below w.heap.size w wr)∧Aside0 (Kd.R (Kd.int .i64) 3 wr w.heap.size (fun k=>k≠g4∧k≠g5∧k≠w.heap.size) v8 (szs (l.take i))))
 case atStart=>exact⟨0,rfl,by omega,YR,Y2,Y5,YW,⟨Kd.R_nil _ _ _ _ _⟩⟩
 case round=>
  clear YR Y2 Y5 YW;obtain⟨i,rfl,hi,YR,Y2,Y5,YW,HS⟩:=hrel;obtain⟨A8,c8,he,hc8,_⟩:=Kd.R_reads HS.out;rw[szs_len l i (by omega)] at he hc8;subst he
  cases gk with
  |zero=>
   obtain rfl:l.length=i:=by omega
   have e1:l.take l.length=l:=List.take_of_length_le (Nat.le_refl _);rw[e1] at HS;replace YR:Aside0 (RdAt g4 s q wr):=⟨HO.out.hq▸YR.out⟩;have r1:=rd1 YR.out
   go_wp2_with fail
   clear r1;refine(fieldRd_calls w g4 s q 4 20 _ _ _ hsm (by have h3:=HO.out.fin;omega) HO.out.sum YR.out rQ.out YW.out).mono ?_;rintro e wk_ ⟨rfl,hra,hk⟩;have nr_:=Z_ hra;have bU:=Z_ ((hk.same _ (blk_lt Y2.out) rP.out).trans Y2.out);have bN:=Z_ hk.bel;have eX:=Z_ ((hk.same _ (blk_lt Y5.out) BJ.out).trans Y5.out);have j6:=Z_ (Kd.R_step HS.out (fun k hok hlt=>hk.same k hlt hok.1));clear YR Y2 YW Y5 HS;have YR:=nr_;have Y2:=bU;have YW:=bN;have Y5:=eX;have HS:=j6;clear nr_ hra hk bU bN eX j6;have r2:=rd2 YR.out;have hq1:q≤s.size:=by have h3:=HO.out.fin;omega
   have hq2:(q:Int)≤s.size:=by omega
   have hq3:(0:Int)≤q:=by omega
   have HC:=Lib.hid (crc_Sum.some_ (s.extract 0 q) (by rw[ByteArray.size_extract];omega))
   go_wp2_with fail
   refine(crc_Sum.calls _ _ _ HC.out).mono ?_;rintro e wk_ ⟨rfl,hb⟩;clear r2;replace YR:=Z_ (show RdAt _ _ _ _ from blk_below YR.out hb);replace Y2:=Z_ (blk_below Y2.out hb);replace YW:=Z_ (below_step YW.out hb);replace Y5:=Z_ (blk_below Y5.out hb);replace HS:=Z_ (Kd.R_below HS.out hb);clear hb;obtain⟨B2,hB2⟩:∃B,wk_.heap.size=B:=⟨_,rfl⟩;have HB2:Aside0 (B2≤wk_.heap.size):=⟨Nat.le_of_eq hB2.symm⟩;have HV:=Z_ (Kd.R_mono (Kd.R_bound HS.out) (ok':=fun k=>k<B2∧k≠g4∧k≠g5) (fun k hk=>⟨hB2▸hk.2.2.1,hk.1.1,hk.1.2.1⟩));have HG4B:Aside0 (g4<B2):=⟨hB2▸blk_lt YR.out⟩;have HG5B:Aside0 (g5<B2):=⟨hB2▸blk_lt Y5.out⟩;have HWB:Aside0 (w.heap.size<B2):=⟨hB2▸blk_lt Y2.out⟩;clear hB2 HS;go_wp2;have HS:Aside0 (Kd.R Kd.string 9 wk_ w.heap.size (fun k=>B2≤k) (.slice none 0 0) []):=⟨Kd.R_nil _ _ _ _ _⟩
   go_loopg [105] l.length (fun d v105 wr=>∃i:Nat,v105= .int .i64 i∧i+d=l.length∧Aside0 (RdAt g4 s (q+4+tot (l.take i)) wr)∧Aside0 (wr.heap[w.heap.size]?=some (.cells #[.int .i64 0,.int .i64 0,.int .i64 0,.int .i64 0,.string ⟨#[]⟩,.string ⟨#[]⟩,.slice none 0 0] 49 (0,0)))∧Aside0 (Below w.heap.size w wr)∧Aside0 (B2≤wr.heap.size)∧Aside0 (Kd.R (Kd.int .i64) 3 wr w.heap.size (fun k=>k<B2∧k≠g4∧k≠g5) (.slice A8 l.length c8) (szs l))∧∃vs_:Value,Aside0 (wr.heap[g5]?=some (.cells #[.int .i64 ch,.int .i64 bi,.int .i64 sz,.int .i64 fr,.string hd,.string tl,vs_] 49 (0,0)))∧Aside0 (Kd.R Kd.string 9 wr w.heap.size (fun k=>B2≤k) vs_ (l.take i)))
   case atStart=>exact⟨0,rfl,by omega,YR,Y2,YW,HB2,HV,_,Y5,HS⟩
   case round=>
    clear YR Y2 Y5 YW HV HS HB2;obtain⟨i,rfl,hi,YR,Y2,YW,HB2,HV,vs_,Y5,HS⟩:=hrel;obtain⟨As,cs_,he,hcs,_⟩:=Kd.R_reads HS.out;rw[List.length_take,Nat.min_eq_left (by omega)] at he hcs;subst he
    cases gk with
    |zero=>
     obtain rfl:l.length=i:=by omega
     have e1:l.take l.length=l:=List.take_of_length_le (Nat.le_refl _);rw[e1] at HS YR;replace YR:Aside0 (RdAt g4 s s.size wr):=⟨HO.out.fin▸YR.out⟩;have r1:=rd1 YR.out;have r2:=rd2 YR.out
     go_wp2_with (first|((with_reducible refine gate_dst (N:=132) rfl ?_);refine wpList_load_mid rfl 49 _ rfl g5 0 rfl [.int .i64 ch,.int .i64 bi,.int .i64 sz,.int .i64 fr,.string hd,.string tl,.slice As l.length cs_] _ (range_all Y5.out) Tryz.underlying49 rfl (by kernel_rfl) ?_)|((with_reducible refine gate_store (t:=49) (p:=2) rfl ?_);refine wpList_store_mid rfl 49 _ _ rfl w.heap.size 0 #[.int .i64 ch,.int .i64 bi,.int .i64 sz,.int .i64 fr,.string hd,.string tl,.slice As l.length cs_] rfl rfl (there_blk (vs:= [.int .i64 0,.int .i64 0,.int .i64 0,.int .i64 0,.string ⟨#[]⟩,.string ⟨#[]⟩,.slice none 0 0]) Y2.out 0 7 (by decide)) (by kernel_rfl) (by simp[Value.oneCell']) ?_;replace Y2:=Z_ (setCells_all (vs:= [.int .i64 ch,.int .i64 bi,.int .i64 sz,.int .i64 fr,.string hd,.string tl,.slice As l.length cs_]) (old:= [.int .i64 0,.int .i64 0,.int .i64 0,.int .i64 0,.string ⟨#[]⟩,.string ⟨#[]⟩,.slice none 0 0]) Y2.out rfl);replace YW:=Z_ (below_setCells YW.out (Nat.le_refl _) [.int .i64 ch,.int .i64 bi,.int .i64 sz,.int .i64 fr,.string hd,.string tl,.slice As l.length cs_] 0);replace HS:=Z_ (Kd.R_step HS.out (w1:=World.setCells _ w.heap.size 0 [.int .i64 ch,.int .i64 bi,.int .i64 sz,.int .i64 fr,.string hd,.string tl,.slice As l.length cs_]) (fun k hk _=>heap_setCells_far (Nat.ne_of_gt (Nat.lt_of_lt_of_le HWB.out hk)) _ _ _));clear YR Y5 HV HB2 r1 r2;generalize World.setCells _ _ _ _=wk_ at Y2 YW HS ⊢))
     refine bodyPost_ret (results_ct rfl _ _ w.heap.size 49 #[.int .i64 ch,.int .i64 bi,.int .i64 sz,.int .i64 fr,.string hd,.string tl,.slice As l.length cs_] (0,0) _ rfl Y2.out Tryz.underlying49 rfl (by kernel_rfl)) rfl ⟨_,rfl,Kd.R_mono HS.out (fun _ _=>trivial),YW.out⟩
    |succ d=>
     have hlt:i<l.length:=by omega
     have hlt':(i:Int)<l.length:=by omega
     have hi0:(0:Int)≤i:=by omega
     obtain⟨gv,co,eo,gb_,gl_,cl_,HG_⟩:=Kd.R_form HV.out (by show 0<(szs l).length;unfold szs;rw[List.length_map];omega);injection eo with ea_ en_ ec_
     subst ea_ ec_;clear en_ gb_ gl_ HG_;obtain⟨hx_,hf_⟩:=Kd.R_celln 0 HV.out (i:Int) hi0 hlt';rw[nC_] at hx_ hf_
     have hrd:rdOf 0 (szs l) (i:Int)=((l.getD i ByteArray.empty).size:Int):=by
      unfold rdOf szs;rw[nC_,gD_,List.getElem?_map,gD_,gE_ hlt];rfl
     rw[hrd] at hx_;have hst:=tot_take l i hlt;have hfin:=HO.out.fin;have htl:=tot_le l (i+1);have HG:=Lib.hid (HO.out.segs i hlt)
     have hsn:l.take (i+1)=l.take i++ [l.getD i ByteArray.empty]:=by
      rw[List.take_succ_eq_append_getElem hlt,gD_,gE_ hlt];rfl
     have He:(l.take i).length=i:=by rw[List.length_take];omega
     obtain⟨x,hx⟩:∃x,l.getD i ByteArray.empty=x:=⟨_,rfl⟩;rw[hx] at hst HG hx_ hsn;obtain⟨ps,hps⟩:∃p,q+4+tot (l.take i)=p:=⟨_,rfl⟩;have hpx:ps+x.size≤s.size:=by omega
     have hpn:q+4+tot (l.take (i+1))=ps+x.size:=by omega
     rw[hps] at YR HG;obtain⟨L,hL⟩:∃L,l.take i=L:=⟨_,rfl⟩;rw[hL] at HS hsn He;have HSN:=Lib.hid hsn;have HPN:=Lib.hid hpn;clear hrd hst hfin htl hx hps hL hsn hpn
     go_wp2_with fail
     clear hx_ hf_ cl_;replace YR:=Z_ (show RdAt _ _ _ _ from blk_drew YR.out);replace Y2:=Z_ (blk_drew Y2.out);replace Y5:=Z_ (blk_drew Y5.out);replace YW:=Z_ (below_drew1 YW.out);replace HS:=Z_ (Kd.R_drew HS.out);replace HV:=Z_ (Kd.R_drew HV.out);replace HB2:=Z_ (size_drew HB2.out);refine start_ (n:=9) (S:=fun w'=>w'.heap[g5]?=some (.cells #[.int .i64 ch,.int .i64 bi,.int .i64 sz,.int .i64 fr,.string hd,.string tl,.slice As i cs_] 49 (0,0))) (ds:= [8]) #[false,false,false,false,false,false,false,false,false] (by kernel_rfl) rfl rfl Y5.out (fun hHeld=>?_);refine with_tabW sgt.tab25 sgt.bits25 (fun HT_ HW_=>?_);generalize World.drew _=wk_ at YR Y2 Y5 YW HS HV HB2 hHeld ⊢;refine P_ 0 109 ?_;refine P_ 2 111 ?_;refine P_ 3 112 ?_;refine T_ 1 110 (y:=by rintro w' s0;have r6:=blk_cell s0 6;simp at r6;go_simp;with_reducible rfl) (h:=?_);refine O_ 4 113 fun K hK=>?_
     refine g_ Tryz.func42 #[.pointer (some ⟨g4,0,none⟩),.int .i64 x.size] ?_;refine(take_calls w g4 s ps x.size _ hsm hpx YR.out rQ.out YW.out).mono ?_;rintro e wk_ ⟨rfl,hra,hk⟩;refine⟨_,rfl,?_⟩;have hkz:=hk.size;have nr_:=Z_ hra;have bU:=Z_ ((hk.same _ (blk_lt Y2.out) rP.out).trans Y2.out);have bN:=Z_ ((hk.same _ (blk_lt Y5.out) BJ.out).trans Y5.out);have eX:=Z_ hk.bel;have j6:=Z_ (Kd.R_step HS.out (fun k hok hlt=>hk.same k hlt (Nat.ne_of_gt (Nat.lt_of_lt_of_le HG4B.out hok))));have mD:=Z_ (Kd.R_step HV.out (fun k hok hlt=>hk.same k hlt hok.2.1));clear YR Y2 Y5 YW HS HV;have YR:=nr_;have Y2:=bU;have Y5:=bN;have YW:=eX;have HS:=j6;have HV:=mD;clear nr_ hra hk bU bN eX j6 mD;replace HB2:=Z_ (Nat.le_trans HB2.out hkz);clear hkz;rw[HG.out];refine hK.out _ _ Y5.out (fun hHeld=>?_);clear hK K;refine Nm_ 113 ?_;refine O_ 5 114 fun K hK=>?_
     have l1:=blk_lt YR.out;have l2:=HB2.out;refine value_ (w1:=?_) (v:=?_) (by rfl) rfl ?_ ?_;rotate_left 2
     ·go_simp
      constructor
      ·rfl
      ·rfl
     refine hK.out _ _ (blk_alloc Y5.out _) (fun hHeld=>?_);clear hK K;refine Nm_ 114 ?_;refine O_ 6 115 fun K hK=>?_
     refine Kd.R_append_step Kd.string (w0:=w) w.heap.size (by rfl) (.tmp 110) (.tmp 114) 47 9 (.string ⟨#[]⟩) 16 rfl Tryz.underlying47 info9s rfl (by decide) (by omega) (.slice As i cs_) L x [.string x] (fun k=>B2≤k) (fun _=>False) rfl rfl rfl (fun _ hk=>hk.elim) (fun k hk=>Nat.le_trans l2 hk) HS.out YW.out (below_size YW.out) (by omega) ?_;intro VG w9 ho hb hgr hat;have bU:=Z_ (show RdAt _ _ _ _ from blk_grown YR.out hgr (fun e_=>absurd (HS.out.1 _ e_.symm) (Nat.not_le.2 HG4B.out)));have bN:=Z_ (blk_grown Y5.out hgr (fun e_=>absurd (HS.out.1 _ e_.symm) (Nat.not_le.2 HG5B.out)));have eX:=Z_ (blk_grown Y2.out hgr (fun e_=>absurd (HS.out.1 _ e_.symm) (Nat.not_le.2 HWB.out)));have j6:=Z_ (Kd.R_grown HV.out hgr (fun k hk e_=>absurd (HS.out.1 _ e_.symm) (Nat.not_le.2 hk.1)));have mD:=Z_ (Nat.le_trans HB2.out hgr.size);have HS:=Z_ ho;have YW:=Z_ hb;clear YR Y5 Y2 HV HB2 hat hgr ho hb l1 l2;have YR:=bU;have Y5:=bN;have Y2:=eX;have HV:=j6;have HB2:=mD;clear bU bN eX j6 mD;refine hK.out _ _ Y5.out (fun hHeld=>?_);clear hK K;refine Nm_ 115 ?_;refine P_ 7 116 ?_;refine last_ (i:=8) (N:=none) #[true,true,true,true,true,true,true,true,true] rfl rfl (one_of HT_.out (by kernel_rfl)) (by decide) (fun K hK=>?_);obtain⟨A9,c9,Tq,Xl,_⟩:=Kd.R_reads HS.out;rw[List.length_append,List.length_singleton,He] at Tq;subst Tq;refine skip_ (w1:=w9.setCells g5 6 [.slice A9 (i+1) c9]) (by rfl) rfl (exec_store_cell 47 _ _ rfl g5 6 (.slice A9 (i+1) c9) rfl rfl (there_blk (vs:= [.int .i64 ch,.int .i64 bi,.int .i64 sz,.int .i64 fr,.string hd,.string tl,.slice As i cs_]) Y5.out 6 1 (Nat.le_of_ble_eq_true rfl)) (by kernel_rfl) rfl) ?_;have bU:=Z_ (rd_far YR.out QL.out [.slice A9 (i+1) c9] 6);have bN:=Z_ (st5_6 (.slice A9 (i+1) c9) Y5.out);have eX:=Z_ (setCells_far QN.out [.slice A9 (i+1) c9] _ 6 Y2.out);have j6:=Z_ (below_setCells YW.out QM.out [.slice A9 (i+1) c9] 6);have mD:=Z_ (Kd.R_step HV.out (w1:=w9.setCells g5 6 [.slice A9 (i+1) c9]) (fun k hk _=>heap_setCells_far hk.2.2 _ _ _));have uy:=Z_ (Kd.R_step HS.out (w1:=w9.setCells g5 6 [.slice A9 (i+1) c9]) (fun k hk _=>heap_setCells_far (Nat.ne_of_gt (Nat.lt_of_lt_of_le HG5B.out hk)) _ _ _));have yg:Aside0 (B2≤(w9.setCells g5 6 [.slice A9 (i+1) c9]).heap.size):=⟨Nat.le_trans HB2.out (Nat.le_of_eq (setCells_size g5 [.slice A9 (i+1) c9] 6 w9).symm)⟩;clear YR Y5 Y2 YW HV HS HB2;have YR:=bU;have Y5:=bN;have Y2:=eX;have YW:=j6;have HV:=mD;have HS:=uy;have HB2:=yg;clear bU bN eX j6 mD uy yg;generalize World.setCells _ _ _ _=wk_ at YR Y5 Y2 YW HV HS HB2 ⊢;refine hK.out _ _ ?_;clear hK K;refine done_ (done_of HT_.out (by kernel_rfl)) ?_;go_wp2
     go_roundg d
     case measure=>omega
     case rel=>exact⟨i+1,by go_num,by omega,⟨by rw[HPN.out];exact YR.out⟩,Y2,YW,HB2,HV,_,Y5,⟨by rw[HSN.out];exact HS.out⟩⟩
  |succ d=>
   have hlt:i<l.length:=by omega
   have hlt':(i:Int)<l.length:=by omega
   have hi0:(0:Int)≤i:=by omega
   have hz:=HO.out.szs (l.getD i ByteArray.empty) (by rw[gD_,gE_ hlt];exact List.getElem_mem _);have hst:=szs_take l i hlt;have HF:=Lib.hid (HO.out.sizes i hlt);obtain⟨x,hx⟩:∃x,l.getD i ByteArray.empty=x:=⟨_,rfl⟩;rw[hx] at hz hst HF;have HST:=Lib.hid hst
   have HZ:Hid (stream_size.f (x.size:Int)=some true):=by
    show _=_;rw[stream_size_f,hz]
   clear hst hz hx
   go_wp2_with fail
   refine(fieldRd_calls w g4 s (p5+2*i) 2 20 _ _ _ hsm (by have h2:=HO.out.hq;have h3:=HO.out.fin;omega) HF.out YR.out rQ.out YW.out).mono ?_;rintro e wk_ ⟨rfl,hra,hk⟩;have nr_:=Z_ hra;have bU:=Z_ ((hk.same _ (blk_lt Y2.out) rP.out).trans Y2.out);have bN:=Z_ hk.bel;have eX:=Z_ ((hk.same _ (blk_lt Y5.out) BJ.out).trans Y5.out);have j6:=Z_ (Kd.R_step HS.out (fun k hok hlt=>hk.same k hlt hok.1));clear YR Y2 YW Y5 HS;have YR:=nr_;have Y2:=bU;have YW:=bN;have Y5:=eX;have HS:=j6;clear nr_ hra hk bU bN eX j6;have r2:=rd2 YR.out
   go_wp2_with fail
   refine(stream_size.calls _ _ _ HZ.out).mono ?_;rintro e Hd ⟨rfl,⟨⟨nd,rfl⟩⟩⟩;clear r2;replace YR:=Z_ (show RdAt _ _ _ _ from blk_drewN YR.out nd);replace Y2:=Z_ (blk_drewN Y2.out nd);replace YW:=Z_ (pw_below_drewN YW.out nd);replace Y5:=Z_ (blk_drewN Y5.out nd);replace HS:=Z_ (Kd.R_drewN HS.out nd);generalize World.drewN _ nd=wk_ at YR Y2 YW Y5 HS ⊢;have r2:=rd2 YR.out
   go_wp2_with (first|((with_reducible refine gate_store (t:=4) (p:=77) rfl ?_);refine wpList_store_cell rfl 4 _ _ rfl g4 2 (.bool false) rfl rfl (rd_there YR.out) (by kernel_rfl) rfl ?_;replace YR:=Z_ (rd_put2 YR.out);replace Y2:=Z_ (setCells_far rP.out [.bool false] _ 2 Y2.out);replace Y5:=Z_ (setCells_far BJ.out [.bool false] _ 2 Y5.out);replace YW:=Z_ (below_setCells YW.out rQ.out [.bool false] 2);replace HS:=Z_ (Kd.R_step HS.out (w1:=World.setCells _ g4 2 [.bool false]) (fun k hk _=>heap_setCells_far hk.1 _ _ _));clear r2;generalize World.setCells _ _ _ _=wk_ at YR Y2 Y5 YW HS ⊢)|((with_reducible refine gate_builtin (b:= .append) (xs:= #[.tmp 78,.tmp 80]) rfl ?_);at_builtin;refine Kd.R_append (Kd.int .i64) (w0:=w) w.heap.size rfl (.tmp 78) (.tmp 80) 36 3 (.int .i64 0) 8 rfl Tryz.underlying36 info3 rfl (by decide) (by omega) (.slice A8 i c8) (szs (l.take i)) (x.size:Int) [.int .i64 x.size] (fun k=>k≠g4∧k≠g5∧k≠w.heap.size) (fun _=>False) rfl rfl rfl (fun _ hk=>hk.elim) (fun k hk=>⟨Nat.ne_of_gt (Nat.lt_of_lt_of_le (blk_lt YR.out) hk),Nat.ne_of_gt (Nat.lt_of_lt_of_le (blk_lt Y5.out) hk),Nat.ne_of_gt (Nat.lt_of_lt_of_le (blk_lt Y2.out) hk)⟩) HS.out YW.out (below_size YW.out) (by unfold szs;rw[List.length_map,List.length_take];have h2:=HO.out.hq;have h3:=HO.out.fin;omega) ?_;intro VG w9 ho hb hgr hat;have bU:=Z_ (show RdAt _ _ _ _ from blk_grown YR.out hgr (fun e_=>(HS.out.1 _ e_.symm).1 rfl));have bN:=Z_ (blk_grown Y5.out hgr (fun e_=>(HS.out.1 _ e_.symm).2.1 rfl));have eX:=Z_ (blk_grown Y2.out hgr (fun e_=>(HS.out.1 _ e_.symm).2.2 rfl));clear YR Y5 Y2 HS YW hat hgr;have YR:=bU;have Y5:=bN;have Y2:=eX;have HS:=Z_ ho;have YW:=Z_ hb;clear bU bN eX ho hb))
   go_wp2
   go_roundg d
   case measure=>omega
   case rel=>exact⟨i+1,by go_num,by omega,YR,Y2,Y5,YW,⟨by rw[HST.out];exact HS.out⟩⟩
namespace Le
theorem vput_k(k x:Nat)(h:x<16384):varint_Put.f (k+3) (x:Int)=some (strOfNums (vb x),0):=by
 unfold varint_Put.f;rw[if_neg (by omega),df_ (by omega),varint_Put.j0,if_neg (by decide)];unfold vb
 by_cases hx:x<128
 ·have e:(x:Int)%256=(x:Int):=by omega
  rw[if_pos hx,varint_Put.l0,if_neg (by omega),if_pos (by decide),e];rfl
 ·have e1:wrap64 (Int.tdiv (x:Int) 128)=((x / 128:Nat):Int):=by rw[tdiv128];unfold wrap64;omega
  have e2:wrap64 (Int.tmod (x:Int) 128+128)%256=((x%128+128:Nat):Int):=by
   have:Int.tmod (x:Int) 128=((x%128:Nat):Int):=rfl;rw[this];unfold wrap64;omega
  have e3:((x / 128:Nat):Int)%256=((x / 128:Nat):Int):=by omega
  rw[if_neg hx,varint_Put.l0,if_pos (by omega),if_pos (by decide),e1,e2,varint_Put.l0,if_neg (by omega),if_pos (by simp),e3];rfl
theorem bytesOf_nums(xs:List Int)(h:∀x∈xs,0≤x∧x≤255):bytesOf (strOfNums xs)=xs:=by
 unfold bytesOf;rw[strOfNums_data,List.map_map];refine(List.map_congr_left (g:=id) (fun x hx=>?_)).trans (List.map_id xs);have:=h x hx;show((UInt8.ofNat x.toNat).toNat:Int)=x;rw[UInt8.toNat_ofNat_of_lt' (by show x.toNat<256;omega)];omega
theorem bytes_rng(n x:Nat):∀b∈bytes n x,0≤b∧b≤255:=by
 intro b hb;unfold bytes at hb;obtain⟨i,_,rfl⟩:=List.mem_map.1 hb;omega
theorem val_bytes(n x:Nat):val (bytes n x)=x%256 ^ n:=by
 induction n with
 |zero=>simp[bytes,val,Nat.mod_one]
 |succ n ih=>
  rw[bytes_succ,val_snoc,ih,bytes_len,nC_,Nat.pow_succ,Nat.mod_mul]
theorem fget(n x:Nat)(h1:1≤n)(hn:n≤4)(hx:x<256 ^ n):field_Get.f 20 (strOfNums (bytes n x))=some ((x:Int),0):=by
 rw[get_f _ (by rw[strOfNums_size,bytes_len];omega) (by rw[strOfNums_size,bytes_len];exact hn),bytesOf_nums _ (bytes_rng n x),val_bytes,Nat.mod_eq_of_lt hx]
theorem bytes_one(x:Nat)(h:x<256):bytes 1 x= [(x:Int)]:=by
 show [((x / 256 ^ 0%256:Nat):Int)]=_;rw[Nat.pow_zero,Nat.div_one,Nat.mod_eq_of_lt h]
theorem vb_rng(x:Nat)(hx:x<16384):∀b∈vb x,0≤b∧b≤255:=by
 intro b hb;unfold vb at hb
 split at hb
 ·simp at hb;omega
 ·simp at hb;omega
theorem bt_ext(s t:ByteArray)(p n i:Nat)(h:s.extract p (p+n)=t)(hp:p+n≤s.size)(hi:i<n):bt s ((p+i:Nat):Int)=bt t (i:Int):=by
 subst h;have hz:(s.extract p (p+n)).size=n:=by rw[ByteArray.size_extract];omega
 unfold bt;rw[nC_,nC_,dif_pos (by omega),dif_pos (by omega)]
 congr 2
 first
 |exact(ByteArray.getElem_extract ..).symm
 |simp[ByteArray.getElem_extract]
 |(rw[ByteArray.getElem_eq_getElem_data,ByteArray.getElem_eq_getElem_data];simp)
theorem bt_nums(xs:List Int)(h:∀x∈xs,0≤x∧x≤255)(i:Int):bt (strOfNums xs) i=rd xs i:=by
 rw[←rd_bytesOf,bytesOf_nums xs h]
theorem or0(x:Nat)(h:x<256):Go.bits .or .i64 0 (shl .i64 (x:Int) 0)=(x:Int):=by
 have e2:wrap64 (x:Int)=x:=by unfold wrap64;omega
 have e0:wrap64 (8*((0:Nat):Int))=0:=by unfold wrap64;omega
 have e40:((0:Nat):Int)=0:=Int.natCast_zero;have e4:=or_add 0 x 0 (by omega) (by rw[Nat.pow_zero];omega) h;rw[e2,e0,e40] at e4;rw[e4,Nat.pow_zero,Nat.one_mul,Nat.zero_add]
theorem or7(a b:Nat)(ha:a<128)(hb:b<128):Go.bits .or .i64 (a:Int) (shl .i64 (b:Int) 7)=((a+128*b:Nat):Int):=by
 have hs:shl .i64 (b:Int) 7=((128*b:Nat):Int):=by
  unfold shl
  have e:(b:Int)*2 ^ (min (7:Int).toNat 64)=((128*b:Nat):Int):=by
   have:(min (7:Int).toNat 64)=7:=rfl;rw[this];omega
  first
  |rw[e,IntKind.wrap_i64];omega
  |(rw[show(min (7:Int).toNat IntKind.i64.bits)=min (7:Int).toNat 64 from rfl,e,IntKind.wrap_i64];omega)
 rw[hs,or64 a (128*b) (by omega) (by omega)];have h3:=Nat.two_pow_add_eq_or_of_lt (i:=7) (b:=a) ha b;rw[Nat.or_comm,show 128*b=2 ^ 7*b from rfl,←h3,Nat.add_comm]
theorem o1(x:Nat)(h:x<128):Go.bits .or .i64 0 (shl .i64 (Int.tmod (x:Int) 128) 0)=(x:Int):=by
 have e5:Int.tmod (x:Int) 128=((x%128:Nat):Int):=rfl;rw[e5,or0 _ (by omega),Nat.mod_eq_of_lt h]
theorem o2(x:Nat):Go.bits .or .i64 0 (shl .i64 (Int.tmod ((x%128+128:Nat):Int) 128) 0)=((x%128:Nat):Int):=by
 have e5:Int.tmod ((x%128+128:Nat):Int) 128=(((x%128+128)%128:Nat):Int):=rfl;rw[e5,or0 _ (by omega)]
 congr 1
 omega
theorem o3(x:Nat)(hx:x<16384):Go.bits .or .i64 ((x%128:Nat):Int) (shl .i64 (Int.tmod ((x / 128:Nat):Int) 128) 7)=(x:Int):=by
 have e5:Int.tmod ((x / 128:Nat):Int) 128=(((x / 128)%128:Nat):Int):=rfl;rw[e5,or7 _ _ (by omega) (by omega)]
 congr 1
 omega
theorem vget(s:ByteArray)(p x:Nat)(hx:x<16384)(hs:s.size≤65536)(hp:p+(vb x).length≤s.size)(he:s.extract p (p+(vb x).length)=strOfNums (vb x)):
  varint_Get.f 20 s (p:Int)=some ((x:Int),((p+(vb x).length:Nat):Int),0):=by
 have g0:¬((p:Int)<0):=by omega
 have g1:¬((p:Int)>s.size):=by omega
 have g2:(0:Int)≤p:=by omega
 have hl1:1≤(vb x).length:=by unfold vb;split<;>simp
 have g3:(p:Int)<s.size:=by omega
 have g4:(p:Int)≤((p+1:Nat):Int):=by omega
 have g5:(0:Int)≤((p+1:Nat):Int):=by omega
 have g6:((p+1:Nat):Int)≤s.size:=by omega
 have g7:(p:Int)≤((p+2:Nat):Int):=by omega
 have w1:wrap64 ((p:Int)+1)=((p+1:Nat):Int):=by unfold wrap64;omega
 have w2:wrap64 (((p+1:Nat):Int)+1)=((p+2:Nat):Int):=by unfold wrap64;omega
 have e2:wrap64 (x:Int)=x:=by unfold wrap64;omega
 have e2a:wrap64 ((x%128+128:Nat):Int)=((x%128+128:Nat):Int):=by unfold wrap64;omega
 have e2b:wrap64 ((x / 128:Nat):Int)=((x / 128:Nat):Int):=by unfold wrap64;omega
 have q1:((x%128+128:Nat):Int)≥128:=by omega
 have q2:¬((x / 128:Nat):Int)≥128:=by omega
 have e9:wrap64 ((0:Int)+7)=7:=by unfold wrap64;omega
 have hb:=fun i hi=>bt_ext s _ p _ i he hp hi
 have hr:=bt_nums (vb x) (vb_rng x hx)
 have htl:(strOfNums (vb x)).toList=(s.extract (p:Int).toNat ((p+(vb x).length:Nat):Int).toNat).toList:=by
  rw[nC_,nC_,he]
 unfold varint_Get.f;rw[if_neg g0,df_ g1,varint_Get.j0,if_neg (by decide),varint_Get.l0,if_pos g3,dt_ (show(0:Int)<35 by decide),varint_Get.j2,if_pos rfl,if_pos g2,if_pos g3,if_pos (Int.le_refl 0),w1];have e0:=hb 0 hl1;rw[Nat.add_zero,hr] at e0;rw[e0]
 by_cases h:x<128
 ·have Pz:¬((x:Int)≥128):=by clear e0 hb hr;omega
  have hv:vb x= [(x:Int)]:=by unfold vb;rw[if_pos h]
  rw[hv] at htl hp ⊢;have hle:([(x:Int)]:List Int).length=1:=rfl;rw[hle] at htl hp ⊢;have e1:rd [(x:Int)] (0:Nat)=x:=rfl;have e3:=o1 x h;have hpt:=vput_k 14 x hx;rw[hv] at hpt;rw[e1,e2,if_neg Pz,e3,hpt];rw[bs_];dsimp only;rw[if_pos rfl,if_pos g2,if_pos g4,if_pos g6,if_pos htl]
 ·have hv:vb x= [((x%128+128:Nat):Int),((x / 128:Nat):Int)]:=by unfold vb;rw[if_neg h]
  have e0':=hb 1 (by rw[hv];simp);rw[hr] at e0';rw[hv] at htl hp e0' ⊢;have hle:([((x%128+128:Nat):Int),((x / 128:Nat):Int)]:List Int).length=2:=rfl;rw[hle] at htl hp ⊢;have hp2:p+2≤s.size:=hp;have hp3:((p+2:Nat):Int)≤s.size:=by clear e0 e0' hb hr;omega
  have QO:((p+1:Nat):Int)<s.size:=by clear e0 e0' hb hr;omega
  have e1:rd [((x%128+128:Nat):Int),((x / 128:Nat):Int)] (0:Nat)=((x%128+128:Nat):Int):=rfl;have e1':rd [((x%128+128:Nat):Int),((x / 128:Nat):Int)] (1:Nat)=((x / 128:Nat):Int):=rfl;have e3:=o2 x;have e8:=o3 x hx;have hpt:=vput_k 12 x hx;rw[hv] at hpt;rw[e1,e2a,if_pos q1,e3,e9,varint_Get.l0,if_pos QO,dt_ (show(7:Int)<35 by decide),varint_Get.j2,if_pos rfl,if_pos g5,if_pos QO,if_pos (show(0:Int)≤7 by decide),e0',e1',e2b,if_neg q2,e8,hpt,w2];rw[bs_];dsimp only;rw[if_pos rfl,if_pos g2,if_pos g7,if_pos hp3,if_pos htl]
end Le
theorem ext_of(s:ByteArray)(A B C:List UInt8)(h:s.data.toList=A++(B++C))(a b:Nat)(ha:A.length=a)(hb:a+B.length=b):s.extract a b=⟨B.toArray⟩:=by
 subst ha hb;refine ByteArray.ext ?_;rw[ByteArray.data_extract]
 have h1:(s.data.extract A.length (A.length+B.length)).toList=B:=by
  rw[Array.toList_extract,List.extract_eq_take_drop,h,List.drop_left,Nat.add_sub_cancel_left,List.take_left]
 rw[←Array.toArray_toList (xs:=s.data.extract A.length (A.length+B.length)),h1]
abbrev nb(xs:List Int):List UInt8:=(strOfNums xs).data.toList
theorem nb_len(xs:List Int):(nb xs).length=xs.length:=by rw[data_length,strOfNums_size]
theorem nb_arr(xs:List Int):(⟨(nb xs).toArray⟩:ByteArray)=strOfNums xs:=rfl
theorem arr_list(s:ByteArray):(⟨s.data.toList.toArray⟩:ByteArray)=s:=by
 refine ByteArray.ext ?_;exact Array.toArray_toList
def flat(l:List ByteArray):List UInt8:=(l.map (·.data.toList)).flatten
theorem flat_len(l:List ByteArray):(flat l).length=tot l:=by
 induction l with
 |nil=>rfl
 |cons s r ih=>
  show(s.data.toList++flat r).length=s.size+tot r;rw[List.length_append,ih,data_length]
theorem join_flat(l:List ByteArray):Lib.join (l.map (·.data.toList)) []=flat l:=by
 show([]:List UInt8).intercalate _=_;unfold flat;generalize l.map (·.data.toList)=L;unfold List.intercalate
 induction L with
 |nil=>rfl
 |cons x r ih=>
  cases r with
  |nil=>rfl
  |cons y r=>
   rw[List.intersperse_cons_cons,List.flatten_cons,List.flatten_cons,List.nil_append,ih];rfl
theorem cut_at(l:List ByteArray)(i:Nat)(h:i<l.length):l=l.take i++l.getD i ByteArray.empty::l.drop (i+1):=by
 have:l.getD i ByteArray.empty=l[i]:=by rw[gD_,gE_ h];rfl
 rw[this,←List.drop_eq_getElem_cons h,List.take_append_drop]
theorem flat_at(l:List ByteArray)(i:Nat)(h:i<l.length):flat l=flat (l.take i)++((l.getD i ByteArray.empty).data.toList++flat (l.drop (i+1))):=by
 have e:flat l=flat (l.take i++l.getD i ByteArray.empty::l.drop (i+1)):=by rw[←cut_at l i h]
 rw[e];unfold flat;rw[List.map_append,List.flatten_append];rfl
theorem sput3_at(l:List ByteArray)(i:Nat)(h:i<l.length):sput3 l=sput3 (l.take i)++(nb (Le.bytes 2 (l.getD i ByteArray.empty).size)++sput3 (l.drop (i+1))):=by
 have e:sput3 l=sput3 (l.take i++l.getD i ByteArray.empty::l.drop (i+1)):=by rw[←cut_at l i h]
 rw[e];unfold sput3;rw[List.map_append,List.flatten_append];rfl
theorem sputL_eq(ch bi sz fr:Nat)(hd tl:ByteArray)(l:List ByteArray):sputL ch bi sz fr hd tl l=dsct.data.toList++(nb [(ch:Int)]++(nb [(bi:Int)]++(nb [(sz:Int)]++(nb (Le.vb fr)++(nb (Le.vb hd.size)++(nb (Le.vb tl.size)++(hd.data.toList++(tl.data.toList++sput3 l)))))))):=by
 unfold sputL sput1 sput2;have e:(strOfNums [(ch:Int),bi,sz]).data.toList=nb [(ch:Int)]++(nb [(bi:Int)]++nb [(sz:Int)]):=rfl;simp only[ByteArray.data_append,Array.toList_append,e,List.append_assoc]
theorem sput_list(ch bi sz fr:Nat)(hd tl:ByteArray)(l:List ByteArray):(sput ch bi sz fr hd tl l).data.toList=sputL ch bi sz fr hd tl l++(nb (Le.bytes 4 (Crc.sum (sputL ch bi sz fr hd tl l)))++flat l):=by
 unfold sput;rw[join_flat];simp only[ByteArray.data_append,Array.toList_append,List.append_assoc,List.toList_toArray]
theorem crc_rng(L:List UInt8):Crc.sum L<256 ^ 4:=Crc.sum_lt L
theorem sputL_len(ch bi sz fr:Nat)(hd tl:ByteArray)(l:List ByteArray):(sputL ch bi sz fr hd tl l).length=7+(Le.vb fr).length+(Le.vb hd.size).length+(Le.vb tl.size).length+hd.size+tl.size+2*l.length:=by
 rw[sputL_eq];simp only[List.length_append,nb_len,data_length,strOfNums_size,sput3_len,List.length_cons,List.length_nil];have:dsct.size=4:=rfl;omega
theorem sput_size(ch bi sz fr:Nat)(hd tl:ByteArray)(l:List ByteArray):(sput ch bi sz fr hd tl l).size=(sputL ch bi sz fr hd tl l).length+4+tot l:=by
 rw[←data_length,sput_list,List.length_append,List.length_append,nb_len,Le.bytes_len,flat_len];omega
theorem szB_of{s:ByteArray}(h:szB s=true):9≤s.size∧s.size≤65535:=od_ h
theorem getD_mem(l:List ByteArray)(i:Nat)(h:i<l.length):l.getD i ByteArray.empty∈l:=by
 rw[gD_,gE_ h];exact List.getElem_mem _
theorem sput_ok(ch bi sz fr:Nat)(hd tl:ByteArray)(l:List ByteArray)(hh:headOk ch bi sz fr hd tl)(hn:stream_Many.f fr sz=some (l.length:Int))(hs:∀x∈l,szB x=true)(hb:(sput ch bi sz fr hd tl l).size≤65536):
  ∃p1 p2 p3 p5 q,StrOk (sput ch bi sz fr hd tl l) ch bi sz fr hd tl l p1 p2 p3 p5 q:=by
 have hz:=sput_size ch bi sz fr hd tl l;have hz2:=sputL_len ch bi sz fr hd tl l;have hL:=sput_list ch bi sz fr hd tl l;have hE:=sputL_eq ch bi sz fr hd tl l;have hh':=hh;obtain⟨h1,h2,h3,h4,h5,h6,h7,h8⟩:=hh;have b1:ch<256:=by omega
 have b2:bi<256:=by omega
 have b3:sz<256:=by omega
 have c1:=Le.fget 1 ch (by omega) (by omega) (by omega);have c2:=Le.fget 1 bi (by omega) (by omega) (by omega);have c3:=Le.fget 1 sz (by omega) (by omega) (by omega);rw[Le.bytes_one _ b1] at c1;rw[Le.bytes_one _ b2] at c2;rw[Le.bytes_one _ b3] at c3;have hq0:sputL ch bi sz fr hd tl l=sputL ch bi sz fr hd tl l:=rfl;obtain⟨S,hS⟩:∃S,sput ch bi sz fr hd tl l=S:=⟨_,rfl⟩;obtain⟨Q,hQ⟩:∃Q,sputL ch bi sz fr hd tl l=Q:=⟨_,rfl⟩;rw[hS] at hz hL hb ⊢;rw[hQ] at hz hz2 hL hE;have cc:=Le.fget 4 (Crc.sum Q) (by omega) (by omega) (crc_rng Q);obtain⟨C,hC⟩:∃C,nb (Le.bytes 4 (Crc.sum Q))=C:=⟨_,rfl⟩;have hCl:C.length=4:=by rw[←hC,nb_len,Le.bytes_len]
 have hCa:strOfNums (Le.bytes 4 (Crc.sum Q))=⟨C.toArray⟩:=by rw[←hC]
 rw[hC] at hL;rw[hCa] at cc;have hLE:=hL;rw[hE] at hLE;simp only[List.append_assoc] at hLE;have v1:=Le.vget S 7 fr (by omega) hb (by omega) ((ext_of S (dsct.data.toList++(nb [(ch:Int)]++(nb [(bi:Int)]++nb [(sz:Int)]))) (nb (Le.vb fr)) _ (by rw[hLE];simp only[List.append_assoc];try rfl) 7 (7+(Le.vb fr).length) rfl (by rw[nb_len])).trans (nb_arr _));have v2:=Le.vget S (7+(Le.vb fr).length) hd.size (by omega) hb (by omega) ((ext_of S (dsct.data.toList++(nb [(ch:Int)]++(nb [(bi:Int)]++(nb [(sz:Int)]++nb (Le.vb fr))))) (nb (Le.vb hd.size)) _ (by rw[hLE];simp only[List.append_assoc];try rfl) (7+(Le.vb fr).length) (7+(Le.vb fr).length+(Le.vb hd.size).length) (by simp only[List.length_append,data_length,strOfNums_size,List.length_cons,List.length_nil];have:dsct.size=4:=rfl;omega) (by rw[nb_len])).trans (nb_arr _));have v3:=Le.vget S (7+(Le.vb fr).length+(Le.vb hd.size).length) tl.size (by omega) hb (by omega) ((ext_of S (dsct.data.toList++(nb [(ch:Int)]++(nb [(bi:Int)]++(nb [(sz:Int)]++(nb (Le.vb fr)++nb (Le.vb hd.size)))))) (nb (Le.vb tl.size)) _ (by rw[hLE];simp only[List.append_assoc];try rfl) (7+(Le.vb fr).length+(Le.vb hd.size).length) (7+(Le.vb fr).length+(Le.vb hd.size).length+(Le.vb tl.size).length) (by simp only[List.length_append,data_length,strOfNums_size,List.length_cons,List.length_nil];have:dsct.size=4:=rfl;omega) (by rw[nb_len])).trans (nb_arr _));refine⟨_,_,_,_,_,⟨hb,by omega,?_,?_,?_,?_,v1,v2,v3,?_,?_,rfl,rfl,?_,?_,?_,?_,hh',hn,hs⟩⟩
 ·exact(ext_of S [] dsct.data.toList _ (by rw[hLE];rfl) _ _ rfl rfl).trans (arr_list _)
 ·rw[(ext_of S dsct.data.toList (nb [(ch:Int)]) _ hLE 4 (4+1) rfl rfl).trans (nb_arr _)];exact c1
 ·rw[(ext_of S (dsct.data.toList++nb [(ch:Int)]) (nb [(bi:Int)]) _ (by rw[hLE];simp only[List.append_assoc];try rfl) 5 (5+1) rfl rfl).trans (nb_arr _)];exact c2
 ·rw[(ext_of S (dsct.data.toList++(nb [(ch:Int)]++nb [(bi:Int)])) (nb [(sz:Int)]) _ (by rw[hLE];simp only[List.append_assoc];try rfl) 6 (6+1) rfl rfl).trans (nb_arr _)];exact c3
 ·refine(ext_of S (dsct.data.toList++(nb [(ch:Int)]++(nb [(bi:Int)]++(nb [(sz:Int)]++(nb (Le.vb fr)++(nb (Le.vb hd.size)++nb (Le.vb tl.size))))))) hd.data.toList _ (by rw[hLE];simp only[List.append_assoc];try rfl) _ _ ?_ ?_).trans (arr_list _)
  ·simp only[List.length_append,data_length,strOfNums_size,List.length_cons,List.length_nil];have:dsct.size=4:=rfl;omega
  ·rw[data_length]
 ·refine(ext_of S (dsct.data.toList++(nb [(ch:Int)]++(nb [(bi:Int)]++(nb [(sz:Int)]++(nb (Le.vb fr)++(nb (Le.vb hd.size)++(nb (Le.vb tl.size)++hd.data.toList))))))) tl.data.toList _ (by rw[hLE];simp only[List.append_assoc];try rfl) _ _ ?_ ?_).trans (arr_list _)
  ·simp only[List.length_append,data_length,strOfNums_size,List.length_cons,List.length_nil];have:dsct.size=4:=rfl;omega
  ·rw[data_length]
 ·intro i hi;have e3:=sput3_at l i hi;rw[e3] at hLE;simp only[List.append_assoc] at hLE;have hx:=szB_of (hs _ (getD_mem l i hi))
  rw[(ext_of S (dsct.data.toList++(nb [(ch:Int)]++(nb [(bi:Int)]++(nb [(sz:Int)]++(nb (Le.vb fr)++(nb (Le.vb hd.size)++(nb (Le.vb tl.size)++(hd.data.toList++(tl.data.toList++sput3 (l.take i)))))))))) (nb (Le.bytes 2 (l.getD i ByteArray.empty).size)) _ (by rw[hLE];simp only[List.append_assoc];try rfl) _ _ (by
   simp only[List.length_append,data_length,strOfNums_size,sput3_len,List.length_take,List.length_cons,List.length_nil];have:dsct.size=4:=rfl
   omega) (by rw[nb_len,Le.bytes_len])).trans (nb_arr _)]
  exact Le.fget 2 _ (by omega) (by omega) (by omega)
 ·have e0:S.extract 0 (7+(Le.vb fr).length+(Le.vb hd.size).length+(Le.vb tl.size).length+hd.size+tl.size+2*l.length)=⟨Q.toArray⟩:=ext_of S [] Q _ (by rw[hL];rfl) _ _ rfl (by rw[hz2];omega);rw[e0];have e1:S.extract (7+(Le.vb fr).length+(Le.vb hd.size).length+(Le.vb tl.size).length+hd.size+tl.size+2*l.length) (7+(Le.vb fr).length+(Le.vb hd.size).length+(Le.vb tl.size).length+hd.size+tl.size+2*l.length+4)=⟨C.toArray⟩:=ext_of S Q C _ hL _ _ (by rw[hz2]) (by rw[hCl]);rw[e1];exact cc
 ·intro i hi;have e3:=flat_at l i hi;rw[e3] at hL;refine(ext_of S (Q++(C++flat (l.take i))) (l.getD i ByteArray.empty).data.toList _ (by rw[hL];simp only[List.append_assoc];try rfl) _ _ ?_ (by rw[data_length])).trans (arr_list _);rw[List.length_append,List.length_append,flat_len,hCl,hz2];omega
 ·omega
instance headOk.dec (ch bi sz fr:Int) (hd tl:ByteArray):Decidable (headOk ch bi sz fr hd tl):=by unfold headOk;infer_instance
def stream_Put.f(ch bi sz fr:Int)(hd tl:ByteArray)(l:List ByteArray):Option (ByteArray×Int):=
 if headOk ch bi sz fr hd tl∧stream_Many.f fr sz=some (l.length:Int)∧l.length≤4096∧l.all szB=true then some (sput ch.toNat bi.toNat sz.toNat fr.toNat hd tl l,0) else none
theorem tot_bd(l:List ByteArray)(h:∀s∈l,szB s=true):tot l≤65535*l.length:=by
 induction l with
 |nil=>simp[tot]
 |cons s r ih=>
  have h1:=szB_of (h s (List.mem_cons_self ..));have h2:=ih (fun x hx=>h x (List.mem_cons_of_mem _ hx));have h3:tot (s::r)=s.size+tot r:=rfl;rw[h3,List.length_cons];omega
theorem stream_Put.calls(ch bi sz fr:Int)(hd tl:ByteArray)(A0:Option Addr)(c0:Nat)(l:List ByteArray)(r1:ByteArray)(r2:Int)(w:World)(hr0:Kd.C Kd.string w A0 l.length l)(hc0:l.length≤c0)(h:stream_Put.f ch bi sz fr hd tl l=some (r1,r2)):
  Calls Tryz.prog 23 #[.agg #[.int .i64 ch,.int .i64 bi,.int .i64 sz,.int .i64 fr,.string hd,.string tl,.slice A0 l.length c0]] w fun e w'=>e= .returned (.tuple #[.string r1,.int .i64 r2])∧Below w.heap.size w w':=by
 unfold stream_Put.f at h
 by_cases hx:headOk ch bi sz fr hd tl∧stream_Many.f fr sz=some (l.length:Int)∧l.length≤4096∧l.all szB=true
 ·rw[if_pos hx] at h;have h2:=Option.some.inj h;obtain⟨rfl,rfl⟩:=Prod.mk.inj h2;clear h h2;obtain⟨h1,h2,h3,h4⟩:=hx;have hs:∀s∈l,szB s=true:=fun s hs=>List.all_eq_true.1 h4 s hs
  have hb:0≤ch∧0≤bi∧0≤sz∧0≤fr:=by
   obtain⟨q1,q2,q3,q4,q5,_⟩:=h1;omega
  obtain⟨b1,b2,b3,b4⟩:=hb;obtain⟨ch,rfl⟩:=Int.eq_ofNat_of_zero_le b1;obtain⟨bi,rfl⟩:=Int.eq_ofNat_of_zero_le b2;obtain⟨sz,rfl⟩:=Int.eq_ofNat_of_zero_le b3;obtain⟨fr,rfl⟩:=Int.eq_ofNat_of_zero_le b4;refine sput_calls ch bi sz fr hd tl A0 l.length c0 l w h1 h2 rfl h3 hs hr0 hc0 ?_;rw[join_flat,flat_len];have:=tot_bd l hs;omega
 ·rw[if_neg hx] at h
  cases h
end Go.Proofs.YtfghldonnffldaaGreatDoor
namespace Go.Proofs.YtfghldonnffldaaGreatDoor.XThr
open Go.RowKit TBase YtfghldonnffldaaGreatDoorW.PrintWords YtfghldonnffldaaGreatDoorW.PrintLast YtfghldonnffldaaGreatDoorW.PrintMore
attribute [local go_sem] max2_int min2_int max_two min_two max_three min_three max_four min_four
theorem info3:(Tryz.prog.info? 3).map (fun i=>(i.zero,i.size,i.bytes))=some (some (.int .i64 0),1,8):=by kernel_rfl
end Go.Proofs.YtfghldonnffldaaGreatDoor.XThr
