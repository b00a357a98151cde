/- Walks of the program's functions, and the laws of what they compute, for TopFrames: one file of several. -/
import Derived.Test.YtfghldonnffldaaGreatDoorProg
import Derived.Below
import Derived.Deep.Draws
import Derived.Deep.AppendLies
import Derived.Maps.AppendAt
import Derived.OwnWalk
import Derived.Laws.BytesArg
import Derived.Laws.MakeOwn
import Derived.Laws.OwnMore
import Derived.Deep.OwnRows
import Derived.Tactics
import Derived.Lib.ConvBytes
import Derived.Laws.Slices
import Derived.WalkKit
import Derived.KernelRfl
import Derived.RowKit3
import Derived.Deep.LoopGhost
import Derived.Deep.QuietTactic
import Derived.BigQuiet
import Derived.WideLaws
import Derived.Deep.DeepCutAuto
import Derived.Deep.CutBlock
import Derived.Deep.RegionHeld3
import Derived.Laws.Rows
import Derived.Lib.AppendStr
import Derived.ArgAppend
import Derived.Laws.IdiomCopy
import Derived.OrdersHeld
import Derived.Laws.BitsLemmas
import Derived.RowKit
import Derived.Test.YtfghldonnffldaaGreatDoorFra3
set_option linter.unusedVariables false
set_option linter.unusedSimpArgs false
set_option maxRecDepth 100000
set_option maxHeartbeats 8000000
namespace Go.Proofs.YtfghldonnffldaaGreatDoor.YFou
open Go.RowKit TBase UOne VTwo XThr YtfghldonnffldaaGreatDoorW.PrintWords YtfghldonnffldaaGreatDoorW.PrintLast YtfghldonnffldaaGreatDoorW.PrintMore
attribute [local go_sem] max2_int min2_int max_two min_two max_three min_three max_four min_four
def segment_told.f (k:Nat) (a0:Int) (a1:Int) (a2:Int) (a3:ByteArray):Option (ByteArray):=(field_Put.f k (a3.size:Int) 2).bind fun bt101=>((some (([(a0)%256,(a1)%256,(a2)%256]:List Int):List Int)).bind fun y103=>(if (strOfNums y103).size+bt101.1.size≤9223372036854775807 then (if ((strOfNums y103)++bt101.1).size+a3.size≤9223372036854775807 then ((crc_Sum.f (((strOfNums y103)++bt101.1)++a3)).bind fun t106=>((field_Put.f k t106 4).bind fun bt107=>(if (((strOfNums y103)++bt101.1)++a3).size+bt107.1.size≤9223372036854775807 then (some ((((strOfNums y103)++bt101.1)++a3)++bt107.1)) else (none)))) else (none)) else (none)))
theorem segment_told.mono:∀a0 a1 a2 a3 k,LeO (segment_told.f k a0 a1 a2 a3) (segment_told.f (k+1) a0 a1 a2 a3):=by
 intro a0 a1 a2 a3 k
 unfold segment_told.f
 repeat' first
   | (with_reducible exact field_Put.mono _ _ _)
   | (with_reducible exact LeO.refl _)
   | (with_reducible exact LeO.none _)
   | (with_reducible refine LeO.ite ?_ ?_)
   | (with_reducible refine LeO.bind ?_ (fun _=>?_))
   | exact field_Put.mono _ _ _
   | exact LeO.none _
   | refine LeO.ite ?_ ?_
   | refine LeO.bind ?_ (fun _=>?_)
theorem segment_told.calls (k:Nat) (a0:Int) (a1:Int) (a2:Int) (a3:ByteArray) (r:ByteArray) (w:World) (h:segment_told.f k a0 a1 a2 a3=some r):
  Calls Tryz.prog 50 #[.int .i64 a0,.int .i64 a1,.int .i64 a2,.string a3] w fun e w'=>e= .returned (.string r)∧Below w.heap.size w w':=by
 have HB:=Z_ (Below.refl w.heap.size w)
 have H:((field_Put.f k (a3.size:Int) 2).bind fun bt101=>((some (([(a0)%256,(a1)%256,(a2)%256]:List Int):List Int)).bind fun y103=>(if (strOfNums y103).size+bt101.1.size≤9223372036854775807 then (if ((strOfNums y103)++bt101.1).size+a3.size≤9223372036854775807 then ((crc_Sum.f (((strOfNums y103)++bt101.1)++a3)).bind fun t106=>((field_Put.f k t106 4).bind fun bt107=>(if (((strOfNums y103)++bt101.1)++a3).size+bt107.1.size≤9223372036854775807 then (some ((((strOfNums y103)++bt101.1)++a3)++bt107.1)) else (none)))) else (none)) else (none))))=some r:=h
 clear h
 replace H:=Option.bind_eq_some_iff.mp H
 obtain ⟨⟨t101,t102⟩,A50,H⟩:=H
 (try dsimp only at H)
 have A5:=Z_ A50
 clear A50
 obtain ⟨y103,hy103⟩:∃y_:List Int,y_=(([(a0)%256,(a1)%256,(a2)%256]:List Int)):=⟨_,rfl⟩
 replace H:(if (strOfNums y103).size+t101.size≤9223372036854775807 then (if ((strOfNums y103)++t101).size+a3.size≤9223372036854775807 then ((crc_Sum.f (((strOfNums y103)++t101)++a3)).bind fun t106=>((field_Put.f k t106 4).bind fun bt107=>(if (((strOfNums y103)++t101)++a3).size+bt107.1.size≤9223372036854775807 then (some ((((strOfNums y103)++t101)++a3)++bt107.1)) else (none)))) else (none)) else (none))=some r:=by first | (rw [hy103];with_reducible exact H) | (have H2_:=(Option.bind_some _ _).symm.trans H;rw [hy103];with_reducible exact H2_) | (have H2_:=(Option.bind_some _ _).symm.trans H;with_reducible exact H2_) | with_reducible exact H | (rw [hy103];exact H) | exact H
 have Ny103:=Z_ hy103
 clear hy103
 by_cases c6:(strOfNums y103).size+t101.size≤9223372036854775807
 ·rw [if_pos c6] at H
  have c6b0:=eq_true c6
  have c6b1:=decide_eq_true c6
  try have c6b2:(9223372036854775807<(strOfNums y103).size+t101.size)=False:=eq_false (Nat.not_lt.2 c6)
  by_cases c7:((strOfNums y103)++t101).size+a3.size≤9223372036854775807
  ·rw [if_pos c7] at H
   have c7b0:=eq_true c7
   have c7b1:=decide_eq_true c7
   try have c7b2:(9223372036854775807<((strOfNums y103)++t101).size+a3.size)=False:=eq_false (Nat.not_lt.2 c7)
   (try (have c7b3:=c7b2;simp only [ByteArray.size_append] at c7b3))
   replace H:=Option.bind_eq_some_iff.mp H
   obtain ⟨t106,A80,H⟩:=H
   (try dsimp only at H)
   have A8:=Z_ A80
   clear A80
   replace H:=Option.bind_eq_some_iff.mp H
   obtain ⟨⟨t107,t108⟩,A90,H⟩:=H
   (try dsimp only at H)
   have A9:=Z_ A90
   clear A90
   by_cases c10:(((strOfNums y103)++t101)++a3).size+t107.size≤9223372036854775807
   ·rw [if_pos c10] at H
    have c10b0:=eq_true c10
    have c10b1:=decide_eq_true c10
    try have c10b2:(9223372036854775807<(((strOfNums y103)++t101)++a3).size+t107.size)=False:=eq_false (Nat.not_lt.2 c10)
    (try (have c10b3:=c10b2;simp only [ByteArray.size_append] at c10b3))
    obtain rfl:=Option.some.inj H
    go_enter Tryz.func50,Tryz.ntmps50
    go_wp2_with (first | (refine G_ 17 Tryz.func56 #[.int .i64 (a3.size:Int),.int .i64 2] ?_;refine (field_Put.calls k (a3.size:Int) 2 t101 t102 _ A5.out).mono ?_;rintro e w11 ⟨rfl,hb⟩;refine ⟨_,rfl,?_⟩;replace HB:=Hb_ hb;(try clear hb)) | ((with_reducible refine gate_dst (N:=26) rfl ?_);refine Kd.R_lit (Kd.int .u8) _ 5 ?hg (N:=26) ?hd (xs:=([(a0)%256,(a1)%256,(a2)%256]:List Int)) (inner:= [.int .u8 ((a0)%256),.int .u8 ((a1)%256),.int .u8 ((a2)%256)]) (ok:=fun _=>True) (okp:=fun _=>True) ?hr ?hp (fun _ hk=>hk) trivial (Below.refl _ _) (Nat.le_refl _) (by simp) ?_;(case hd=>rfl);(case hg=>rfl);(case hr=>first | (go_simp;done) | (go_simp;rfl));(case hp=>exact (Reps.one (show Kd.M (Kd.int .u8) _ _ _ ((a0)%256) [.int .u8 ((a0)%256)] from rfl) (Reps.one (show Kd.M (Kd.int .u8) _ _ _ ((a1)%256) [.int .u8 ((a1)%256)] from rfl) (Reps.one (show Kd.M (Kd.int .u8) _ _ _ ((a2)%256) [.int .u8 ((a2)%256)] from rfl) (Reps.none _ _)))));intro v104 w12 ho13 hb hg_ hnew_;clear hg_ hnew_;(first | rw [←Ny103.out] at ho13 | (simp only [Int.reduceToNat] at ho13;rw [←Ny103.out] at ho13));have HO105:=Z_ (Kd.R_lower ho13 (below_size B_));replace HB:=Hb_ hb;clear hb ho13;have hcv14:=own_string (P:=Tryz.prog) Tryz.underlying27 Tryz.underlying5 Tryz.underlying9 (Kd.own_of_R HO105.out)) | (refine G_ 34 Tryz.func48 #[.string (((strOfNums y103)++t101)++a3)] ?_;refine (crc_Sum.calls (((strOfNums y103)++t101)++a3) t106 _ A8.out).mono ?_;rintro e w15 ⟨rfl,hb⟩;refine ⟨_,rfl,?_⟩;replace HO105:=Z_ (Kd.R_below (R_ HO105) hb);replace HB:=Hb_ hb;(try clear hb)) | (refine G_ 35 Tryz.func56 #[.int .i64 t106,.int .i64 4] ?_;refine (field_Put.calls k t106 4 t107 t108 _ A9.out).mono ?_;rintro e w16 ⟨rfl,hb⟩;refine ⟨_,rfl,?_⟩;replace HO105:=Z_ (Kd.R_below (R_ HO105) hb);replace HB:=Hb_ hb;(try clear hb)))
    go_ret
    exact ⟨E_,B_⟩
   ·rw [if_neg c10] at H
    exact absurd H (by simp)
  ·rw [if_neg c7] at H
   exact absurd H (by simp)
 ·rw [if_neg c6] at H
  exact absurd H (by simp)
mutual
def segment_sound_coded.l0:Nat→List (List Int)→Int→Int→Int→Option (ByteArray×Int×Bool)
 | 0,_,_,_,_=>none
 | k+1,x5,x7,x28,x29=>if x29<x28 then (if 0≤x29 then (if x29<(x5.length:Int) then ((shift_Down.f (rd_L2 x5 x29) x7).bind fun bt116=>(segment_sound_coded.l0 k (x5.set (x29:Int).toNat bt116.1) x7 x28 (wrap64 (x29+1)))) else (none)) else (none)) else ((side_Put.f k x5).bind fun bt121=>(segment_sound_coded.l1 k x7 bt121.2 ([]:List Int) bt121.1 (bt121.1.length:Int) 0))
def segment_sound_coded.l1:Nat→Int→Int→List Int→List (List Int)→Int→Int→Option (ByteArray×Int×Bool)
 | 0,_,_,_,_,_,_=>none
 | k+1,x7,x9,x10,x50,x51,x52=>if x52<x51 then (if 0≤x52 then (if x52<(x50.length:Int) then ((line_Put.f (rd_L2 x50 x52)).bind fun bt126=>(if x10.length+bt126.1.length<17592186044416 then (segment_sound_coded.l1 k x7 (mx x9 bt126.2) (x10++bt126.1) x50 x51 (wrap64 (x52+1))) else (none))) else (none)) else (none)) else ((residual_Put.f x10).bind fun bt133=>(if x9=0 then (some (bt133.1,x7,(bt133.2==0))) else (some (bt133.1,x7,false))))
end
def segment_sound_coded.f (k:Nat) (a0_0:ByteArray) (a0_1:Int) (a0_2:Int):Option (ByteArray×Int×Bool):=(pcm_Get.f k a0_0 a0_1 a0_2).bind fun bt110=>((segment_wasted.f bt110.1).bind fun t114=>(segment_sound_coded.l0 k bt110.1 t114 (bt110.1.length:Int) 0))
theorem segment_sound_coded.mono_l:∀k,(∀y0 y1 y2 y3,LeO (segment_sound_coded.l0 k y0 y1 y2 y3) (segment_sound_coded.l0 (k+1) y0 y1 y2 y3))∧(∀y0 y1 y2 y3 y4 y5,LeO (segment_sound_coded.l1 k y0 y1 y2 y3 y4 y5) (segment_sound_coded.l1 (k+1) y0 y1 y2 y3 y4 y5))
 | 0=>⟨fun _ _ _ _ r h=>by simp [segment_sound_coded.l0] at h,fun _ _ _ _ _ _ r h=>by simp [segment_sound_coded.l1] at h⟩
 | k+1=>by
  obtain ⟨ih0,ih1⟩:=segment_sound_coded.mono_l k
  refine ⟨?_,?_⟩
  ·intro y0 y1 y2 y3
   unfold segment_sound_coded.l0
   repeat' first
   | (with_reducible exact ih0 _ _ _ _)
   | (with_reducible exact ih1 _ _ _ _ _ _)
   | (with_reducible exact pcm_Get.mono _ _ _ _)
   | (with_reducible exact side_Put.mono _ _)
   | (with_reducible exact LeO.refl _)
   | (with_reducible exact LeO.none _)
   | (with_reducible refine LeO.ite ?_ ?_)
   | (with_reducible refine LeO.bind ?_ (fun _=>?_))
   | exact ih0 _ _ _ _
   | exact ih1 _ _ _ _ _ _
   | exact pcm_Get.mono _ _ _ _
   | exact side_Put.mono _ _
   | exact LeO.none _
   | refine LeO.ite ?_ ?_
   | refine LeO.bind ?_ (fun _=>?_)
  ·intro y0 y1 y2 y3 y4 y5
   unfold segment_sound_coded.l1
   repeat' first
   | (with_reducible exact ih0 _ _ _ _)
   | (with_reducible exact ih1 _ _ _ _ _ _)
   | (with_reducible exact pcm_Get.mono _ _ _ _)
   | (with_reducible exact side_Put.mono _ _)
   | (with_reducible exact LeO.refl _)
   | (with_reducible exact LeO.none _)
   | (with_reducible refine LeO.ite ?_ ?_)
   | (with_reducible refine LeO.bind ?_ (fun _=>?_))
   | exact ih0 _ _ _ _
   | exact ih1 _ _ _ _ _ _
   | exact pcm_Get.mono _ _ _ _
   | exact side_Put.mono _ _
   | exact LeO.none _
   | refine LeO.ite ?_ ?_
   | refine LeO.bind ?_ (fun _=>?_)
theorem segment_sound_coded.mono:∀a0 a1 a2 k,LeO (segment_sound_coded.f k a0 a1 a2) (segment_sound_coded.f (k+1) a0 a1 a2):=by
 intro a0 a1 a2 k
 obtain ⟨ih0,ih1⟩:=segment_sound_coded.mono_l k
 unfold segment_sound_coded.f
 repeat' first
   | (with_reducible exact ih0 _ _ _ _)
   | (with_reducible exact ih1 _ _ _ _ _ _)
   | (with_reducible exact pcm_Get.mono _ _ _ _)
   | (with_reducible exact side_Put.mono _ _)
   | (with_reducible exact LeO.refl _)
   | (with_reducible exact LeO.none _)
   | (with_reducible refine LeO.ite ?_ ?_)
   | (with_reducible refine LeO.bind ?_ (fun _=>?_))
   | exact ih0 _ _ _ _
   | exact ih1 _ _ _ _ _ _
   | exact pcm_Get.mono _ _ _ _
   | exact side_Put.mono _ _
   | exact LeO.none _
   | refine LeO.ite ?_ ?_
   | refine LeO.bind ?_ (fun _=>?_)
theorem segment_sound_coded.calls (k:Nat) (a0_0:ByteArray) (a0_1:Int) (a0_2:Int) (r1:ByteArray) (r2:Int) (r3:Bool) (w:World) (h:segment_sound_coded.f k a0_0 a0_1 a0_2=some (r1,r2,r3)) (hT:Tabs w:=by exact Tabs.below hT B_):
  Calls Tryz.prog 53 #[.agg #[.string a0_0,.int .i64 a0_1,.int .i64 a0_2]] w fun e w'=>e= .returned (.tuple #[.string r1,.int .i64 r2,.bool r3])∧Below w.heap.size w w':=by
 have hu104:=Tryz.underlying104
 have hu23:=Tryz.underlying23
 have HB:=Z_ (Below.refl w.heap.size w)
 have H:((pcm_Get.f k a0_0 a0_1 a0_2).bind fun bt110=>((segment_wasted.f bt110.1).bind fun t114=>(segment_sound_coded.l0 k bt110.1 t114 (bt110.1.length:Int) 0)))=some (r1,r2,r3):=h
 clear h
 replace H:=Option.bind_eq_some_iff.mp H
 obtain ⟨⟨t110,t113⟩,A20,H⟩:=H
 (try dsimp only at H)
 have A2:=Z_ A20
 clear A20
 replace H:=Option.bind_eq_some_iff.mp H
 obtain ⟨t114,A30,H⟩:=H
 (try dsimp only at H)
 have A3:=Z_ A30
 clear A30
 have H':=Z_ H
 clear H
 go_enter Tryz.func53,Tryz.ntmps53
 go_wp2_with (first | (refine X_ 1 #[.string a0_0,.int .i64 a0_1,.int .i64 a0_2] 104 ?_;intro gb109 hg w4 hbox hb;have BK109:=Z_ (hbox);have GW109:=Z_ (G2_ hg:w.heap.size≤_);have GE109:=GW109;replace HB:=Hb_ hb;clear hb hbox hg;have hcz5_0:=cz_ BK109 0;have hcz5_1:=cz_ BK109 1;have hcz5_2:=cz_ BK109 2;have hfz5_0:=fz_ BK109 0;have hfz5_1:=fz_ BK109 1;have hfz5_2:=fz_ BK109 2) | (refine G_ 22 Tryz.func25 #[.string a0_0,.agg #[.int .i64 a0_1,.int .i64 a0_2]] ?_;refine (pcm_Get.calls k a0_0 a0_1 a0_2 t110 t113 _ A2.out).mono ?_;rintro e w6 ⟨v111,rfl,ho0,hb⟩;refine ⟨_,rfl,?_⟩;have HO112:=Z_ (Kd.S_lower ho0 (below_size B_));replace BK109:=Z_ (blk_below (K_ BK109) hb);replace HB:=Hb_ hb;(try clear hb);(try clear ho0);obtain ⟨Ao7,co7,eo7⟩:=Kd.S_slice HO112.out;subst eo7) | (refine G_ 26 Tryz.func82 #[.slice Ao7 t110.length co7] ?_;refine (segment_wasted.calls _ _ t110 t114 _ (C_ (Kd.S_reads' HO112.out).2.2) ((Kd.S_reads' HO112.out).2.1) A3.out).mono ?_;rintro e w' ⟨rfl,⟨nd,rfl⟩⟩;refine ⟨_,rfl,?_⟩))
 go_loopg [29] k (fun kq v29 w'=>∃(x5_1:List (List Int)) (x29_1:Int),v29= .int .i64 x29_1∧Aside0 (segment_sound_coded.l0 kq x5_1 t114 (t110.length:Int) x29_1=some (r1,r2,r3))∧Aside0 (kq≤k)∧Aside0 (Kd.S (Kd.slice 3 (Kd.int .i64)) 36 w' w.heap.size (fun _=>True) (.slice Ao7 t110.length co7) x5_1)∧Aside0 (w'.heap[gb109]?=some (.cells #[.string a0_0,.int .i64 a0_1,.int .i64 a0_2] 104 (0,0)))∧Aside0 (Below w.heap.size w w'))
 case atStart=>exact ⟨(t110),(0),(E1_),H',⟨Nat.le_refl _⟩,⟨S_ HO112⟩,⟨(K_ BK109)⟩,⟨B_⟩⟩
 case round=>
  clear H'
  try clear c2
  try clear p2
  try clear c5
  try clear hcz5_0
  try clear hcz5_1
  try clear hcz5_2
  try clear hfz5_0
  try clear hfz5_1
  try clear hfz5_2
  obtain ⟨x5_1,x29_1,rfl,HA,HK1,HO_5,BK109,HB⟩:=hrel
  have hl5_1:=(Kd.S_reads' HO_5.out).1
  rw [hl5_1] at HO_5
  (try simp only [hl5_1])
  (try simp only [hl5_1] at BK109)
  cases gk with
  | zero=>exact absurd HA.out (by simp [segment_sound_coded.l0])
  | succ k1=>
   have H:=HA.out
   clear HA
   simp only [segment_sound_coded.l0] at H
   by_cases c8:x29_1<(t110.length:Int)
   ·rw [if_pos c8] at H
    have c8b0:=decide_eq_true c8
    (first | (have c8b0x_:=c8b0;rw [hl5_1] at c8b0x_) | (have c8b0x_:=c8b0;rw [←hl5_1] at c8b0x_) | skip)
    clear c8
    by_cases c9:0≤x29_1
    ·rw [if_pos c9] at H
     have c9b0:=decide_eq_true c9
     clear c9
     by_cases c10:x29_1<(x5_1.length:Int)
     ·rw [if_pos c10] at H
      have c10b0:=decide_eq_true c10
      (first | (have c10b0x_:=c10b0;rw [hl5_1] at c10b0x_) | (have c10b0x_:=c10b0;rw [←hl5_1] at c10b0x_) | skip)
      clear c10
      replace H:=Option.bind_eq_some_iff.mp H
      obtain ⟨⟨t116,t117⟩,A110,H⟩:=H
      (try dsimp only at H)
      have A11:=Z_ A110
      clear A110
      obtain ⟨y120,hy120⟩:∃y_:List (List Int),y_=(x5_1.set (x29_1:Int).toNat t116):=⟨_,rfl⟩
      replace H:(segment_sound_coded.l0 k1 y120 t114 (t110.length:Int) (wrap64 (x29_1+1)))=some (r1,r2,r3):=by first | (rw [hy120];with_reducible exact H) | (have H2_:=(Option.bind_some _ _).symm.trans H;rw [hy120];with_reducible exact H2_) | (have H2_:=(Option.bind_some _ _).symm.trans H;with_reducible exact H2_) | with_reducible exact H | (rw [hy120];exact H) | exact H
      have Ny120:=Z_ hy120
      clear hy120
      have H':=Z_ H
      clear H
      have p115:0≤(x29_1:Int):=of_decide_eq_true A_
      have q115:x29_1<(x5_1.length:Int):=of_decide_eq_true A_
      obtain ⟨ad115,A115_0,c115_0,e115,hx115_0,hl115_0,hi115_0⟩:=at_L2 (Kd.S_reads' HO_5.out).2.2 x29_1 p115 q115
      cases e115
      obtain ⟨ce115,hce115,hMe115,hcc115⟩:=Kd.S_get HO_5.out [] x29_1 p115 (by first | exact q115 | exact of_decide_eq_true A_ | (have e_:=(Kd.S_reads' HO_5.out).1;omega))
      obtain ⟨ve115_0,rfl,ge115_0⟩:=hMe115
      have hv115_0:=hcc115 0 _ rfl
      rw [Nat.add_zero,show ((Kd.slice 3 (Kd.int .i64))).sz=1 from rfl,Nat.mul_one] at hv115_0
      replace hv115_0:=Option.some.inj (hv115_0.symm.trans hx115_0)
      rw [hv115_0] at ge115_0
      have HL115_0:=Z_ (show Kd.R (Kd.int .i64) 3 _ _ _ _ (rd_L2 x5_1 x29_1) from ge115_0)
      clear hv115_0 ge115_0
      clear hcc115 hce115
      have HR115_0:=Z_ hi115_0
      have HC115_0:=Z_ hl115_0
      clear hi115_0 hl115_0
      replace p115:=eq_true p115
      replace q115:=eq_true q115
      go_wp2_with (first | (refine G_ 40 Tryz.func83 #[.slice A115_0 (rd_L2 x5_1 x29_1).length c115_0,.int .i64 t114] ?_;refine (shift_Down.calls _ _ (rd_L2 x5_1 x29_1) t114 t116 t117 _ (C_ HR115_0.out) HC115_0.out A11.out).mono ?_;rintro e w13 ⟨v118,rfl,ho0,hb⟩;refine ⟨_,rfl,?_⟩;replace HO_5:=Z_ (Kd.S_elder' (S_ HO_5) (Kd.R_base ho0) hb);have HO119:=Z_ (Kd.R_lower (Kd.R_new' ho0 (Kd.R_lt (R_ HL115_0))) (below_size B_));replace HL115_0:=Z_ (Kd.R_elder' (R_ HL115_0) (Kd.R_base ho0) hb);replace BK109:=Z_ (blk_below (K_ BK109) hb);replace HR115_0:=Z_ (Kd.C_below (C_ HR115_0.out) hb);replace HB:=Hb_ hb;(try clear hb);(try clear ho0);obtain ⟨Ao_,co_,eo_⟩:=Kd.R_slice HO119.out;subst eo_;have p12:0≤(x29_1:Int):=of_decide_eq_true A_;have q12:(x29_1:Int)<((x5_1.length:Int):Int):=of_decide_eq_true A_;obtain ⟨go12,co12,eo12,gb12,gl12,cl12,HG12⟩:=Kd.S_form HO_5.out (by omega);(first | cases eo12 | (injection eo12 with ea_ en_ ec_;(first | subst ea_ | (injection ea_ with ea_;subst ea_));subst ec_;clear en_));have GB12:=Z_ gb12;have GG12:=Z_ HG12;clear gb12 gl12 HG12;(first | simp only [add_plain] at hx115_0 | skip);obtain ⟨_,ce12,hcl12,hM12,hcc12,hfr12,_,_⟩:=Kd.S_elem HO_5.out [] (x29_1:Int) p12 q12;obtain ⟨ve12_0,rfl,ge12_0⟩:=hM12;have hx12_0:=hcc12 0 _ rfl;have hf12_0:=hfr12 0;(try simp only [show ((Kd.slice 3 (Kd.int .i64))).sz=1 from rfl,Nat.mul_one,Nat.add_zero] at hx12_0);(try simp only [show ((Kd.slice 3 (Kd.int .i64))).sz=1 from rfl,Nat.mul_one,Nat.add_zero] at hf12_0);clear hcl12 hcc12 hfr12;(try clear hM12);replace p12:=eq_true p12;replace q12:=eq_true q12;have n_:=Z_ (Kd.S_mono (ok':=(fun k_=>some k_≠(Value.slice Ao_ t116.length co_).ownBlock)) HO_5.out (fun k_ hk=>hk.2));clear HO_5;have HO_5:=n_;clear n_;have HX14:=Z_ (show Kd.S (Kd.slice 3 (Kd.int .i64)) 36 w13 w.heap.size (fun k_=>((fun _=>True)) k_∧¬((fun k_=>some k_=(Value.slice Ao_ t116.length co_).ownBlock)) k_) (.slice (some ⟨go12,0,none⟩) x5_1.length co7) x5_1 from (by (with_reducible repeat (first | apply Kd.S_alloc | apply Kd.S_drewN | apply Kd.S_drew));exact Kd.S_mono HO_5.out (fun k_ hk=>⟨trivial,fun e_=>hk e_⟩)));obtain ⟨oki14,ce14,hcl14,hM14,hcc14,hfr14,hoki14,hH14⟩:=Kd.S_elem HX14.out [] (x29_1:Int) (of_decide_eq_true A_) (by have h_:(x29_1:Int)<((x5_1.length:Int):Int):=of_decide_eq_true A_;first | exact h_ | (have e_:=(Kd.S_reads' HO_5.out).1;omega) | simpa using h_);obtain ⟨ve14_0,rfl,ge14_0⟩:=hM14;have HP14:=Kd.S_seg hH14 (of_decide_eq_true A_) (by have h_:(x29_1:Int)<((x5_1.length:Int):Int):=of_decide_eq_true A_;first | exact h_ | (have e_:=(Kd.S_reads' HO_5.out).1;omega) | simpa using h_) (seg:= [.slice Ao_ t116.length co_]) (j:=0) (show 1≤1 from by decide) (x':=t116) (Kd.M_row (Kd.R_mono (Kd.R_tight rfl (Kd.R_mono (ok':=fun k_=>((fun _=>True)) k_∧k_≠go12) (Kd.R_apart' (HO119.out) (Kd.S_typed HO_5.out) (by decide)) (fun k_ hk=>⟨trivial,fun e_=>(hk.2) (by rw [e_];rfl)⟩))) (fun _ h_=>Or.inr (h_)))) (fun _ hk=>hk) (fun k_ hk_=>((Kd.R_mono (ok':=fun k_=>((fun _=>True)) k_∧k_≠go12) (Kd.R_apart' (HO119.out) (Kd.S_typed HO_5.out) (by decide)) (fun k_ hk=>⟨trivial,fun e_=>(hk.2) (by rw [e_];rfl)⟩))).1 k_ hk_.symm);have hx14_0:=hcc14 0 _ rfl;(try simp only [show ((Kd.slice 3 (Kd.int .i64))).sz=1 from rfl,Nat.mul_one,Nat.add_zero] at hx14_0);have hf14_0:=hfr14 0;(try simp only [show ((Kd.slice 3 (Kd.int .i64))).sz=1 from rfl,Nat.mul_one,Nat.add_zero] at hf14_0);clear hcl14 hcc14 hfr14 hoki14 hH14;(try clear hM14);(try simp only [show ((Kd.slice 3 (Kd.int .i64))).sz=1 from rfl,Nat.mul_one,Nat.add_zero] at HP14)) | ((with_reducible refine gate_store (t:=36) (p:=43) rfl ?_);refine store_event (t:=36) (p:=43) (v:=?vo_w15) (w1:=(w13.setCell ⟨go12,(x29_1:Int).toNat,none⟩ (.slice Ao_ t116.length co_))) ?hg ?ho ?hn ?hr ?_;(case ho=>rfl);(case hg=>rfl);(case hn=>rfl);(case hr=>first | (go_simp;done) | (go_simp;rfl));intro w15 hw;have hg:w13.grownBy w15 (some go12):=(by rw [hw];exact HP14.2);have hp_:Kd.S (Kd.slice 3 (Kd.int .i64)) 36 w15 w.heap.size (fun _=>True) (.slice (some ⟨go12,0,none⟩) x5_1.length co7) y120:=(by rw [hw,Ny120.out];exact HP14.1);clear HP14;replace BK109:=Z_ (blk_grown (g:=gb109) (o:= .cells #[.string a0_0,.int .i64 a0_1,.int .i64 a0_2] 104 (0,0)) (K_ BK109) hg (Kd.S_ne HO_5.out BK109.out (by decide)));replace HO_5:=Z_ (hp_);replace HL115_0:=Z_ (Kd.R_after (v:=(.slice (some ⟨go12,0,none⟩) x5_1.length co7)) (v1:=(.slice (some ⟨go12,0,none⟩) x5_1.length co7)) (ok:=(fun k_=>some k_≠(Value.slice Ao_ t116.length co_).ownBlock)) (by (with_reducible repeat (first | apply Kd.R_alloc | apply Kd.R_drewN | apply Kd.R_drew));exact Kd.R_mono HL115_0.out (fun _ hk=>⟨hk.2,hk.1.2⟩)) hg (.inl rfl));replace HB:=Z_ ((by rw [hw];exact below_set (HB.out) GB12.out:Below w.heap.size w w15));clear HO119;clear hg hw hp_))
      (try simp only [←hl5_1])
      go_roundg k1
      case measure=>have:=HK1.out;omega
      case rel=>exact ⟨(y120),(wrap64 (x29_1+1)),(E1_),H',⟨by have:=HK1.out;omega⟩,⟨by (try simp only [hl5_1]);(with_reducible repeat (first | apply Kd.S_alloc | apply Kd.S_drewN | apply Kd.S_drew));exact HO_5.out⟩,⟨by (try simp only [hl5_1]);(with_reducible repeat (first | refine blk_drewN ?_ _ | refine blk_drew ?_ | refine blk_alloc ?_ _));exact BK109.out⟩,⟨B_⟩⟩
     ·rw [if_neg c10] at H
      exact absurd H (by simp)
    ·rw [if_neg c9] at H
     exact absurd H (by simp)
   ·rw [if_neg c8] at H
    have c8b0:=decide_eq_false c8
    (first | (have c8b0x_:=c8b0;rw [hl5_1] at c8b0x_) | (have c8b0x_:=c8b0;rw [←hl5_1] at c8b0x_) | (have c8b0x_:=c8b0;rw [hl115_0] at c8b0x_) | (have c8b0x_:=c8b0;rw [←hl115_0] at c8b0x_) | skip)
    clear c8
    replace H:=Option.bind_eq_some_iff.mp H
    obtain ⟨⟨t121,t122⟩,A160,H⟩:=H
    (try dsimp only at H)
    have A16:=Z_ A160
    clear A160
    have H':=Z_ H
    clear H
    go_wp2_with (first | (refine G_ 47 Tryz.func15 #[.slice Ao7 x5_1.length co7] ?_;refine (side_Put.calls k1 _ _ x5_1 t121 t122 _ (C_ (Kd.S_reads' HO_5.out).2.2) ((Kd.S_reads' HO_5.out).2.1) A16.out).mono ?_;rintro e w17 ⟨v123,rfl,ho0,hb⟩;refine ⟨_,rfl,?_⟩;have HO124:=Z_ (Kd.S_lower (Kd.S_new' ho0 (Kd.S_lt (S_ HO_5))) (below_size B_));replace HO_5:=Z_ (Kd.S_elder' (S_ HO_5) (Kd.S_base ho0) hb);replace BK109:=Z_ (blk_below (K_ BK109) hb);replace HB:=Hb_ hb;(try clear hb);(try clear ho0);obtain ⟨Ao18,co18,eo18⟩:=Kd.S_slice HO124.out;subst eo18))
    go_loopg [9,10,52] k1 (fun kq v9 v10 v52 w'=>∃(x9_2:Int) (x10_2:List Int) (x52_2:Int),v9= .int .i64 x9_2∧v52= .int .i64 x52_2∧Aside0 (segment_sound_coded.l1 kq t114 x9_2 x10_2 t121 (t121.length:Int) x52_2=some (r1,r2,r3))∧Aside0 (kq≤k1)∧Aside0 (Kd.R (Kd.int .i64) 3 w' w.heap.size (fun _=>True) v10 x10_2)∧Aside0 (Kd.S (Kd.slice 3 (Kd.int .i64)) 36 w' w.heap.size (fun k_=>some k_≠(v10:Value).ownBlock) (.slice Ao18 t121.length co18) t121)∧Aside0 (w'.heap[gb109]?=some (.cells #[.string a0_0,.int .i64 a0_1,.int .i64 a0_2] 104 (0,0)))∧Aside0 (Below w.heap.size w w'))
    case atStart=>exact ⟨(t122),(([]:List Int)),(0),(E1_),(E1_),H',⟨Nat.le_refl _⟩,⟨by (try simp only [hl5_1]);first | exact Kd.R_nil _ _ _ _ _ | exact Kd.N_nil _ _ _ _ _ | exact Kd.V_nil _ _ _ _ _ | exact Kd.Q_nil _ _ _ _ _ | exact Kd.S_nil _ _ _ _ _⟩,⟨by (try simp only [hl5_1]);(with_reducible repeat (first | apply Kd.S_alloc | apply Kd.S_drewN | apply Kd.S_drew));exact Kd.S_mono HO124.out (fun _ hk=>(by simp [Value.ownBlock]))⟩,⟨by (try simp only [hl5_1]);(with_reducible repeat (first | refine blk_drewN ?_ _ | refine blk_drew ?_ | refine blk_alloc ?_ _));exact BK109.out⟩,⟨B_⟩⟩
    case round=>
     clear H'
     try clear c1
     try clear p1
     try clear q1
     try clear hx1
     try clear hf1
     try clear c2
     try clear p2
     try clear c5
     try clear p6
     try clear c8
     try clear c8b0
     try clear c9
     try clear c9b0
     try clear c10
     try clear c10b0
     try clear c11
     try clear p11
     try clear q11
     try clear hx11
     try clear c12
     try clear p12
     try clear q12
     try clear hx12
     try clear hf12
     try clear c14
     try clear hx14
     try clear hf14
     try clear c15
     try clear hcz5_0
     try clear hcz5_1
     try clear hcz5_2
     try clear hfz5_0
     try clear hfz5_1
     try clear hfz5_2
     try clear hx115_0
     try clear hx12_0
     try clear hx14_0
     try clear p115
     try clear p12
     try clear p2
     try clear q115
     try clear q12
     obtain ⟨x9_2,x10_2,x52_2,rfl,rfl,HA,HK2,HO_10,HO_50,BK109,HB⟩:=hrel
     cases gk with
     | zero=>exact absurd HA.out (by simp [segment_sound_coded.l1])
     | succ k2=>
      have H:=HA.out
      clear HA
      simp only [segment_sound_coded.l1] at H
      by_cases c19:x52_2<(t121.length:Int)
      ·rw [if_pos c19] at H
       have c19b0:=decide_eq_true c19
       (first | (have c19b0x_:=c19b0;rw [hl5_1] at c19b0x_) | (have c19b0x_:=c19b0;rw [←hl5_1] at c19b0x_) | (have c19b0x_:=c19b0;rw [hl115_0] at c19b0x_) | (have c19b0x_:=c19b0;rw [←hl115_0] at c19b0x_) | skip)
       clear c19
       by_cases c20:0≤x52_2
       ·rw [if_pos c20] at H
        have c20b0:=decide_eq_true c20
        clear c20
        by_cases c21:x52_2<(t121.length:Int)
        ·rw [if_pos c21] at H
         have c21b0:=decide_eq_true c21
         (first | (have c21b0x_:=c21b0;rw [hl5_1] at c21b0x_) | (have c21b0x_:=c21b0;rw [←hl5_1] at c21b0x_) | (have c21b0x_:=c21b0;rw [hl115_0] at c21b0x_) | (have c21b0x_:=c21b0;rw [←hl115_0] at c21b0x_) | skip)
         clear c21
         replace H:=Option.bind_eq_some_iff.mp H
         obtain ⟨⟨t126,t127⟩,A220,H⟩:=H
         (try dsimp only at H)
         have A22:=Z_ A220
         clear A220
         by_cases c23:x10_2.length+t126.length<17592186044416
         ·rw [if_pos c23] at H
          have LMc23:=Z_ c23
          clear c23
          obtain ⟨y130,hy130⟩:∃y_:List Int,y_=(x10_2++t126):=⟨_,rfl⟩
          replace H:(segment_sound_coded.l1 k2 t114 (mx x9_2 t127) y130 t121 (t121.length:Int) (wrap64 (x52_2+1)))=some (r1,r2,r3):=by first | (rw [hy130];with_reducible exact H) | (have H2_:=(Option.bind_some _ _).symm.trans H;rw [hy130];with_reducible exact H2_) | (have H2_:=(Option.bind_some _ _).symm.trans H;with_reducible exact H2_) | with_reducible exact H | (rw [hy130];exact H) | exact H
          have Ny130:=Z_ hy130
          clear hy130
          obtain ⟨ji24,hji24⟩:∃j_:Int,(mx x9_2 t127)=j_:=⟨_,rfl⟩
          (first | rw [hji24] at H | simp only [hji24] at H)
          (try rw [hji24] at A22)
          have hji24_:(if x9_2<t127 then t127 else x9_2)=ji24:=hji24
          have H':=Z_ H
          clear H
          have p125:0≤(x52_2:Int):=of_decide_eq_true A_
          have q125:x52_2<(t121.length:Int):=of_decide_eq_true A_
          obtain ⟨ad125,A125_0,c125_0,e125,hx125_0,hl125_0,hi125_0⟩:=at_L2 (Kd.S_reads' HO_50.out).2.2 x52_2 p125 q125
          cases e125
          obtain ⟨ce125,hce125,hMe125,hcc125⟩:=Kd.S_get HO_50.out [] x52_2 p125 (by first | exact q125 | exact of_decide_eq_true A_ | (have e_:=(Kd.S_reads' HO_50.out).1;omega))
          obtain ⟨ve125_0,rfl,ge125_0⟩:=hMe125
          have hv125_0:=hcc125 0 _ rfl
          rw [Nat.add_zero,show ((Kd.slice 3 (Kd.int .i64))).sz=1 from rfl,Nat.mul_one] at hv125_0
          replace hv125_0:=Option.some.inj (hv125_0.symm.trans hx125_0)
          rw [hv125_0] at ge125_0
          have HL125_0:=Z_ (show Kd.R (Kd.int .i64) 3 _ _ _ _ (rd_L2 t121 x52_2) from ge125_0)
          clear hv125_0 ge125_0
          clear hcc125 hce125
          have HR125_0:=Z_ hi125_0
          have HC125_0:=Z_ hl125_0
          clear hi125_0 hl125_0
          replace p125:=eq_true p125
          replace q125:=eq_true q125
          go_wp2_with (first | (refine G_ 58 Tryz.func16 #[.slice A125_0 (rd_L2 t121 x52_2).length c125_0] ?_;refine (line_Put.calls _ _ (rd_L2 t121 x52_2) t126 t127 _ (C_ HR125_0.out) HC125_0.out A22.out).mono ?_;rintro e w25 ⟨v128,rfl,ho0,hb⟩;refine ⟨_,rfl,?_⟩;replace HO_50:=Z_ (Kd.S_elder' (S_ HO_50) (Kd.R_base ho0) hb);have HO129:=Z_ (Kd.R_lower (Kd.R_new' (Kd.R_new' ho0 (Kd.R_lt (R_ HO_10))) (Kd.R_lt (R_ HL125_0))) (below_size B_));replace HO_10:=Z_ (Kd.R_elder' (R_ HO_10) (Kd.R_base ho0) hb);replace HL125_0:=Z_ (Kd.R_elder' (R_ HL125_0) (Kd.R_base ho0) hb);replace BK109:=Z_ (blk_below (K_ BK109) hb);replace HR125_0:=Z_ (Kd.C_below (C_ HR125_0.out) hb);replace HB:=Hb_ hb;(try clear hb);(try clear ho0);obtain ⟨Ao27,co27,eo27⟩:=Kd.R_slice HO129.out;subst eo27) | ((with_reducible refine gate_builtin (b:= .append) (xs:= #[.tmp 61,.tmp 62]) rfl ?_);at_builtin;refine Kd.R_append_rows (Kd.int .i64) (w0:=w) w.heap.size rfl (.tmp 61) (.tmp 62) 36 3 (.int .i64 0) 8 rfl Tryz.underlying36 info3 rfl (by decide) (by omega) u10 x10_2 t126 _ _ _ (fun k_=>some k_≠(.slice Ao27 t126.length co27:Value).ownBlock) (fun _=>False) rfl rfl ?aO ?aR (fun _ _ h=>h) (fun _ h=>h.elim) ?aF ?aB ?aS ?aL ?_;(case aR=>repeat (first | exact (Kd.R_reads' HO129.out).2.2 | (with_reducible refine Kd.C_alloc ?_ _) | (with_reducible refine Kd.C_drewN ?_ _) | (with_reducible refine Kd.C_drew ?_)));(case aB=>exact B_);(case aF=>exact (fun k_ hk=>Kd.fresh' (Kd.R_lt (R_ HO129)) k_ hk));(case aO=>exact (by (with_reducible repeat (first | apply Kd.R_alloc | apply Kd.R_drewN | apply Kd.R_drew));exact Kd.R_mono HO_10.out (fun _ hk=>hk.2)));(case aS=>exact (below_size B_));(case aL=>have:=LMc23.out;omega);intro v131 w26 ho hb hg hat;rw [←Ny130.out] at ho;replace HO_50:=Z_ (Kd.S_after (ok:=(fun k_=>some k_≠(.slice Ao27 t126.length co27:Value).ownBlock)) (by (with_reducible repeat (first | apply Kd.S_alloc | apply Kd.S_drewN | apply Kd.S_drew));exact Kd.S_mono HO_50.out (fun _ hk=>⟨hk.2,hk.1⟩)) hg hat);replace BK109:=Z_ (blk_grown (g:=gb109) (o:= .cells #[.string a0_0,.int .i64 a0_1,.int .i64 a0_2] 104 (0,0)) (K_ BK109) hg (Kd.R_ne HO_10.out BK109.out (by decide)));replace HL125_0:=Z_ (Kd.R_after (ok:=(fun k_=>some k_≠(.slice (some ad125) t121.length co18:Value).ownBlock∧some k_≠(.slice Ao27 t126.length co27:Value).ownBlock)) (by (with_reducible repeat (first | apply Kd.R_alloc | apply Kd.R_drewN | apply Kd.R_drew));exact Kd.R_mono HL125_0.out (fun _ hk=>⟨⟨hk.1.2,hk.2⟩,hk.1.1⟩)) hg hat);replace HO129:=Z_ (Kd.R_after (ok:=(fun k_=>some k_≠(.slice A125_0 (rd_L2 t121 x52_2).length c125_0:Value).ownBlock)) (by (with_reducible repeat (first | apply Kd.R_alloc | apply Kd.R_drewN | apply Kd.R_drew));exact Kd.R_mono HO129.out (fun _ hk=>⟨hk.2,hk.1.2⟩)) hg hat);replace HB:=Z_ (hb);have HO132:=Z_ (ho);clear HO_10;clear ho hb hg hat))
          go_roundg k2
          case measure=>have:=HK1.out;have:=HK2.out;omega
          case rel=>exact ⟨(ji24),(y130),(wrap64 (x52_2+1)),(by first | rfl | (simp;done) | (simp only [←hji24]<;>(first | rfl | simp)) | (simp [*];done)),(E1_),H',⟨by have:=HK1.out;have:=HK2.out;omega⟩,⟨by (try simp only [hl5_1]);(with_reducible repeat (first | apply Kd.R_alloc | apply Kd.R_drewN | apply Kd.R_drew));exact Kd.R_mono HO132.out (fun _ hk=>trivial)⟩,⟨by (try simp only [hl5_1]);(with_reducible repeat (first | apply Kd.S_alloc | apply Kd.S_drewN | apply Kd.S_drew));exact Kd.S_mono HO_50.out (fun _ hk=>hk.2)⟩,⟨by (try simp only [hl5_1]);(with_reducible repeat (first | refine blk_drewN ?_ _ | refine blk_drew ?_ | refine blk_alloc ?_ _));exact BK109.out⟩,⟨B_⟩⟩
         ·rw [if_neg c23] at H
          exact absurd H (by simp)
        ·rw [if_neg c21] at H
         exact absurd H (by simp)
       ·rw [if_neg c20] at H
        exact absurd H (by simp)
      ·rw [if_neg c19] at H
       have c19b0:=decide_eq_false c19
       (first | (have c19b0x_:=c19b0;rw [hl5_1] at c19b0x_) | (have c19b0x_:=c19b0;rw [←hl5_1] at c19b0x_) | (have c19b0x_:=c19b0;rw [hl115_0] at c19b0x_) | (have c19b0x_:=c19b0;rw [←hl115_0] at c19b0x_) | (have c19b0x_:=c19b0;rw [hl125_0] at c19b0x_) | (have c19b0x_:=c19b0;rw [←hl125_0] at c19b0x_) | skip)
       clear c19
       replace H:=Option.bind_eq_some_iff.mp H
       obtain ⟨⟨t133,t134⟩,A280,H⟩:=H
       (try dsimp only at H)
       have A28:=Z_ A280
       clear A280
       by_cases c29:x9_2=0
       ·rw [if_pos c29] at H
        have c29b0:(x9_2==0)=true:=beq_iff_eq.mpr c29
        have c29b1:(x9_2 !=0)=false:=bne_eq_false_iff_eq.mpr c29
        clear c29
        simp only [Option.some.injEq,Prod.mk.injEq] at H
        obtain ⟨rfl,rfl,rfl⟩:=H
        obtain ⟨Ao30,co30,eo30⟩:=Kd.R_slice HO_10.out
        subst eo30
        go_wp2_with (first | (refine G_ 70 Tryz.func17 #[.slice Ao30 x10_2.length co30] ?_;refine (residual_Put.calls _ _ x10_2 t133 t134 _ (C_ (Kd.R_reads' HO_10.out).2.2) ((Kd.R_reads' HO_10.out).2.1) A28.out).mono ?_;rintro e w31 ⟨rfl,hb⟩;refine ⟨_,rfl,?_⟩;replace HO_10:=Z_ (Kd.R_below (R_ HO_10) hb);replace HO_50:=Z_ (Kd.S_below (S_ HO_50) hb);replace BK109:=Z_ (blk_below (K_ BK109) hb);replace HB:=Hb_ hb;(try clear hb)))
        go_ret3
        exact ⟨E_,B_⟩
       ·rw [if_neg c29] at H
        have c29b0:(x9_2==0)=false:=beq_eq_false_iff_ne.mpr c29
        have c29b1:(x9_2 !=0)=true:=bne_iff_ne.mpr c29
        simp only [Option.some.injEq,Prod.mk.injEq] at H
        obtain ⟨rfl,rfl,rfl⟩:=H
        obtain ⟨Ao32,co32,eo32⟩:=Kd.R_slice HO_10.out
        subst eo32
        go_wp2_with (first | (refine G_ 70 Tryz.func17 #[.slice Ao32 x10_2.length co32] ?_;refine (residual_Put.calls _ _ x10_2 t133 t134 _ (C_ (Kd.R_reads' HO_10.out).2.2) ((Kd.R_reads' HO_10.out).2.1) A28.out).mono ?_;rintro e w33 ⟨rfl,hb⟩;refine ⟨_,rfl,?_⟩;replace HO_10:=Z_ (Kd.R_below (R_ HO_10) hb);replace HO_50:=Z_ (Kd.S_below (S_ HO_50) hb);replace BK109:=Z_ (blk_below (K_ BK109) hb);replace HB:=Hb_ hb;(try clear hb)))
        go_ret3
        exact ⟨E_,B_⟩
mutual
def segment_Put.j0:Nat→ByteArray→Bool→Int→Int→Option (ByteArray×Int)
 | 0,_,_,_,_=>none
 | k+1,x0,x31,x136000,x136001=>if x31=true then (some ((⟨#[]⟩:ByteArray),2200)) else ((segment_sound_constant.f x0 x136000 x136001).bind fun t142=>(if t142=true then ((segment_sound_many.f x0 x136000 x136001).bind fun t143=>((segment_sound_frame.f x0 x136000 x136001).bind fun t144=>(if 0≤t144 then (if t144≤(x0.size:Int) then ((segment_told.f k 2 0 t143 (x0.extract 0 (t144:Int).toNat)).bind fun t145=>(some (t145,0))) else (none)) else (none)))) else ((segment_sound_coded.f k x0 x136000 x136001).bind fun bt146=>(if bt146.2.2=true then (segment_Put.j1 k x0 bt146.1 bt146.2.1 (decide ((bt146.1.size:Int)<(x0.size:Int))) x0 x136000 x136001) else (segment_Put.j1 k x0 bt146.1 bt146.2.1 false x0 x136000 x136001)))))
def segment_Put.j1:Nat→ByteArray→ByteArray→Int→Bool→ByteArray→Int→Int→Option (ByteArray×Int)
 | 0,_,_,_,_,_,_,_=>none
 | k+1,x0,x9,x10,x57,x142000,x142001,x142002=>if x57=true then ((segment_sound_many.f x142000 x142001 x142002).bind fun t149=>((segment_told.f k 1 x10 t149 x9).bind fun t150=>(some (t150,0)))) else ((segment_sound_many.f x142000 x142001 x142002).bind fun t151=>((segment_told.f k 0 0 t151 x0).bind fun t152=>(some (t152,0))))
end
def segment_Put.f (k:Nat) (a0:ByteArray) (a1_0:Int) (a1_1:Int):Option (ByteArray×Int):=(pcm_Get.f k a0 a1_0 a1_1).bind fun bt136=>(if bt136.2=0 then (if a0.toList=([]:List UInt8) then (segment_Put.j0 k a0 true a1_0 a1_1) else ((pcm_Frame.f a1_0 a1_1).bind fun t140=>(segment_Put.j0 k a0 (decide ((a0.size:Int)>(wrap64 (64*t140)))) a1_0 a1_1))) else (segment_Put.j0 k a0 true a1_0 a1_1))
theorem segment_Put.mono_l:∀k,(∀y0 y1 y2 y3,LeO (segment_Put.j0 k y0 y1 y2 y3) (segment_Put.j0 (k+1) y0 y1 y2 y3))∧(∀y0 y1 y2 y3 y4 y5 y6,LeO (segment_Put.j1 k y0 y1 y2 y3 y4 y5 y6) (segment_Put.j1 (k+1) y0 y1 y2 y3 y4 y5 y6))
 | 0=>⟨fun _ _ _ _ r h=>by simp [segment_Put.j0] at h,fun _ _ _ _ _ _ _ r h=>by simp [segment_Put.j1] at h⟩
 | k+1=>by
  obtain ⟨ih0,ih1⟩:=segment_Put.mono_l k
  refine ⟨?_,?_⟩
  ·intro y0 y1 y2 y3
   unfold segment_Put.j0
   repeat' first
   | (with_reducible exact ih0 _ _ _ _)
   | (with_reducible exact ih1 _ _ _ _ _ _ _)
   | (with_reducible exact pcm_Get.mono _ _ _ _)
   | (with_reducible exact segment_sound_coded.mono _ _ _ _)
   | (with_reducible exact segment_told.mono _ _ _ _ _)
   | (with_reducible exact LeO.refl _)
   | (with_reducible exact LeO.none _)
   | (with_reducible refine LeO.ite ?_ ?_)
   | (with_reducible refine LeO.bind ?_ (fun _=>?_))
   | exact ih0 _ _ _ _
   | exact ih1 _ _ _ _ _ _ _
   | exact pcm_Get.mono _ _ _ _
   | exact segment_sound_coded.mono _ _ _ _
   | exact segment_told.mono _ _ _ _ _
   | exact LeO.none _
   | refine LeO.ite ?_ ?_
   | refine LeO.bind ?_ (fun _=>?_)
  ·intro y0 y1 y2 y3 y4 y5 y6
   unfold segment_Put.j1
   repeat' first
   | (with_reducible exact ih0 _ _ _ _)
   | (with_reducible exact ih1 _ _ _ _ _ _ _)
   | (with_reducible exact pcm_Get.mono _ _ _ _)
   | (with_reducible exact segment_sound_coded.mono _ _ _ _)
   | (with_reducible exact segment_told.mono _ _ _ _ _)
   | (with_reducible exact LeO.refl _)
   | (with_reducible exact LeO.none _)
   | (with_reducible refine LeO.ite ?_ ?_)
   | (with_reducible refine LeO.bind ?_ (fun _=>?_))
   | exact ih0 _ _ _ _
   | exact ih1 _ _ _ _ _ _ _
   | exact pcm_Get.mono _ _ _ _
   | exact segment_sound_coded.mono _ _ _ _
   | exact segment_told.mono _ _ _ _ _
   | exact LeO.none _
   | refine LeO.ite ?_ ?_
   | refine LeO.bind ?_ (fun _=>?_)
theorem segment_Put.mono:∀a0 a1 a2 k,LeO (segment_Put.f k a0 a1 a2) (segment_Put.f (k+1) a0 a1 a2):=by
 intro a0 a1 a2 k
 obtain ⟨ih0,ih1⟩:=segment_Put.mono_l k
 unfold segment_Put.f
 repeat' first
   | (with_reducible exact ih0 _ _ _ _)
   | (with_reducible exact ih1 _ _ _ _ _ _ _)
   | (with_reducible exact pcm_Get.mono _ _ _ _)
   | (with_reducible exact segment_sound_coded.mono _ _ _ _)
   | (with_reducible exact segment_told.mono _ _ _ _ _)
   | (with_reducible exact LeO.refl _)
   | (with_reducible exact LeO.none _)
   | (with_reducible refine LeO.ite ?_ ?_)
   | (with_reducible refine LeO.bind ?_ (fun _=>?_))
   | exact ih0 _ _ _ _
   | exact ih1 _ _ _ _ _ _ _
   | exact pcm_Get.mono _ _ _ _
   | exact segment_sound_coded.mono _ _ _ _
   | exact segment_told.mono _ _ _ _ _
   | exact LeO.none _
   | refine LeO.ite ?_ ?_
   | refine LeO.bind ?_ (fun _=>?_)
def segment_Put.T6:Bool×List (List Nat×List Nat):=(true,[([],[]),([0],[0]),([],[]),([],[]),([3,1],[3]),([2,4],[2,4]),([1,5,4],[1,5]),([6,6,0,1,2,3,4,5,6],[6]),([7,0,1,2,3,4,5,6,7],[])])
def segment_Put.B6:List Nat:= [0,1,0,0,11,31,63,127,255]
theorem segment_Put.tab6:rtab .any (opsOf Tryz.f21 6)=segment_Put.T6:=by kernel_rfl
theorem segment_Put.bits6:waitsOk segment_Put.T6.2 segment_Put.B6=true:=by kernel_rfl
theorem segment_Put.calls (k:Nat) (a0:ByteArray) (a1_0:Int) (a1_1:Int) (r1:ByteArray) (r2:Int) (w:World) (h:segment_Put.f k a0 a1_0 a1_1=some (r1,r2)) (hT:Tabs w:=by exact Tabs.below hT B_):
  Calls Tryz.prog 21 #[.string a0,.agg #[.int .i64 a1_0,.int .i64 a1_1]] w fun e w'=>e= .returned (.tuple #[.string r1,.int .i64 r2])∧Below w.heap.size w w':=by
 have hu23:=Tryz.underlying23
 have hu104:=Tryz.underlying104
 have HB:=Z_ (Below.refl w.heap.size w)
 have H:((pcm_Get.f k a0 a1_0 a1_1).bind fun bt136=>(if bt136.2=0 then (if a0.toList=([]:List UInt8) then (segment_Put.j0 k a0 true a1_0 a1_1) else ((pcm_Frame.f a1_0 a1_1).bind fun t140=>(segment_Put.j0 k a0 (decide ((a0.size:Int)>(wrap64 (64*t140)))) a1_0 a1_1))) else (segment_Put.j0 k a0 true a1_0 a1_1)))=some (r1,r2):=h
 clear h
 replace H:=Option.bind_eq_some_iff.mp H
 obtain ⟨⟨t136,t139⟩,A30,H⟩:=H
 (try dsimp only at H)
 have A3:=Z_ A30
 clear A30
 have HC4:=Z_ H
 clear H
 go_enter Tryz.func21,Tryz.ntmps21
 go_upto_region 2 with (first | ((try (refine gate_guard (by rfl) ?_;dsimp only));refine X_ 3 #[.int .i64 a1_0,.int .i64 a1_1] 23 ?_;intro gb135 hg w5 hbox hb;have BK135:=Z_ (hbox);have GW135:=Z_ (G2_ hg:w.heap.size≤_);have GE135:=GW135;replace HB:=Hb_ hb;clear hb hbox hg;have hcz6_0:=cz_ BK135 0;have hcz6_1:=cz_ BK135 1;have hfz6_0:=fz_ BK135 0;have hfz6_1:=fz_ BK135 1) | (refine G_ 15 Tryz.func25 #[.string a0,.agg #[.int .i64 a1_0,.int .i64 a1_1]] ?_;refine (pcm_Get.calls k a0 a1_0 a1_1 t136 t139 _ A3.out).mono ?_;rintro e w7 ⟨v137,rfl,ho0,hb⟩;refine ⟨_,rfl,?_⟩;have HO138:=Z_ (Kd.S_lower ho0 (below_size B_));replace BK135:=Z_ (blk_below (K_ BK135) hb);replace HB:=Hb_ hb;(try clear hb);(try clear ho0)))
 (try simp only [Act.put,List.setIfInBounds_toArray,List.set_cons_zero,List.set_cons_succ])
 go_cut [31] (fun v31 wc=>∃(kq:Nat) (x31_3:Bool),v31= .bool x31_3∧Aside0 (segment_Put.j0 kq a0 x31_3 a1_0 a1_1=some (r1,r2))∧Aside0 (kq≤k)∧Aside0 (wc.heap[gb135]?=some (.cells #[.int .i64 a1_0,.int .i64 a1_1] 23 (0,0)))∧Aside0 (Below w.heap.size w wc))
 case first=>
  have H:=HC4.out
  clear HC4
  by_cases c8:t139=0
  ·rw [if_pos c8] at H
   have c8b0:(t139==0)=true:=beq_iff_eq.mpr c8
   have c8b1:(t139 !=0)=false:=bne_eq_false_iff_eq.mpr c8
   clear c8
   (first | rw [c8b0] | (simp only [i64_w,i32_w];rw [c8b0]) | skip)
   by_cases c9:a0.toList=([]:List UInt8)
   ·rw [if_pos c9] at H
    have c9b0:(a0.toList==([]:List UInt8))=true:=beq_iff_eq.mpr c9
    have c9b1:(a0.toList !=([]:List UInt8))=false:=bne_eq_false_iff_eq.mpr c9
    clear c9
    have H':=Z_ H
    clear H
    go_wp2
    go_meet
    case rel=>exact ⟨_,(true),(E1_),H',⟨L_⟩,⟨(K_ BK135)⟩,⟨B_⟩⟩
   ·rw [if_neg c9] at H
    have c9b0:(a0.toList==([]:List UInt8))=false:=beq_eq_false_iff_ne.mpr c9
    have c9b1:(a0.toList !=([]:List UInt8))=true:=bne_iff_ne.mpr c9
    replace H:=Option.bind_eq_some_iff.mp H
    obtain ⟨t140,A100,H⟩:=H
    (try dsimp only at H)
    have A10:=Z_ A100
    clear A100
    have H':=Z_ H
    clear H
    have hcz11_0:=cz_ BK135 0
    have hcz11_1:=cz_ BK135 1
    have hfz11_0:=fz_ BK135 0
    have hfz11_1:=fz_ BK135 1
    go_wp2_with (first | (go_at_call 29;refine (pcm_Frame.calls a1_0 a1_1 t140 _ A10.out).mono ?_;rintro e w12 ⟨rfl,hb⟩;replace HO138:=Z_ (Kd.S_below (S_ HO138) hb);replace BK135:=Z_ (blk_below (K_ BK135) hb);replace HB:=Hb_ hb;(try clear hb)))
    go_meet
    case rel=>exact ⟨_,(decide ((a0.size:Int)>(wrap64 (64*t140)))),(E1_),H',⟨L_⟩,⟨(K_ BK135)⟩,⟨B_⟩⟩
  ·rw [if_neg c8] at H
   have c8b0:(t139==0)=false:=beq_eq_false_iff_ne.mpr c8
   have c8b1:(t139 !=0)=true:=bne_iff_ne.mpr c8
   (first | rw [c8b0] | (simp only [i64_w,i32_w];rw [c8b0]) | skip)
   have H':=Z_ H
   clear H
   go_wp2
   go_meet
   case rel=>exact ⟨_,(true),(E1_),H',⟨L_⟩,⟨(K_ BK135)⟩,⟨B_⟩⟩
 case rest=>
  clear HC4
  try clear c2
  try clear p2
  try clear p6
  try clear c8
  try clear c8b0
  try clear c8b1
  try clear c9
  try clear c9b0
  try clear c9b1
  try clear hcz11_0
  try clear hcz11_1
  try clear hcz6_0
  try clear hcz6_1
  try clear hfz11_0
  try clear hfz11_1
  try clear hfz6_0
  try clear hfz6_1
  obtain ⟨kq,x31_3,rfl,HA,HJ3,BK135,HB⟩:=hcut
  cases kq with
  | zero=>exact absurd HA.out (by simp [segment_Put.j0])
  | succ kj3=>
   have H:=HA.out
   clear HA
   simp only [segment_Put.j0] at H
   by_cases c13:x31_3=true
   ·subst c13
    rw [if_pos rfl] at H
    simp only [Option.some.injEq,Prod.mk.injEq] at H
    obtain ⟨rfl,rfl⟩:=H
    go_wp2
    go_ret2
    exact ⟨E_,B_⟩
   ·replace c13:=Bool.eq_false_iff.mpr c13
    subst c13
    rw [if_neg (show ¬(false=true) by decide)] at H
    replace H:=Option.bind_eq_some_iff.mp H
    obtain ⟨t142,A140,H⟩:=H
    (try dsimp only at H)
    have A14:=Z_ A140
    clear A140
    by_cases c15:t142=true
    ·subst c15
     rw [if_pos rfl] at H
     replace H:=Option.bind_eq_some_iff.mp H
     obtain ⟨t143,A160,H⟩:=H
     (try dsimp only at H)
     have A16:=Z_ A160
     clear A160
     replace H:=Option.bind_eq_some_iff.mp H
     obtain ⟨t144,A170,H⟩:=H
     (try dsimp only at H)
     have A17:=Z_ A170
     clear A170
     by_cases c18:0≤t144
     ·rw [if_pos c18] at H
      have c18b0:=eq_true c18
      have c18b1:=decide_eq_true c18
      clear c18
      by_cases c19:t144≤(a0.size:Int)
      ·rw [if_pos c19] at H
       have c19b0:=eq_true c19
       have c19b1:=decide_eq_true c19
       clear c19
       replace H:=Option.bind_eq_some_iff.mp H
       obtain ⟨t145,A200,H⟩:=H
       replace H:(some (t145,0))=some (r1,r2):=H
       have A20:=Z_ A200
       clear A200
       simp only [Option.some.injEq,Prod.mk.injEq] at H
       obtain ⟨rfl,rfl⟩:=H
       have hcz21_0:=cz_ BK135 0
       have hcz21_1:=cz_ BK135 1
       have hfz21_0:=fz_ BK135 0
       have hfz21_1:=fz_ BK135 1
       try go_wp2_with (first | ((try (refine gate_guard (by rfl) ?_;dsimp only));refine X_ 8 #[.string (⟨#[]⟩:ByteArray),.int .i64 0,.int .i64 0] 104 ?_;intro gb141 hg w22 hbox hb;have BK141:=Z_ (hbox);have GW141:=Z_ (G2_ hg:w.heap.size≤_);have GE141:=GW141;replace HB:=Hb_ hb;have NB135_141:=Z_ ((by rw [hg];exact Nat.ne_of_lt (blk_lt (g:=gb135) (o:= .cells #[.int .i64 a1_0,.int .i64 a1_1] 23 (0,0)) (K_ BK135)):gb135≠gb141));have NB141_135:=Z_ ((by rw [hg];exact Nat.ne_of_gt (blk_lt (g:=gb135) (o:= .cells #[.int .i64 a1_0,.int .i64 a1_1] 23 (0,0)) (K_ BK135)):gb141≠gb135));replace BK135:=Z_ (blk_below (K_ BK135) hb);clear hb hbox hg;have hnb23:=NB141_135.out;have hnc23:=NB135_141.out;have hcz24_0:=cz_ BK141 0;have hcz24_1:=cz_ BK141 1;have hcz24_2:=cz_ BK141 2;have hfz24_0:=fz_ BK141 0;have hfz24_1:=fz_ BK141 1;have hfz24_2:=fz_ BK141 2) | (refine G_ 36 Tryz.func49 #[.agg #[.string a0,.int .i64 a1_0,.int .i64 a1_1]] ?_;refine (segment_sound_constant.calls a0 a1_0 a1_1 true _ A14.out).mono ?_;rintro e w25 ⟨rfl,hb⟩;refine ⟨_,rfl,?_⟩;replace BK135:=Z_ (blk_below (g:=gb135) (o:= .cells #[.int .i64 a1_0,.int .i64 a1_1] 23 (0,0)) (blk_far (blk_far (blk_far (K_ BK135) NB135_141.out _) NB135_141.out _) NB135_141.out _) hb);replace BK141:=Z_ (blk_below (g:=gb141) (o:= .cells #[.string a0,.int .i64 a1_0,.int .i64 a1_1] 104 (0,0)) (blk_put (cs:= #[.string a0,.int .i64 a1_0,.int .i64 0]) (blk_put (cs:= #[.string a0,.int .i64 0,.int .i64 0]) (blk_put (cs:= #[.string (⟨#[]⟩:ByteArray),.int .i64 0,.int .i64 0]) (K_ BK141) 0 _ rfl) 1 _ rfl) 2 _ rfl) hb);replace HB:=Hb_ hb;(try clear hb)))
       replace BK135:=Z_ (blk_drew BK135.out)
       replace BK141:=Z_ (blk_drew BK141.out)
       replace HB:=Z_ (below_drew1 HB.out)
       refine start_ (n:=9) (S:=fun w'=>w'.cell? ⟨gb141,0,none⟩=some (.string a0)∧w'.cell? ⟨gb141,1,none⟩=some (.int .i64 a1_0)∧w'.cell? ⟨gb141,2,none⟩=some (.int .i64 a1_1)) (ds:= []) #[false,false,false,false,false,false,false,false,false] (by kernel_rfl) rfl rfl ⟨(blk_cell BK141.out 0).trans rfl,(blk_cell BK141.out 1).trans rfl,(blk_cell BK141.out 2).trans rfl⟩ (fun hHeld=>?_);refine with_tabW segment_Put.tab6 segment_Put.bits6 (fun HT_ HW_=>?_)
       generalize w25.drew=w26 at BK135 BK141 HB hHeld ⊢
       refine P_ 2 39 ?_
       refine T_ 0 37 (y:=by rintro w' ⟨s0,s1,s2⟩;go_simp;with_reducible rfl) (h:=?_)
       refine T_ 3 40 (y:=by rintro w' ⟨s0,s1,s2⟩;go_simp;with_reducible rfl) (h:=?_)
       refine O_ 1 38 fun K hK=>?_
       refine g_ Tryz.func51 #[.agg #[.string a0,.int .i64 a1_0,.int .i64 a1_1]] ?_
       with_reducible refine (segment_sound_many.calls a0 a1_0 a1_1 t143 _ A16.out).mono ?_
       rintro e w27 ⟨rfl,hb⟩
       refine ⟨_,rfl,?_⟩
       replace BK135:=Z_ (blk_below (K_ BK135) hb)
       replace BK141:=Z_ (blk_below (K_ BK141) hb)
       replace HB:=Hb_ hb
       (try clear hb)
       (try clear hb2)
       (try clear hk)
       (try clear hi)
       refine hK.out _ _ ⟨(blk_cell BK141.out 0).trans rfl,(blk_cell BK141.out 1).trans rfl,(blk_cell BK141.out 2).trans rfl⟩ (fun hHeld=>?_)
       clear hK K
       refine Nm_ 38 ?_
       refine O_ 4 41 fun K hK=>?_
       refine g_ Tryz.func52 #[.agg #[.string a0,.int .i64 a1_0,.int .i64 a1_1]] ?_
       with_reducible refine (segment_sound_frame.calls a0 a1_0 a1_1 t144 _ A17.out).mono ?_
       rintro e w28 ⟨rfl,hb⟩
       refine ⟨_,rfl,?_⟩
       replace BK135:=Z_ (blk_below (K_ BK135) hb)
       replace BK141:=Z_ (blk_below (K_ BK141) hb)
       replace HB:=Hb_ hb
       (try clear hb)
       (try clear hb2)
       (try clear hk)
       (try clear hi)
       refine hK.out _ _ ⟨(blk_cell BK141.out 0).trans rfl,(blk_cell BK141.out 1).trans rfl,(blk_cell BK141.out 2).trans rfl⟩ (fun hHeld=>?_)
       clear hK K
       refine Nm_ 41 ?_
       refine P_ 5 42 ?_
       refine O_ 6 43 fun K hK=>?_
       refine g_ Tryz.func50 #[.int .i64 2,.int .i64 0,.int .i64 t143,.string (a0.extract 0 (t144:Int).toNat)] ?_
       with_reducible refine (segment_told.calls kj3 2 0 t143 (a0.extract 0 (t144:Int).toNat) t145 _ A20.out).mono ?_
       rintro e w29 ⟨rfl,hb⟩
       refine ⟨_,rfl,?_⟩
       replace BK135:=Z_ (blk_below (K_ BK135) hb)
       replace BK141:=Z_ (blk_below (K_ BK141) hb)
       replace HB:=Hb_ hb
       (try clear hb)
       (try clear hb2)
       (try clear hk)
       (try clear hi)
       refine hK.out _ _ ⟨(blk_cell BK141.out 0).trans rfl,(blk_cell BK141.out 1).trans rfl,(blk_cell BK141.out 2).trans rfl⟩ (fun hHeld=>?_)
       clear hK K
       refine Nm_ 43 ?_
       refine P_ 7 4 ?_
       refine P_ 8 5 ?_
       refine done_ (done_of HT_.out (by kernel_rfl)) ?_
       try go_wp2
       go_ret2
       exact ⟨E_,B_⟩
      ·rw [if_neg c19] at H
       exact absurd H (by simp)
     ·rw [if_neg c18] at H
      exact absurd H (by simp)
    ·replace c15:=Bool.eq_false_iff.mpr c15
     subst c15
     rw [if_neg (show ¬(false=true) by decide)] at H
     replace H:=Option.bind_eq_some_iff.mp H
     obtain ⟨⟨t146,t147,t148⟩,A300,H⟩:=H
     (try dsimp only at H)
     have A30:=Z_ A300
     clear A300
     have HC31:=Z_ H
     clear H
     have hcz32_0:=cz_ BK135 0
     have hcz32_1:=cz_ BK135 1
     have hfz32_0:=fz_ BK135 0
     have hfz32_1:=fz_ BK135 1
     go_upto_region 8 with (first | ((try (refine gate_guard (by rfl) ?_;dsimp only));refine X_ 8 #[.string (⟨#[]⟩:ByteArray),.int .i64 0,.int .i64 0] 104 ?_;intro gb141 hg w33 hbox hb;have BK141:=Z_ (hbox);have GW141:=Z_ (G2_ hg:w.heap.size≤_);have GE141:=GW141;replace HB:=Hb_ hb;have NB135_141:=Z_ ((by rw [hg];exact Nat.ne_of_lt (blk_lt (g:=gb135) (o:= .cells #[.int .i64 a1_0,.int .i64 a1_1] 23 (0,0)) (K_ BK135)):gb135≠gb141));have NB141_135:=Z_ ((by rw [hg];exact Nat.ne_of_gt (blk_lt (g:=gb135) (o:= .cells #[.int .i64 a1_0,.int .i64 a1_1] 23 (0,0)) (K_ BK135)):gb141≠gb135));replace BK135:=Z_ (blk_below (K_ BK135) hb);clear hb hbox hg;have hnb34:=NB141_135.out;have hnc34:=NB135_141.out;have hcz35_0:=cz_ BK141 0;have hcz35_1:=cz_ BK141 1;have hcz35_2:=cz_ BK141 2;have hfz35_0:=fz_ BK141 0;have hfz35_1:=fz_ BK141 1;have hfz35_2:=fz_ BK141 2) | (refine G_ 36 Tryz.func49 #[.agg #[.string a0,.int .i64 a1_0,.int .i64 a1_1]] ?_;refine (segment_sound_constant.calls a0 a1_0 a1_1 false _ A14.out).mono ?_;rintro e w36 ⟨rfl,hb⟩;refine ⟨_,rfl,?_⟩;replace BK135:=Z_ (blk_below (g:=gb135) (o:= .cells #[.int .i64 a1_0,.int .i64 a1_1] 23 (0,0)) (blk_far (blk_far (blk_far (K_ BK135) NB135_141.out _) NB135_141.out _) NB135_141.out _) hb);replace BK141:=Z_ (blk_below (g:=gb141) (o:= .cells #[.string a0,.int .i64 a1_0,.int .i64 a1_1] 104 (0,0)) (blk_put (cs:= #[.string a0,.int .i64 a1_0,.int .i64 0]) (blk_put (cs:= #[.string a0,.int .i64 0,.int .i64 0]) (blk_put (cs:= #[.string (⟨#[]⟩:ByteArray),.int .i64 0,.int .i64 0]) (K_ BK141) 0 _ rfl) 1 _ rfl) 2 _ rfl) hb);replace HB:=Hb_ hb;(try clear hb);have hcz37_0:=cz_ BK141 0;have hcz37_1:=cz_ BK141 1;have hcz37_2:=cz_ BK141 2;have hfz37_0:=fz_ BK141 0;have hfz37_1:=fz_ BK141 1;have hfz37_2:=fz_ BK141 2) | (refine G_ 46 Tryz.func53 #[.agg #[.string a0,.int .i64 a1_0,.int .i64 a1_1]] ?_;refine (segment_sound_coded.calls kj3 a0 a1_0 a1_1 t146 t147 t148 _ A30.out).mono ?_;rintro e w38 ⟨rfl,hb⟩;refine ⟨_,rfl,?_⟩;replace BK135:=Z_ (blk_below (K_ BK135) hb);replace BK141:=Z_ (blk_below (K_ BK141) hb);replace HB:=Hb_ hb;(try clear hb)))
     (try simp only [Act.put,List.setIfInBounds_toArray,List.set_cons_zero,List.set_cons_succ])
     go_cut [57] (fun v57 wc=>∃(kq:Nat) (x57_30:Bool),v57= .bool x57_30∧Aside0 (segment_Put.j1 kq a0 t146 t147 x57_30 a0 a1_0 a1_1=some (r1,r2))∧Aside0 (kq≤kj3)∧Aside0 (wc.heap[gb135]?=some (.cells #[.int .i64 a1_0,.int .i64 a1_1] 23 (0,0)))∧Aside0 (wc.heap[gb141]?=some (.cells #[.string a0,.int .i64 a1_0,.int .i64 a1_1] 104 (0,0)))∧Aside0 (Below w.heap.size w wc))
     case first=>
      have H:=HC31.out
      clear HC31
      by_cases c39:t148=true
      ·subst c39
       rw [if_pos rfl] at H
       have H':=Z_ H
       clear H
       go_wp2
       go_meet
       case rel=>exact ⟨_,(decide ((t146.size:Int)<(a0.size:Int))),(E1_),H',⟨by have:=HJ3.out;first | omega | exact Nat.le_refl _⟩,⟨(K_ BK135)⟩,⟨(K_ BK141)⟩,⟨B_⟩⟩
      ·replace c39:=Bool.eq_false_iff.mpr c39
       subst c39
       rw [if_neg (show ¬(false=true) by decide)] at H
       have H':=Z_ H
       clear H
       go_wp2
       go_meet
       case rel=>exact ⟨_,(false),(E1_),H',⟨by have:=HJ3.out;first | omega | exact Nat.le_refl _⟩,⟨(K_ BK135)⟩,⟨(K_ BK141)⟩,⟨B_⟩⟩
     case rest=>
      clear HC31
      try clear c1
      try clear c2
      try clear p2
      try clear c3
      try clear c4
      try clear c5
      try clear p6
      try clear c8
      try clear c8b0
      try clear c8b1
      try clear c9
      try clear c9b0
      try clear c9b1
      try clear c13
      try clear c15
      try clear c18
      try clear c18b0
      try clear c18b1
      try clear c19
      try clear c19b0
      try clear c19b1
      try clear c21
      try clear c23
      try clear c25
      try clear c34
      try clear c39
      try clear hcz11_0
      try clear hcz11_1
      try clear hcz21_0
      try clear hcz21_1
      try clear hcz24_0
      try clear hcz24_1
      try clear hcz24_2
      try clear hcz32_0
      try clear hcz32_1
      try clear hcz35_0
      try clear hcz35_1
      try clear hcz35_2
      try clear hcz37_0
      try clear hcz37_1
      try clear hcz37_2
      try clear hcz6_0
      try clear hcz6_1
      try clear hfz11_0
      try clear hfz11_1
      try clear hfz21_0
      try clear hfz21_1
      try clear hfz24_0
      try clear hfz24_1
      try clear hfz24_2
      try clear hfz32_0
      try clear hfz32_1
      try clear hfz35_0
      try clear hfz35_1
      try clear hfz35_2
      try clear hfz37_0
      try clear hfz37_1
      try clear hfz37_2
      try clear hfz6_0
      try clear hfz6_1
      try clear p2
      try clear p6
      obtain ⟨kq,x57_30,rfl,HA,HJ30,BK135,BK141,HB⟩:=hcut
      cases kq with
      | zero=>exact absurd HA.out (by simp [segment_Put.j1])
      | succ kj30=>
       have H:=HA.out
       clear HA
       simp only [segment_Put.j1] at H
       by_cases c40:x57_30=true
       ·subst c40
        rw [if_pos rfl] at H
        replace H:=Option.bind_eq_some_iff.mp H
        obtain ⟨t149,A410,H⟩:=H
        (try dsimp only at H)
        have A41:=Z_ A410
        clear A410
        replace H:=Option.bind_eq_some_iff.mp H
        obtain ⟨t150,A420,H⟩:=H
        replace H:(some (t150,0))=some (r1,r2):=H
        have A42:=Z_ A420
        clear A420
        simp only [Option.some.injEq,Prod.mk.injEq] at H
        obtain ⟨rfl,rfl⟩:=H
        have hnb43:=NB141_135.out
        have hnc43:=NB135_141.out
        have hcz44_0:=cz_ BK141 0
        have hcz44_1:=cz_ BK141 1
        have hcz44_2:=cz_ BK141 2
        have hfz44_0:=fz_ BK141 0
        have hfz44_1:=fz_ BK141 1
        have hfz44_2:=fz_ BK141 2
        go_wp2_with (first | (refine G_ 60 Tryz.func51 #[.agg #[.string a0,.int .i64 a1_0,.int .i64 a1_1]] ?_;refine (segment_sound_many.calls a0 a1_0 a1_1 t149 _ A41.out).mono ?_;rintro e w45 ⟨rfl,hb⟩;refine ⟨_,rfl,?_⟩;replace BK135:=Z_ (blk_below (K_ BK135) hb);replace BK141:=Z_ (blk_below (K_ BK141) hb);replace HB:=Hb_ hb;(try clear hb)) | (refine G_ 62 Tryz.func50 #[.int .i64 1,.int .i64 t147,.int .i64 t149,.string t146] ?_;refine (segment_told.calls kj30 1 t147 t149 t146 t150 _ A42.out).mono ?_;rintro e w46 ⟨rfl,hb⟩;refine ⟨_,rfl,?_⟩;replace BK135:=Z_ (blk_below (K_ BK135) hb);replace BK141:=Z_ (blk_below (K_ BK141) hb);replace HB:=Hb_ hb;(try clear hb)))
        go_ret2
        exact ⟨E_,B_⟩
       ·replace c40:=Bool.eq_false_iff.mpr c40
        subst c40
        rw [if_neg (show ¬(false=true) by decide)] at H
        replace H:=Option.bind_eq_some_iff.mp H
        obtain ⟨t151,A470,H⟩:=H
        (try dsimp only at H)
        have A47:=Z_ A470
        clear A470
        replace H:=Option.bind_eq_some_iff.mp H
        obtain ⟨t152,A480,H⟩:=H
        replace H:(some (t152,0))=some (r1,r2):=H
        have A48:=Z_ A480
        clear A480
        simp only [Option.some.injEq,Prod.mk.injEq] at H
        obtain ⟨rfl,rfl⟩:=H
        have hnb49:=NB141_135.out
        have hnc49:=NB135_141.out
        have hcz50_0:=cz_ BK141 0
        have hcz50_1:=cz_ BK141 1
        have hcz50_2:=cz_ BK141 2
        have hfz50_0:=fz_ BK141 0
        have hfz50_1:=fz_ BK141 1
        have hfz50_2:=fz_ BK141 2
        go_wp2_with (first | (refine G_ 64 Tryz.func51 #[.agg #[.string a0,.int .i64 a1_0,.int .i64 a1_1]] ?_;refine (segment_sound_many.calls a0 a1_0 a1_1 t151 _ A47.out).mono ?_;rintro e w51 ⟨rfl,hb⟩;refine ⟨_,rfl,?_⟩;replace BK135:=Z_ (blk_below (K_ BK135) hb);replace BK141:=Z_ (blk_below (K_ BK141) hb);replace HB:=Hb_ hb;(try clear hb)) | (refine G_ 66 Tryz.func50 #[.int .i64 0,.int .i64 0,.int .i64 t151,.string a0] ?_;refine (segment_told.calls kj30 0 0 t151 a0 t152 _ A48.out).mono ?_;rintro e w52 ⟨rfl,hb⟩;refine ⟨_,rfl,?_⟩;replace BK135:=Z_ (blk_below (K_ BK135) hb);replace BK141:=Z_ (blk_below (K_ BK141) hb);replace HB:=Hb_ hb;(try clear hb)))
        go_ret2
        exact ⟨E_,B_⟩
end Go.Proofs.YtfghldonnffldaaGreatDoor.YFou
namespace Go.Proofs.YtfghldonnffldaaGreatDoor.ZFiv
open Go.RowKit TBase UOne VTwo XThr YFou YtfghldonnffldaaGreatDoorW.PrintWords YtfghldonnffldaaGreatDoorW.PrintLast YtfghldonnffldaaGreatDoorW.PrintMore
attribute [local go_sem] max2_int min2_int max_two min_two max_three min_three max_four min_four
theorem eqA23 (d:Nat) (w:World) (x0 y0:Int) (x1 y1:Int):
  (Op.equalIn (d+2) 23 (.agg #[.int .i64 x0,.int .i64 x1]) (.agg #[.int .i64 y0,.int .i64 y1])).run Tryz.prog w= .ok (x0==y0 && (x1==y1)) w:=by
 refine eqA_of Tryz.underlying23 (by kernel_rfl) ?_
 refine eqf_cons (by rfl) (by go_simp;rfl) (by go_simp;rfl) (by go_simp) ?_
 exact eqf_last (by rfl) (by go_simp;rfl) (by go_simp;rfl) (by go_simp)
theorem eqA57 (d:Nat) (w:World) (x0 y0:Int) (x1 y1:Int) (x2 y2:ByteArray) (x3 y3:ByteArray) (x4 y4:ByteArray):
  (Op.equalIn (d+3) 57 (.agg #[.int .i64 x0,.int .i64 x1,.string x2,.string x3,.string x4]) (.agg #[.int .i64 y0,.int .i64 y1,.string y2,.string y3,.string y4])).run Tryz.prog w= .ok ((x0==y0 && (x1==y1)) && (x2.toList==y2.toList && (x3.toList==y3.toList && (x4.toList==y4.toList)))) w:=by
 refine eqA_of Tryz.underlying57 (by kernel_rfl) ?_
 refine eqf_cons (by rfl) (by go_simp) (by go_simp) (eqA23 (d+0) w _ _ _ _) ?_
 refine eqf_cons (by rfl) (by go_simp;rfl) (by go_simp;rfl) (by go_simp) ?_
 refine eqf_cons (by rfl) (by go_simp;rfl) (by go_simp;rfl) (by go_simp) ?_
 exact eqf_last (by rfl) (by go_simp;rfl) (by go_simp;rfl) (by go_simp)
def wave_Parse.j0:Nat→ByteArray→List (S116)→Int→Int→Bool→Option (Int×Int×ByteArray×ByteArray×ByteArray×Int)
 | 0,_,_,_,_,_=>none
 | k+1,x0,x4,x6,x8,x51=>if x51=true then (some (0,0,(⟨#[]⟩:ByteArray),(⟨#[]⟩:ByteArray),(⟨#[]⟩:ByteArray),2100)) else (if 0≤x6 then (if x6<(x4.length:Int) then (if 0≤((rd_T116 x4 x6).f1) then (if ((rd_T116 x4 x6).f1)≤(wrap64 (((rd_T116 x4 x6).f1)+16)) then (if (wrap64 (((rd_T116 x4 x6).f1)+16))≤(x0.size:Int) then ((wave_format.f k (x0.extract (((rd_T116 x4 x6).f1):Int).toNat ((wrap64 (((rd_T116 x4 x6).f1)+16)):Int).toNat)).bind fun bt113=>(if 0≤x8 then (if x8<(x4.length:Int) then (if 0≤((rd_T116 x4 x8).f1) then (if ((rd_T116 x4 x8).f1)≤(wrap64 (((rd_T116 x4 x8).f1)+((rd_T116 x4 x8).f2))) then (if (wrap64 (((rd_T116 x4 x8).f1)+((rd_T116 x4 x8).f2)))≤(x0.size:Int) then (if bt113.2.2=true then ((pcm_Frames.f (x0.extract (((rd_T116 x4 x8).f1):Int).toNat ((wrap64 (((rd_T116 x4 x8).f1)+((rd_T116 x4 x8).f2))):Int).toNat) bt113.1 bt113.2.1).bind fun t119=>(if t119=true then (if ((rd_T116 x4 x8).f1)≤(x0.size:Int) then (if 0≤(wrap64 (((rd_T116 x4 x8).f1)+((x0.extract (((rd_T116 x4 x8).f1):Int).toNat ((wrap64 (((rd_T116 x4 x8).f1)+((rd_T116 x4 x8).f2))):Int).toNat).size:Int))) then (if (wrap64 (((rd_T116 x4 x8).f1)+((x0.extract (((rd_T116 x4 x8).f1):Int).toNat ((wrap64 (((rd_T116 x4 x8).f1)+((rd_T116 x4 x8).f2))):Int).toNat).size:Int)))≤(x0.size:Int) then (some (bt113.1,bt113.2.1,x0.extract 0 (((rd_T116 x4 x8).f1):Int).toNat,x0.extract (((rd_T116 x4 x8).f1):Int).toNat ((wrap64 (((rd_T116 x4 x8).f1)+((rd_T116 x4 x8).f2))):Int).toNat,x0.extract ((wrap64 (((rd_T116 x4 x8).f1)+((x0.extract (((rd_T116 x4 x8).f1):Int).toNat ((wrap64 (((rd_T116 x4 x8).f1)+((rd_T116 x4 x8).f2))):Int).toNat).size:Int))):Int).toNat x0.size,0)) else (none)) else (none)) else (none)) else (some (0,0,(⟨#[]⟩:ByteArray),(⟨#[]⟩:ByteArray),(⟨#[]⟩:ByteArray),2100)))) else (some (0,0,(⟨#[]⟩:ByteArray),(⟨#[]⟩:ByteArray),(⟨#[]⟩:ByteArray),2100))) else (none)) else (none)) else (none)) else (none)) else (none))) else (none)) else (none)) else (none)) else (none)) else (none))
def wave_Parse.f (k:Nat) (a0:ByteArray):Option (Int×Int×ByteArray×ByteArray×ByteArray×Int):=(riff_Chunks.f k a0).bind fun bt102=>((wave_one.f bt102.1 (⟨#[102,109,116,32]⟩:ByteArray)).bind fun bt106=>((wave_one.f bt102.1 (⟨#[100,97,116,97]⟩:ByteArray)).bind fun bt108=>(if bt102.2=0 then (if bt106.2=true then (if bt108.2=true then (if bt108.1<bt106.1 then (wave_Parse.j0 k a0 bt102.1 bt106.1 bt108.1 true) else (if 0≤bt106.1 then (if bt106.1<(bt102.1.length:Int) then (wave_Parse.j0 k a0 bt102.1 bt106.1 bt108.1 (((rd_T116 bt102.1 bt106.1).f2) !=16)) else (none)) else (none))) else (wave_Parse.j0 k a0 bt102.1 bt106.1 bt108.1 true)) else (wave_Parse.j0 k a0 bt102.1 bt106.1 bt108.1 true)) else (wave_Parse.j0 k a0 bt102.1 bt106.1 bt108.1 true))))
def wave_Parse.T6:Bool×List (List Nat×List Nat):=(true,[([],[]),([],[]),([],[]),([1,2],[1,2]),([3],[3]),([4],[4]),([],[]),([],[]),([6,7],[6,7]),([8],[8]),([9],[9]),([10],[10]),([0,5,11],[0,5,11]),([12],[12]),([13],[13]),([14],[14]),([14],[14]),([],[]),([17,15,13,0,1,2,3,4,5,6,7,8,9,10,11,12,13,14,15,17],[15,17]),([16,18,0,1,2,3,4,5,6,7,8,9,10,11,12,13,14,15,16,17,18],[16])])
def wave_Parse.B6:List Nat:= [0,0,0,6,14,30,0,0,192,448,960,1984,4095,8191,16383,32767,32767,0,196607,524287]
theorem wave_Parse.tab6:rtab .any (opsOf Tryz.f24 6)=wave_Parse.T6:=by kernel_rfl
theorem wave_Parse.bits6:waitsOk wave_Parse.T6.2 wave_Parse.B6=true:=by kernel_rfl
def wave_Parse.T11:Bool×List (List Nat×List Nat):=(true,[([],[]),([],[]),([],[]),([1,2],[1,2]),([],[]),([],[]),([],[]),([],[]),([7],[7]),([6,8],[6,8]),([5,9],[5,9]),([0,3,4,10],[0,3,4,10]),([11,0,1,2,3,4,5,6,7,8,9,10,11],[11]),([12,0,1,2,3,4,5,6,7,8,9,10,11,12],[])])
def wave_Parse.B11:List Nat:= [0,0,0,6,0,0,0,0,128,448,992,2047,4095,8191]
theorem wave_Parse.tab11:rtab .any (opsOf Tryz.f24 11)=wave_Parse.T11:=by kernel_rfl
theorem wave_Parse.bits11:waitsOk wave_Parse.T11.2 wave_Parse.B11=true:=by kernel_rfl
theorem wave_Parse.calls (k:Nat) (a0:ByteArray) (r1:Int) (r2:Int) (r3:ByteArray) (r4:ByteArray) (r5:ByteArray) (r6:Int) (w:World) (h:wave_Parse.f k a0=some (r1,r2,r3,r4,r5,r6)):
  Calls Tryz.prog 24 #[.string a0] w fun e w'=>e= .returned (.tuple #[.agg #[.int .i64 r1,.int .i64 r2,.string r3,.string r4,.string r5],.int .i64 r6])∧Below w.heap.size w w':=by
 have hu57:=Tryz.underlying57
 have hu23:=Tryz.underlying23
 have HB:=Z_ (Below.refl w.heap.size w)
 have H:((riff_Chunks.f k a0).bind fun bt102=>((wave_one.f bt102.1 (⟨#[102,109,116,32]⟩:ByteArray)).bind fun bt106=>((wave_one.f bt102.1 (⟨#[100,97,116,97]⟩:ByteArray)).bind fun bt108=>(if bt102.2=0 then (if bt106.2=true then (if bt108.2=true then (if bt108.1<bt106.1 then (wave_Parse.j0 k a0 bt102.1 bt106.1 bt108.1 true) else (if 0≤bt106.1 then (if bt106.1<(bt102.1.length:Int) then (wave_Parse.j0 k a0 bt102.1 bt106.1 bt108.1 (((rd_T116 bt102.1 bt106.1).f2) !=16)) else (none)) else (none))) else (wave_Parse.j0 k a0 bt102.1 bt106.1 bt108.1 true)) else (wave_Parse.j0 k a0 bt102.1 bt106.1 bt108.1 true)) else (wave_Parse.j0 k a0 bt102.1 bt106.1 bt108.1 true)))))=some (r1,r2,r3,r4,r5,r6):=h
 clear h
 replace H:=Option.bind_eq_some_iff.mp H
 obtain ⟨⟨t102,t103⟩,A20,H⟩:=H
 (try dsimp only at H)
 have A2:=Z_ A20
 clear A20
 replace H:=Option.bind_eq_some_iff.mp H
 obtain ⟨⟨t106,t107⟩,A30,H⟩:=H
 (try dsimp only at H)
 have A3:=Z_ A30
 clear A30
 replace H:=Option.bind_eq_some_iff.mp H
 obtain ⟨⟨t108,t109⟩,A40,H⟩:=H
 (try dsimp only at H)
 have A4:=Z_ A40
 clear A40
 have HC5:=Z_ H
 clear H
 go_enter Tryz.func24,Tryz.ntmps24
 go_upto_region 4 with (first | (refine X_ 2 #[.int .i64 0,.int .i64 0,.string (⟨#[]⟩:ByteArray),.string (⟨#[]⟩:ByteArray),.string (⟨#[]⟩:ByteArray)] 57 ?_;intro gb101 hg w6 hbox hb;have BK101:=Z_ (hbox);have GW101:=Z_ (G2_ hg:w.heap.size≤_);have GE101:=GW101;replace HB:=Hb_ hb;clear hb hbox hg) | (refine G_ 16 Tryz.func58 #[.string a0] ?_;refine (riff_Chunks.calls k a0 t102 t103 _ A2.out).mono ?_;rintro e w7 ⟨v104,rfl,ho0,hb⟩;refine ⟨_,rfl,?_⟩;have HO105:=Z_ (Kd.R_lower ho0 (below_size B_));replace BK101:=Z_ (blk_below (K_ BK101) hb);replace HB:=Hb_ hb;(try clear hb);(try clear ho0);obtain ⟨Ao8,co8,eo8⟩:=Kd.R_slice HO105.out;subst eo8) | (refine G_ 21 Tryz.func59 #[.slice Ao8 t102.length co8,.string (⟨#[102,109,116,32]⟩:ByteArray)] ?_;refine (wave_one.calls _ _ t102 (⟨#[102,109,116,32]⟩:ByteArray) t106 t107 _ (C_ (Kd.R_reads' HO105.out).2.2) ((Kd.R_reads' HO105.out).2.1) A3.out).mono ?_;rintro e w9 ⟨rfl,hb⟩;refine ⟨_,rfl,?_⟩;replace HO105:=Z_ (Kd.R_below (R_ HO105) hb);replace BK101:=Z_ (blk_below (K_ BK101) hb);replace HB:=Hb_ hb;(try clear hb)) | (refine G_ 26 Tryz.func59 #[.slice Ao8 t102.length co8,.string (⟨#[100,97,116,97]⟩:ByteArray)] ?_;refine (wave_one.calls _ _ t102 (⟨#[100,97,116,97]⟩:ByteArray) t108 t109 _ (C_ (Kd.R_reads' HO105.out).2.2) ((Kd.R_reads' HO105.out).2.1) A4.out).mono ?_;rintro e w10 ⟨rfl,hb⟩;refine ⟨_,rfl,?_⟩;replace HO105:=Z_ (Kd.R_below (R_ HO105) hb);replace BK101:=Z_ (blk_below (K_ BK101) hb);replace HB:=Hb_ hb;(try clear hb)))
 (try simp only [Act.put,List.setIfInBounds_toArray,List.set_cons_zero,List.set_cons_succ])
 go_cut [51] (fun v51 wc=>∃(kq:Nat) (x51_4:Bool),v51= .bool x51_4∧Aside0 (wave_Parse.j0 kq a0 t102 t106 t108 x51_4=some (r1,r2,r3,r4,r5,r6))∧Aside0 (kq≤k)∧Aside0 (Kd.R k116 116 wc w.heap.size (fun _=>True) (.slice Ao8 t102.length co8) t102)∧Aside0 (wc.heap[gb101]?=some (.cells #[.int .i64 0,.int .i64 0,.string (⟨#[]⟩:ByteArray),.string (⟨#[]⟩:ByteArray),.string (⟨#[]⟩:ByteArray)] 57 (0,0)))∧Aside0 (Below w.heap.size w wc))
 case first=>
  have H:=HC5.out
  clear HC5
  by_cases c11:t103=0
  ·rw [if_pos c11] at H
   have c11b0:(t103==0)=true:=beq_iff_eq.mpr c11
   have c11b1:(t103 !=0)=false:=bne_eq_false_iff_eq.mpr c11
   clear c11
   (first | rw [c11b0] | (simp only [i64_w,i32_w];rw [c11b0]) | skip)
   by_cases c12:t107=true
   ·subst c12
    rw [if_pos rfl] at H
    by_cases c13:t109=true
    ·subst c13
     rw [if_pos rfl] at H
     by_cases c14:t108<t106
     ·rw [if_pos c14] at H
      have c14b0:=decide_eq_true c14
      clear c14
      have H':=Z_ H
      clear H
      go_wp2
      go_meet
      case rel=>exact ⟨_,(true),(E1_),H',⟨L_⟩,⟨R_ HO105⟩,⟨by (with_reducible repeat (first | refine blk_drewN ?_ _ | refine blk_drew ?_ | refine blk_alloc ?_ _));exact BK101.out⟩,⟨B_⟩⟩
     ·rw [if_neg c14] at H
      have c14b0:=decide_eq_false c14
      clear c14
      by_cases c15:0≤t106
      ·rw [if_pos c15] at H
       have c15b0:=decide_eq_true c15
       clear c15
       by_cases c16:t106<(t102.length:Int)
       ·rw [if_pos c16] at H
        have c16b0:=decide_eq_true c16
        clear c16
        have H':=Z_ H
        clear H
        have p110:0≤(t106:Int):=of_decide_eq_true A_
        have q110:t106<(t102.length:Int):=of_decide_eq_true A_
        obtain ⟨ad110,e110,hx110_0,hx110_1,hx110_2⟩:=at_T116 (Kd.R_reads' HO105.out).2.2 t106 p110 q110
        cases e110
        replace p110:=eq_true p110
        replace q110:=eq_true q110
        go_wp2
        go_meet
        case rel=>exact ⟨_,((((rd_T116 t102 t106).f2) !=16)),(E1_),H',⟨L_⟩,⟨R_ HO105⟩,⟨by (with_reducible repeat (first | refine blk_drewN ?_ _ | refine blk_drew ?_ | refine blk_alloc ?_ _));exact BK101.out⟩,⟨B_⟩⟩
       ·rw [if_neg c16] at H
        exact absurd H (by simp)
      ·rw [if_neg c15] at H
       exact absurd H (by simp)
    ·replace c13:=Bool.eq_false_iff.mpr c13
     subst c13
     rw [if_neg (show ¬(false=true) by decide)] at H
     have H':=Z_ H
     clear H
     go_wp2
     go_meet
     case rel=>exact ⟨_,(true),(E1_),H',⟨L_⟩,⟨R_ HO105⟩,⟨by (with_reducible repeat (first | refine blk_drewN ?_ _ | refine blk_drew ?_ | refine blk_alloc ?_ _));exact BK101.out⟩,⟨B_⟩⟩
   ·replace c12:=Bool.eq_false_iff.mpr c12
    subst c12
    rw [if_neg (show ¬(false=true) by decide)] at H
    have H':=Z_ H
    clear H
    go_wp2
    go_meet
    case rel=>exact ⟨_,(true),(E1_),H',⟨L_⟩,⟨R_ HO105⟩,⟨by (with_reducible repeat (first | refine blk_drewN ?_ _ | refine blk_drew ?_ | refine blk_alloc ?_ _));exact BK101.out⟩,⟨B_⟩⟩
  ·rw [if_neg c11] at H
   have c11b0:(t103==0)=false:=beq_eq_false_iff_ne.mpr c11
   have c11b1:(t103 !=0)=true:=bne_iff_ne.mpr c11
   (first | rw [c11b0] | (simp only [i64_w,i32_w];rw [c11b0]) | skip)
   have H':=Z_ H
   clear H
   go_wp2
   go_meet
   case rel=>exact ⟨_,(true),(E1_),H',⟨L_⟩,⟨R_ HO105⟩,⟨by (with_reducible repeat (first | refine blk_drewN ?_ _ | refine blk_drew ?_ | refine blk_alloc ?_ _));exact BK101.out⟩,⟨B_⟩⟩
 case rest=>
  clear HC5
  try clear c1
  try clear p1
  try clear q1
  try clear hx1
  try clear c2
  try clear p2
  try clear c5
  try clear c11
  try clear c11b0
  try clear c11b1
  try clear p11
  try clear q11
  try clear hx11
  try clear c12
  try clear c13
  try clear c14
  try clear c14b0
  try clear c15
  try clear c15b0
  try clear c16
  try clear c16b0
  try clear hx110_0
  try clear hx110_1
  try clear hx110_2
  try clear p110
  try clear q110
  obtain ⟨kq,x51_4,rfl,HA,HJ4,HO_4,BK101,HB⟩:=hcut
  cases kq with
  | zero=>exact absurd HA.out (by simp [wave_Parse.j0])
  | succ kj4=>
   have H:=HA.out
   clear HA
   simp only [wave_Parse.j0] at H
   by_cases c17:x51_4=true
   ·subst c17
    rw [if_pos rfl] at H
    simp only [Option.some.injEq,Prod.mk.injEq] at H
    obtain ⟨rfl,rfl,rfl,rfl,rfl,rfl⟩:=H
    have hcz18_0:=cz_ BK101 0
    have hcz18_1:=cz_ BK101 1
    have hcz18_2:=cz_ BK101 2
    have hcz18_3:=cz_ BK101 3
    have hcz18_4:=cz_ BK101 4
    have hfz18_0:=fz_ BK101 0
    have hfz18_1:=fz_ BK101 1
    have hfz18_2:=fz_ BK101 2
    have hfz18_3:=fz_ BK101 3
    have hfz18_4:=fz_ BK101 4
    go_wp2
    refine bodyPost_ret (results_ct rfl _ _ gb101 57 #[.int .i64 0,.int .i64 0,.string (⟨#[]⟩:ByteArray),.string (⟨#[]⟩:ByteArray),.string (⟨#[]⟩:ByteArray)] (0,0) _ rfl (by (with_reducible repeat (first | refine blk_drewN ?_ _ | refine blk_drew ?_ | refine blk_alloc ?_ _));refine blk_put (cs:= #[.int .i64 0,.int .i64 0,.string (⟨#[]⟩:ByteArray),.string (⟨#[]⟩:ByteArray),.string (⟨#[]⟩:ByteArray)]) ?_ 4 _ rfl;(with_reducible repeat (first | refine blk_drewN ?_ _ | refine blk_drew ?_ | refine blk_alloc ?_ _));refine blk_put (cs:= #[.int .i64 0,.int .i64 0,.string (⟨#[]⟩:ByteArray),.string (⟨#[]⟩:ByteArray),.string (⟨#[]⟩:ByteArray)]) ?_ 3 _ rfl;(with_reducible repeat (first | refine blk_drewN ?_ _ | refine blk_drew ?_ | refine blk_alloc ?_ _));refine blk_put (cs:= #[.int .i64 0,.int .i64 0,.string (⟨#[]⟩:ByteArray),.string (⟨#[]⟩:ByteArray),.string (⟨#[]⟩:ByteArray)]) ?_ 2 _ rfl;(with_reducible repeat (first | refine blk_drewN ?_ _ | refine blk_drew ?_ | refine blk_alloc ?_ _));refine blk_put (cs:= #[.int .i64 0,.int .i64 0,.string (⟨#[]⟩:ByteArray),.string (⟨#[]⟩:ByteArray),.string (⟨#[]⟩:ByteArray)]) ?_ 1 _ rfl;(with_reducible repeat (first | refine blk_drewN ?_ _ | refine blk_drew ?_ | refine blk_alloc ?_ _));refine blk_put (cs:= #[.int .i64 0,.int .i64 0,.string (⟨#[]⟩:ByteArray),.string (⟨#[]⟩:ByteArray),.string (⟨#[]⟩:ByteArray)]) ?_ 0 _ rfl;(with_reducible repeat (first | refine blk_drewN ?_ _ | refine blk_drew ?_ | refine blk_alloc ?_ _));exact BK101.out) Tryz.underlying57 rfl (by kernel_rfl)) rfl ?_
    exact ⟨E_,B_⟩
   ·replace c17:=Bool.eq_false_iff.mpr c17
    subst c17
    rw [if_neg (show ¬(false=true) by decide)] at H
    by_cases c19:0≤t106
    ·rw [if_pos c19] at H
     have c19b0:=decide_eq_true c19
     clear c19
     by_cases c20:t106<(t102.length:Int)
     ·rw [if_pos c20] at H
      have c20b0:=decide_eq_true c20
      clear c20
      by_cases c21:0≤((rd_T116 t102 t106).f1)
      ·rw [if_pos c21] at H
       have c21b0:=eq_true c21
       have c21b1:=decide_eq_true c21
       clear c21
       by_cases c22:((rd_T116 t102 t106).f1)≤(wrap64 (((rd_T116 t102 t106).f1)+16))
       ·rw [if_pos c22] at H
        have c22b0:=eq_true c22
        have c22b1:=decide_eq_true c22
        by_cases c23:(wrap64 (((rd_T116 t102 t106).f1)+16))≤(a0.size:Int)
        ·rw [if_pos c23] at H
         have c23b0:=eq_true c23
         have c23b1:=decide_eq_true c23
         replace H:=Option.bind_eq_some_iff.mp H
         obtain ⟨⟨t113,t114,t115⟩,A240,H⟩:=H
         (try dsimp only at H)
         have A24:=Z_ A240
         clear A240
         by_cases c25:0≤t108
         ·rw [if_pos c25] at H
          have c25b0:=decide_eq_true c25
          clear c25
          by_cases c26:t108<(t102.length:Int)
          ·rw [if_pos c26] at H
           have c26b0:=decide_eq_true c26
           clear c26
           by_cases c27:0≤((rd_T116 t102 t108).f1)
           ·rw [if_pos c27] at H
            have c27b0:=eq_true c27
            have c27b1:=decide_eq_true c27
            clear c27
            by_cases c28:((rd_T116 t102 t108).f1)≤(wrap64 (((rd_T116 t102 t108).f1)+((rd_T116 t102 t108).f2)))
            ·rw [if_pos c28] at H
             have c28b0:=eq_true c28
             have c28b1:=decide_eq_true c28
             by_cases c29:(wrap64 (((rd_T116 t102 t108).f1)+((rd_T116 t102 t108).f2)))≤(a0.size:Int)
             ·rw [if_pos c29] at H
              have c29b0:=eq_true c29
              have c29b1:=decide_eq_true c29
              by_cases c30:t115=true
              ·subst c30
               rw [if_pos rfl] at H
               replace H:=Option.bind_eq_some_iff.mp H
               obtain ⟨t119,A310,H⟩:=H
               (try dsimp only at H)
               have A31:=Z_ A310
               clear A310
               by_cases c32:t119=true
               ·subst c32
                rw [if_pos rfl] at H
                have c33b0:=eq_true (of_decide_eq_true A_:0≤((rd_T116 t102 t108).f1))
                by_cases c34:((rd_T116 t102 t108).f1)≤(a0.size:Int)
                ·rw [if_pos c34] at H
                 have c34b0:=eq_true c34
                 have c34b1:=decide_eq_true c34
                 clear c34
                 obtain ⟨ji35,hji35⟩:∃j_:Int,(wrap64 (((rd_T116 t102 t108).f1)+((a0.extract (((rd_T116 t102 t108).f1):Int).toNat ((wrap64 (((rd_T116 t102 t108).f1)+((rd_T116 t102 t108).f2))):Int).toNat).size:Int)))=j_:=⟨_,rfl⟩
                 (first | rw [hji35] at H | simp only [hji35] at H)
                 (try rw [hji35] at A24)
                 (try rw [hji35] at A31)
                 have hji35w:(IntKind.i64.wrap (((rd_T116 t102 t108).f1)+((a0.extract (((rd_T116 t102 t108).f1):Int).toNat ((wrap64 (((rd_T116 t102 t108).f1)+((rd_T116 t102 t108).f2))):Int).toNat).size:Int)))=ji35:=(i64_w _).trans hji35
                 by_cases c36:0≤(ji35)
                 ·rw [if_pos c36] at H
                  have c36b0:=eq_true c36
                  have c36b1:=decide_eq_true c36
                  clear c36
                  by_cases c37:(ji35)≤(a0.size:Int)
                  ·rw [if_pos c37] at H
                   have c37b0:=eq_true c37
                   have c37b1:=decide_eq_true c37
                   clear c37
                   simp only [Option.some.injEq,Prod.mk.injEq] at H
                   obtain ⟨rfl,rfl,rfl,rfl,rfl,rfl⟩:=H
                   try go_wp2
                   replace HO_4:=Z_ (Kd.R_drew HO_4.out)
                   replace BK101:=Z_ (blk_drew BK101.out)
                   replace HB:=Z_ (below_drew1 HB.out)
                   have p111:0≤(t106:Int):=of_decide_eq_true A_
                   have q111:t106<(t102.length:Int):=of_decide_eq_true A_
                   obtain ⟨ad111,e111,hx111_0,hx111_1,hx111_2⟩:=at_T116 (Kd.R_reads' HO_4.out).2.2 t106 p111 q111
                   cases e111
                   replace p111:=eq_true p111
                   replace q111:=eq_true q111
                   have p112:0≤(t106:Int):=of_decide_eq_true A_
                   have q112:t106<(t102.length:Int):=of_decide_eq_true A_
                   obtain ⟨ad112,e112,hx112_0,hx112_1,hx112_2⟩:=at_T116 (Kd.R_reads' HO_4.out).2.2 t106 p112 q112
                   obtain rfl:ad111=ad112:=(by injection e112)
                   replace p112:=eq_true p112
                   replace q112:=eq_true q112
                   refine start_ (n:=20) (S:=fun w'=>w'.cell? (ad111.add ((t106).toNat*3))=some (.string ((rd_T116 t102 t106).f0))∧w'.cell? ⟨(ad111.add ((t106).toNat*3)).block,(ad111.add ((t106).toNat*3)).off+1,none⟩=some (.int .i64 ((rd_T116 t102 t106).f1))∧w'.cell? ⟨(ad111.add ((t106).toNat*3)).block,(ad111.add ((t106).toNat*3)).off+2,none⟩=some (.int .i64 ((rd_T116 t102 t106).f2))∧w'.cell? (ad111.add ((t106).toNat*3))=some (.string ((rd_T116 t102 t106).f0))∧w'.cell? ⟨(ad111.add ((t106).toNat*3)).block,(ad111.add ((t106).toNat*3)).off+1,none⟩=some (.int .i64 ((rd_T116 t102 t106).f1))∧w'.cell? ⟨(ad111.add ((t106).toNat*3)).block,(ad111.add ((t106).toNat*3)).off+2,none⟩=some (.int .i64 ((rd_T116 t102 t106).f2))) (ds:= []) #[false,false,false,false,false,false,false,false,false,false,false,false,false,false,false,false,false,false,false,false] (by kernel_rfl) rfl rfl ⟨hx111_0,hx111_1,hx111_2,hx112_0,hx112_1,hx112_2⟩ (fun hHeld=>?_);refine with_tabW wave_Parse.tab6 wave_Parse.bits6 (fun HT_ HW_=>?_)
                   generalize wc.drew=w38 at HO_4 BK101 HB hx111_0 hx111_1 hx111_2 hx112_0 hx112_1 hx112_2 hHeld ⊢
                   refine P_ 0 54 ?_
                   refine P_ 1 55 ?_
                   refine P_ 2 56 ?_
                   refine P_ 3 57 ?_
                   refine P_ 4 58 ?_
                   refine P_ 6 60 ?_
                   refine P_ 7 61 ?_
                   refine P_ 8 62 ?_
                   refine P_ 9 63 ?_
                   refine T_ 5 59 (y:=by rintro w' ⟨s0,s1,s2,s3,s4,s5⟩;go_simp;with_reducible rfl) (h:=?_)
                   refine T_ 10 64 (y:=by rintro w' ⟨s0,s1,s2,s3,s4,s5⟩;go_simp;with_reducible rfl) (h:=?_)
                   refine P_ 11 65 ?_
                   refine P_ 12 66 ?_
                   refine join_ (σ:=Nat) 2 #[true,true,true,true,true,true,true,true,true,true,true,true,true,true,true,true,true,true,false,false] (fun s_=> [(67,.tuple #[.agg #[.int .i64 t113,.int .i64 t114],.bool true]),(10,.pointer (some ⟨s_,0,none⟩)),(53,.tuple #[.agg #[.int .i64 t113,.int .i64 t114],.bool true]),(68,.agg #[.int .i64 t113,.int .i64 t114]),(69,.bool true)]) (fun s_ w'=>(w'.cell? (ad111.add ((t106).toNat*3))=some (.string ((rd_T116 t102 t106).f0))∧w'.cell? ⟨(ad111.add ((t106).toNat*3)).block,(ad111.add ((t106).toNat*3)).off+1,none⟩=some (.int .i64 ((rd_T116 t102 t106).f1))∧w'.cell? ⟨(ad111.add ((t106).toNat*3)).block,(ad111.add ((t106).toNat*3)).off+2,none⟩=some (.int .i64 ((rd_T116 t102 t106).f2))∧w'.cell? (ad111.add ((t106).toNat*3))=some (.string ((rd_T116 t102 t106).f0))∧w'.cell? ⟨(ad111.add ((t106).toNat*3)).block,(ad111.add ((t106).toNat*3)).off+1,none⟩=some (.int .i64 ((rd_T116 t102 t106).f1))∧w'.cell? ⟨(ad111.add ((t106).toNat*3)).block,(ad111.add ((t106).toNat*3)).off+2,none⟩=some (.int .i64 ((rd_T116 t102 t106).f2)))∧(Kd.R k116 116 w' w.heap.size (fun _=>True) (.slice (some ad111) t102.length co8) t102)∧(w'.heap[gb101]?=some (.cells #[.int .i64 0,.int .i64 0,.string (⟨#[]⟩:ByteArray),.string (⟨#[]⟩:ByteArray),.string (⟨#[]⟩:ByteArray)] 57 (0,0)))∧(w'.heap[s_]?=some (.cells #[.int .i64 0,.int .i64 0] 23 (0,0)))∧(w.heap.size≤s_)∧(w.heap.size≤s_)∧(gb101≠s_)∧(s_≠gb101)∧(Below w.heap.size w w')) ?_ ?_
                   rotate_left
                   ·intro hCont
                    refine two_ (i:=13) (j:=17) (Ni:=some 67) (Nj:=some 10) #[true,true,true,true,true,true,true,true,true,true,true,true,true,true,false,false,false,false,false,false] #[true,true,true,true,true,true,true,true,true,true,true,true,true,false,false,false,false,true,false,false] rfl rfl rfl rfl (two_of HT_.out (by kernel_rfl)) (by decide) (by decide) (fun K hK=>?_) (fun K hK=>?_)
                    ·skip
                     refine g_ Tryz.func60 #[.string (a0.extract (((rd_T116 t102 t106).f1):Int).toNat ((wrap64 (((rd_T116 t102 t106).f1)+16)):Int).toNat)] ?_
                     with_reducible refine (wave_format.calls kj4 (a0.extract (((rd_T116 t102 t106).f1):Int).toNat ((wrap64 (((rd_T116 t102 t106).f1)+16)):Int).toNat) t113 t114 true _ A24.out).mono ?_
                     rintro e w39 ⟨rfl,hb⟩
                     have HS0_:=(hb.cell (World.block_lt_of_cell? _ _ (hHeld.1))).trans (hHeld.1)
                     have HS1_:=(hb.cell (World.block_lt_of_cell? _ _ (hHeld.2.1))).trans (hHeld.2.1)
                     have HS2_:=(hb.cell (World.block_lt_of_cell? _ _ (hHeld.2.2.1))).trans (hHeld.2.2.1)
                     have HS3_:=(hb.cell (World.block_lt_of_cell? _ _ (hHeld.2.2.2.1))).trans (hHeld.2.2.2.1)
                     have HS4_:=(hb.cell (World.block_lt_of_cell? _ _ (hHeld.2.2.2.2.1))).trans (hHeld.2.2.2.2.1)
                     have HS5_:=(hb.cell (World.block_lt_of_cell? _ _ (hHeld.2.2.2.2.2))).trans (hHeld.2.2.2.2.2)
                     refine ⟨_,rfl,?_⟩
                     replace HO_4:=Z_ (Kd.R_below (R_ HO_4) hb)
                     replace BK101:=Z_ (blk_below (K_ BK101) hb)
                     replace HB:=Hb_ hb
                     (try clear hb)
                     (try clear hb2)
                     (try clear hk)
                     (try clear hi)
                     refine hK.out _ _ ⟨HS0_,HS1_,HS2_,HS3_,HS4_,HS5_⟩ (fun hHeld=>?_)
                     clear hK K
                     refine Nm_ 67 ?_
                     refine P_ 14 53 ?_
                     refine P_ 15 68 ?_
                     refine P_ 16 69 ?_
                     refine O_ 17 10 fun K hK=>?_
                     refine box_step ?hg (N:=10) ?hd (cs:= #[.int .i64 0,.int .i64 0]) (t:=23) ?hr ?_;(case hd=>rfl);(case hg=>rfl);(case hr=>first | (go_simp;done) | (go_simp;rfl))
                     intro gb116 hg w40 hbox hb
                     have HS0_:=(hb.cell (World.block_lt_of_cell? _ _ (hHeld.1))).trans (hHeld.1)
                     have HS1_:=(hb.cell (World.block_lt_of_cell? _ _ (hHeld.2.1))).trans (hHeld.2.1)
                     have HS2_:=(hb.cell (World.block_lt_of_cell? _ _ (hHeld.2.2.1))).trans (hHeld.2.2.1)
                     have HS3_:=(hb.cell (World.block_lt_of_cell? _ _ (hHeld.2.2.2.1))).trans (hHeld.2.2.2.1)
                     have HS4_:=(hb.cell (World.block_lt_of_cell? _ _ (hHeld.2.2.2.2.1))).trans (hHeld.2.2.2.2.1)
                     have HS5_:=(hb.cell (World.block_lt_of_cell? _ _ (hHeld.2.2.2.2.2))).trans (hHeld.2.2.2.2.2)
                     replace HO_4:=Z_ (Kd.R_below (R_ HO_4) hb)
                     have BK116:=Z_ (hbox)
                     have GW116:=Z_ ((G2_ hg:w.heap.size≤_))
                     have GE116:=Z_ ((G2_ hg:w.heap.size≤_))
                     replace HB:=Hb_ hb
                     have NB101_116:=Z_ ((by rw [hg];exact Nat.ne_of_lt (blk_lt (g:=gb101) (o:= .cells #[.int .i64 0,.int .i64 0,.string (⟨#[]⟩:ByteArray),.string (⟨#[]⟩:ByteArray),.string (⟨#[]⟩:ByteArray)] 57 (0,0)) (K_ BK101)):gb101≠gb116))
                     have NB116_101:=Z_ ((by rw [hg];exact Nat.ne_of_gt (blk_lt (g:=gb101) (o:= .cells #[.int .i64 0,.int .i64 0,.string (⟨#[]⟩:ByteArray),.string (⟨#[]⟩:ByteArray),.string (⟨#[]⟩:ByteArray)] 57 (0,0)) (K_ BK101)):gb116≠gb101))
                     replace BK101:=Z_ (blk_below (K_ BK101) hb)
                     clear hb hbox hg
                     refine hK.out _ _ ⟨HS0_,HS1_,HS2_,HS3_,HS4_,HS5_⟩ (fun hHeld=>?_)
                     clear hK K
                     refine Nm_ 10 ?_
                     exact norm_ (by simp only [putAll,Act.put,List.setIfInBounds_toArray,List.set_cons_zero,List.set_cons_succ]) (hCont (gb116) _ ⟨hHeld,(R_ HO_4),(K_ BK101),(K_ BK116),GW116.out,GE116.out,NB101_116.out,NB116_101.out,B_⟩)
                    ·skip
                     refine box_step ?hg (N:=10) ?hd (cs:= #[.int .i64 0,.int .i64 0]) (t:=23) ?hr ?_;(case hd=>rfl);(case hg=>rfl);(case hr=>first | (go_simp;done) | (go_simp;rfl))
                     intro gb116 hg w39 hbox hb
                     have HS0_:=(hb.cell (World.block_lt_of_cell? _ _ (hHeld.1))).trans (hHeld.1)
                     have HS1_:=(hb.cell (World.block_lt_of_cell? _ _ (hHeld.2.1))).trans (hHeld.2.1)
                     have HS2_:=(hb.cell (World.block_lt_of_cell? _ _ (hHeld.2.2.1))).trans (hHeld.2.2.1)
                     have HS3_:=(hb.cell (World.block_lt_of_cell? _ _ (hHeld.2.2.2.1))).trans (hHeld.2.2.2.1)
                     have HS4_:=(hb.cell (World.block_lt_of_cell? _ _ (hHeld.2.2.2.2.1))).trans (hHeld.2.2.2.2.1)
                     have HS5_:=(hb.cell (World.block_lt_of_cell? _ _ (hHeld.2.2.2.2.2))).trans (hHeld.2.2.2.2.2)
                     replace HO_4:=Z_ (Kd.R_below (R_ HO_4) hb)
                     have BK116:=Z_ (hbox)
                     have GW116:=Z_ ((G2_ hg:w.heap.size≤_))
                     have GE116:=Z_ ((G2_ hg:w.heap.size≤_))
                     replace HB:=Hb_ hb
                     have NB101_116:=Z_ ((by rw [hg];exact Nat.ne_of_lt (blk_lt (g:=gb101) (o:= .cells #[.int .i64 0,.int .i64 0,.string (⟨#[]⟩:ByteArray),.string (⟨#[]⟩:ByteArray),.string (⟨#[]⟩:ByteArray)] 57 (0,0)) (K_ BK101)):gb101≠gb116))
                     have NB116_101:=Z_ ((by rw [hg];exact Nat.ne_of_gt (blk_lt (g:=gb101) (o:= .cells #[.int .i64 0,.int .i64 0,.string (⟨#[]⟩:ByteArray),.string (⟨#[]⟩:ByteArray),.string (⟨#[]⟩:ByteArray)] 57 (0,0)) (K_ BK101)):gb116≠gb101))
                     replace BK101:=Z_ (blk_below (K_ BK101) hb)
                     clear hb hbox hg
                     refine hK.out _ _ ⟨HS0_,HS1_,HS2_,HS3_,HS4_,HS5_⟩ (fun hHeld=>?_)
                     clear hK K
                     refine Nm_ 10 ?_
                     refine O_ 13 67 fun K hK=>?_
                     refine g_ Tryz.func60 #[.string (a0.extract (((rd_T116 t102 t106).f1):Int).toNat ((wrap64 (((rd_T116 t102 t106).f1)+16)):Int).toNat)] ?_
                     with_reducible refine (wave_format.calls kj4 (a0.extract (((rd_T116 t102 t106).f1):Int).toNat ((wrap64 (((rd_T116 t102 t106).f1)+16)):Int).toNat) t113 t114 true _ A24.out).mono ?_
                     rintro e w40 ⟨rfl,hb⟩
                     have HS0_:=(hb.cell (World.block_lt_of_cell? _ _ (hHeld.1))).trans (hHeld.1)
                     have HS1_:=(hb.cell (World.block_lt_of_cell? _ _ (hHeld.2.1))).trans (hHeld.2.1)
                     have HS2_:=(hb.cell (World.block_lt_of_cell? _ _ (hHeld.2.2.1))).trans (hHeld.2.2.1)
                     have HS3_:=(hb.cell (World.block_lt_of_cell? _ _ (hHeld.2.2.2.1))).trans (hHeld.2.2.2.1)
                     have HS4_:=(hb.cell (World.block_lt_of_cell? _ _ (hHeld.2.2.2.2.1))).trans (hHeld.2.2.2.2.1)
                     have HS5_:=(hb.cell (World.block_lt_of_cell? _ _ (hHeld.2.2.2.2.2))).trans (hHeld.2.2.2.2.2)
                     refine ⟨_,rfl,?_⟩
                     replace HO_4:=Z_ (Kd.R_below (R_ HO_4) hb)
                     replace BK101:=Z_ (blk_below (K_ BK101) hb)
                     replace BK116:=Z_ (blk_below (K_ BK116) hb)
                     replace HB:=Hb_ hb
                     (try clear hb)
                     (try clear hb2)
                     (try clear hk)
                     (try clear hi)
                     refine hK.out _ _ ⟨HS0_,HS1_,HS2_,HS3_,HS4_,HS5_⟩ (fun hHeld=>?_)
                     clear hK K
                     refine Nm_ 67 ?_
                     refine P_ 14 53 ?_
                     refine P_ 15 68 ?_
                     refine P_ 16 69 ?_
                     exact norm_ (by simp only [putAll,Act.put,List.setIfInBounds_toArray,List.set_cons_zero,List.set_cons_succ]) (hCont (gb116) _ ⟨hHeld,(R_ HO_4),(K_ BK101),(K_ BK116),GW116.out,GE116.out,NB101_116.out,NB116_101.out,B_⟩)
                   rintro gb116 w41 ⟨hS_,h0_,h1_,h2_,h3_,h4_,h5_,h6_,h7_⟩
                   have n0_:Aside0 (Kd.R k116 116 w41 w.heap.size (fun _=>True) (.slice (some ad111) t102.length co8) t102):=⟨h0_⟩
                   have n1_:Aside0 (w41.heap[gb101]?=some (.cells #[.int .i64 0,.int .i64 0,.string (⟨#[]⟩:ByteArray),.string (⟨#[]⟩:ByteArray),.string (⟨#[]⟩:ByteArray)] 57 (0,0))):=⟨h1_⟩
                   have n2_:Aside0 (w41.heap[gb116]?=some (.cells #[.int .i64 0,.int .i64 0] 23 (0,0))):=⟨h2_⟩
                   have n3_:Aside0 (w.heap.size≤gb116):=⟨h3_⟩
                   have n4_:Aside0 (w.heap.size≤gb116):=⟨h4_⟩
                   have n5_:Aside0 (gb101≠gb116):=⟨h5_⟩
                   have n6_:Aside0 (gb116≠gb101):=⟨h6_⟩
                   have n7_:Aside0 (Below w.heap.size w w41):=⟨h7_⟩
                   clear HO_4
                   clear BK101
                   clear HB
                   clear h0_ h1_ h2_ h3_ h4_ h5_ h6_ h7_
                   have HO_4:=n0_
                   have BK101:=n1_
                   have BK116:=n2_
                   have GW116:=n3_
                   have GE116:=n4_
                   have NB101_116:=n5_
                   have NB116_101:=n6_
                   have HB:=n7_
                   clear n0_ n1_ n2_ n3_ n4_ n5_ n6_ n7_
                   have hHeld:w41.cell? (ad111.add ((t106).toNat*3))=some (.string ((rd_T116 t102 t106).f0))∧w41.cell? ⟨(ad111.add ((t106).toNat*3)).block,(ad111.add ((t106).toNat*3)).off+1,none⟩=some (.int .i64 ((rd_T116 t102 t106).f1))∧w41.cell? ⟨(ad111.add ((t106).toNat*3)).block,(ad111.add ((t106).toNat*3)).off+2,none⟩=some (.int .i64 ((rd_T116 t102 t106).f2))∧w41.cell? (ad111.add ((t106).toNat*3))=some (.string ((rd_T116 t102 t106).f0))∧w41.cell? ⟨(ad111.add ((t106).toNat*3)).block,(ad111.add ((t106).toNat*3)).off+1,none⟩=some (.int .i64 ((rd_T116 t102 t106).f1))∧w41.cell? ⟨(ad111.add ((t106).toNat*3)).block,(ad111.add ((t106).toNat*3)).off+2,none⟩=some (.int .i64 ((rd_T116 t102 t106).f2)):=hS_
                   refine norm_ (a':=?_) ?_ ?_
                   rotate_left
                   ·simp only [putAll,Act.put,List.setIfInBounds_toArray,List.set_cons_zero,List.set_cons_succ]
                    rfl
                   refine one_ (i:=18) (N:=none) #[true,true,true,true,true,true,true,true,true,true,true,true,true,true,true,true,true,true,true,false] rfl rfl (one_of HT_.out (by kernel_rfl)) (by decide) (fun K hK=>?_)
                   have hs42:w41.cell? ⟨gb116,0,none⟩=some (.int .i64 0):=(blk_cell BK116.out 0).trans rfl
                   have hfs42:=blk_frozen BK116.out 0
                   have hns42_0:=NB101_116.out
                   have hms42_0:=NB116_101.out
                   have hs43:w41.cell? ⟨gb116,1,none⟩=some (.int .i64 0):=(blk_cell BK116.out 1).trans rfl
                   have hfs43:=blk_frozen BK116.out 1
                   have hns43_0:=NB101_116.out
                   have hms43_0:=NB116_101.out
                   refine skip_ (w1:=?_) (by rfl) rfl ?_ ?_
                   rotate_left
                   ·go_simp
                    rfl
                   refine hK.out _ _ ⟨((cell_far (p:=⟨gb116,_,none⟩) (by exact Wb_ (Kd.own_blk (Kd.R_ne HO_4.out BK116.out (by decide)))) _).trans (((cell_far (p:=⟨gb116,_,none⟩) (by exact Wb_ (Kd.own_blk (Kd.R_ne HO_4.out BK116.out (by decide)))) _).trans (hHeld.1)))),((cell_far (p:=⟨gb116,_,none⟩) (by exact Wb_ (Kd.own_blk (Kd.R_ne HO_4.out BK116.out (by decide)))) _).trans (((cell_far (p:=⟨gb116,_,none⟩) (by exact Wb_ (Kd.own_blk (Kd.R_ne HO_4.out BK116.out (by decide)))) _).trans (hHeld.2.1)))),((cell_far (p:=⟨gb116,_,none⟩) (by exact Wb_ (Kd.own_blk (Kd.R_ne HO_4.out BK116.out (by decide)))) _).trans (((cell_far (p:=⟨gb116,_,none⟩) (by exact Wb_ (Kd.own_blk (Kd.R_ne HO_4.out BK116.out (by decide)))) _).trans (hHeld.2.2.1)))),((cell_far (p:=⟨gb116,_,none⟩) (by exact Wb_ (Kd.own_blk (Kd.R_ne HO_4.out BK116.out (by decide)))) _).trans (((cell_far (p:=⟨gb116,_,none⟩) (by exact Wb_ (Kd.own_blk (Kd.R_ne HO_4.out BK116.out (by decide)))) _).trans (hHeld.2.2.2.1)))),((cell_far (p:=⟨gb116,_,none⟩) (by exact Wb_ (Kd.own_blk (Kd.R_ne HO_4.out BK116.out (by decide)))) _).trans (((cell_far (p:=⟨gb116,_,none⟩) (by exact Wb_ (Kd.own_blk (Kd.R_ne HO_4.out BK116.out (by decide)))) _).trans (hHeld.2.2.2.2.1)))),((cell_far (p:=⟨gb116,_,none⟩) (by exact Wb_ (Kd.own_blk (Kd.R_ne HO_4.out BK116.out (by decide)))) _).trans (((cell_far (p:=⟨gb116,_,none⟩) (by exact Wb_ (Kd.own_blk (Kd.R_ne HO_4.out BK116.out (by decide)))) _).trans (hHeld.2.2.2.2.2))))⟩ (fun hHeld=>?_)
                   clear hK K
                   refine P_ 19 11 ?_
                   refine done_ (done_of HT_.out (by kernel_rfl)) ?_
                   have p117:0≤(t108:Int):=of_decide_eq_true A_
                   have q117:t108<(t102.length:Int):=of_decide_eq_true A_
                   obtain ⟨ad117,e117,hx117_0,hx117_1,hx117_2⟩:=at_T116 (Kd.R_reads' HO_4.out).2.2 t108 p117 q117
                   obtain rfl:ad111=ad117:=(by injection e117)
                   have hn117_0:ad111.block≠gb116:=Kd.own_blk (Kd.R_ne HO_4.out BK116.out (by decide))
                   have hn117_1:ad111.block≠gb116:=Kd.own_blk (Kd.R_ne HO_4.out BK116.out (by decide))
                   replace hx117_0:=(cell_far (p:=⟨gb116,0,none⟩) (by exact Wb_ hn117_0) (.int .i64 t113)).trans hx117_0
                   replace hx117_1:=(cell_far (p:=⟨gb116,0,none⟩) (by exact Wb_ hn117_0) (.int .i64 t113)).trans hx117_1
                   replace hx117_2:=(cell_far (p:=⟨gb116,0,none⟩) (by exact Wb_ hn117_0) (.int .i64 t113)).trans hx117_2
                   replace hx117_0:=(cell_far (p:=⟨gb116,1,none⟩) (by exact Wb_ hn117_1) (.int .i64 t114)).trans hx117_0
                   replace hx117_1:=(cell_far (p:=⟨gb116,1,none⟩) (by exact Wb_ hn117_1) (.int .i64 t114)).trans hx117_1
                   replace hx117_2:=(cell_far (p:=⟨gb116,1,none⟩) (by exact Wb_ hn117_1) (.int .i64 t114)).trans hx117_2
                   clear hn117_0
                   clear hn117_1
                   replace p117:=eq_true p117
                   replace q117:=eq_true q117
                   have p118:0≤(t108:Int):=of_decide_eq_true A_
                   have q118:t108<(t102.length:Int):=of_decide_eq_true A_
                   obtain ⟨ad118,e118,hx118_0,hx118_1,hx118_2⟩:=at_T116 (Kd.R_reads' HO_4.out).2.2 t108 p118 q118
                   obtain rfl:ad111=ad118:=(by injection e118)
                   have hn118_0:ad111.block≠gb116:=Kd.own_blk (Kd.R_ne HO_4.out BK116.out (by decide))
                   have hn118_1:ad111.block≠gb116:=Kd.own_blk (Kd.R_ne HO_4.out BK116.out (by decide))
                   replace hx118_0:=(cell_far (p:=⟨gb116,0,none⟩) (by exact Wb_ hn118_0) (.int .i64 t113)).trans hx118_0
                   replace hx118_1:=(cell_far (p:=⟨gb116,0,none⟩) (by exact Wb_ hn118_0) (.int .i64 t113)).trans hx118_1
                   replace hx118_2:=(cell_far (p:=⟨gb116,0,none⟩) (by exact Wb_ hn118_0) (.int .i64 t113)).trans hx118_2
                   replace hx118_0:=(cell_far (p:=⟨gb116,1,none⟩) (by exact Wb_ hn118_1) (.int .i64 t114)).trans hx118_0
                   replace hx118_1:=(cell_far (p:=⟨gb116,1,none⟩) (by exact Wb_ hn118_1) (.int .i64 t114)).trans hx118_1
                   replace hx118_2:=(cell_far (p:=⟨gb116,1,none⟩) (by exact Wb_ hn118_1) (.int .i64 t114)).trans hx118_2
                   clear hn118_0
                   clear hn118_1
                   replace p118:=eq_true p118
                   replace q118:=eq_true q118
                   have hnb44:=NB116_101.out
                   have hnc44:=NB101_116.out
                   have hcz45_0:=cz_ BK116 0
                   have hcz45_1:=cz_ BK116 1
                   have hfz45_0:=fz_ BK116 0
                   have hfz45_1:=fz_ BK116 1
                   try go_wp2_with (first | (go_at_call 61;refine (pcm_Frames.calls (a0.extract (((rd_T116 t102 t108).f1):Int).toNat ((wrap64 (((rd_T116 t102 t108).f1)+((rd_T116 t102 t108).f2))):Int).toNat) t113 t114 true _ A31.out).mono ?_;rintro e w46 ⟨rfl,hb⟩;replace HO_4:=Z_ (Kd.R_below (by (with_reducible repeat (first | apply Kd.R_alloc | apply Kd.R_drewN | apply Kd.R_drew));exact (Kd.R_mono (Kd.R_far (p:=⟨gb116,1,none⟩) (Kd.R_far (p:=⟨gb116,0,none⟩) (Kd.R_types HO_4.out BK116.out (by decide)) (fun _ hk=>hk.2) (.int .i64 t113)) (fun _ hk=>hk.2) (.int .i64 t114)) (fun _ h_=>h_.1))) hb);replace BK101:=Z_ (blk_below (g:=gb101) (o:= .cells #[.int .i64 0,.int .i64 0,.string (⟨#[]⟩:ByteArray),.string (⟨#[]⟩:ByteArray),.string (⟨#[]⟩:ByteArray)] 57 (0,0)) (by (with_reducible repeat (first | refine blk_drewN ?_ _ | refine blk_drew ?_ | refine blk_alloc ?_ _));refine blk_far ?_ NB101_116.out _;(with_reducible repeat (first | refine blk_drewN ?_ _ | refine blk_drew ?_ | refine blk_alloc ?_ _));refine blk_far ?_ NB101_116.out _;(with_reducible repeat (first | refine blk_drewN ?_ _ | refine blk_drew ?_ | refine blk_alloc ?_ _));exact BK101.out) hb);replace BK116:=Z_ (blk_below (g:=gb116) (o:= .cells #[.int .i64 t113,.int .i64 t114] 23 (0,0)) (by (with_reducible repeat (first | refine blk_drewN ?_ _ | refine blk_drew ?_ | refine blk_alloc ?_ _));refine blk_put (cs:= #[.int .i64 t113,.int .i64 0]) ?_ 1 _ rfl;(with_reducible repeat (first | refine blk_drewN ?_ _ | refine blk_drew ?_ | refine blk_alloc ?_ _));refine blk_put (cs:= #[.int .i64 0,.int .i64 0]) ?_ 0 _ rfl;(with_reducible repeat (first | refine blk_drewN ?_ _ | refine blk_drew ?_ | refine blk_alloc ?_ _));exact BK116.out) hb);replace HB:=Hb_ hb;(try clear hb)))
                   obtain ⟨D8,hD8⟩:∃D:ByteArray,(a0.extract (((rd_T116 t102 t108).f1):Int).toNat ((wrap64 (((rd_T116 t102 t108).f1)+((rd_T116 t102 t108).f2))):Int).toNat)=D:=⟨_,rfl⟩
                   rw [hD8] at hji35 hji35w ⊢
                   replace HO_4:=Z_ (Kd.R_drew HO_4.out)
                   replace BK101:=Z_ (blk_drew BK101.out)
                   replace BK116:=Z_ (blk_drew BK116.out)
                   replace HB:=Z_ (below_drew1 HB.out)
                   refine start_ (n:=14) (S:=fun w'=>w'.cell? ⟨gb116,0,none⟩=some (.int .i64 t113)∧w'.cell? ⟨gb116,1,none⟩=some (.int .i64 t114)) (ds:= []) #[false,false,false,false,false,false,false,false,false,false,false,false,false,false] (by kernel_rfl) rfl rfl ⟨(blk_cell BK116.out 0).trans rfl,(blk_cell BK116.out 1).trans rfl⟩ (fun hHeld=>?_);refine with_tabW wave_Parse.tab11 wave_Parse.bits11 (fun HT_ HW_=>?_)
                   generalize w46.drew=w47 at HO_4 BK101 BK116 HB hHeld ⊢
                   refine P_ 1 95 ?_
                   refine P_ 2 96 ?_
                   refine P_ 3 97 ?_
                   refine P_ 4 98 ?_
                   refine P_ 5 99 ?_
                   refine P_ 6 100 ?_
                   refine P_ 7 101 ?_
                   refine P_ 8 102 ?_
                   refine P_ 9 103 ?_
                   refine P_ 10 104 ?_
                   refine T_ 0 94 (y:=by rintro w' ⟨s0,s1⟩;go_simp;with_reducible rfl) (h:=?_)
                   refine P_ 11 105 ?_
                   refine one_ (i:=12) (N:=none) #[true,true,true,true,true,true,true,true,true,true,true,true,true,false] rfl rfl (one_of HT_.out (by kernel_rfl)) (by decide) (fun K hK=>?_)
                   have hs48:w47.cell? ⟨gb101,0,none⟩=some (.int .i64 0):=(blk_cell BK101.out 0).trans rfl
                   have hfs48:=blk_frozen BK101.out 0
                   have hns48_1:=NB116_101.out
                   have hms48_1:=NB101_116.out
                   have hs49:w47.cell? ⟨gb101,1,none⟩=some (.int .i64 0):=(blk_cell BK101.out 1).trans rfl
                   have hfs49:=blk_frozen BK101.out 1
                   have hns49_1:=NB116_101.out
                   have hms49_1:=NB101_116.out
                   have hs50:w47.cell? ⟨gb101,2,none⟩=some (.string (⟨#[]⟩:ByteArray)):=(blk_cell BK101.out 2).trans rfl
                   have hfs50:=blk_frozen BK101.out 2
                   have hns50_1:=NB116_101.out
                   have hms50_1:=NB101_116.out
                   have hs51:w47.cell? ⟨gb101,3,none⟩=some (.string (⟨#[]⟩:ByteArray)):=(blk_cell BK101.out 3).trans rfl
                   have hfs51:=blk_frozen BK101.out 3
                   have hns51_1:=NB116_101.out
                   have hms51_1:=NB101_116.out
                   have hs52:w47.cell? ⟨gb101,4,none⟩=some (.string (⟨#[]⟩:ByteArray)):=(blk_cell BK101.out 4).trans rfl
                   have hfs52:=blk_frozen BK101.out 4
                   have hns52_1:=NB116_101.out
                   have hms52_1:=NB101_116.out
                   refine skip_ (w1:=?_) (by rfl) rfl ?_ ?_
                   rotate_left
                   ·go_simp
                    rfl
                   refine hK.out _ _ ⟨((cell_far (p:=⟨gb101,_,none⟩) NB116_101.out _).trans (((cell_far (p:=⟨gb101,_,none⟩) NB116_101.out _).trans (((cell_far (p:=⟨gb101,_,none⟩) NB116_101.out _).trans (((cell_far (p:=⟨gb101,_,none⟩) NB116_101.out _).trans (((cell_far (p:=⟨gb101,_,none⟩) NB116_101.out _).trans (hHeld.1)))))))))),((cell_far (p:=⟨gb101,_,none⟩) NB116_101.out _).trans (((cell_far (p:=⟨gb101,_,none⟩) NB116_101.out _).trans (((cell_far (p:=⟨gb101,_,none⟩) NB116_101.out _).trans (((cell_far (p:=⟨gb101,_,none⟩) NB116_101.out _).trans (((cell_far (p:=⟨gb101,_,none⟩) NB116_101.out _).trans (hHeld.2))))))))))⟩ (fun hHeld=>?_)
                   clear hK K
                   refine P_ 13 3 ?_
                   refine done_ (done_of HT_.out (by kernel_rfl)) ?_
                   try go_wp2
                   refine bodyPost_ret (results_ct rfl _ _ gb101 57 #[.int .i64 t113,.int .i64 t114,.string (a0.extract 0 (((rd_T116 t102 t108).f1):Int).toNat),.string D8,.string (a0.extract ((ji35):Int).toNat a0.size)] (0,0) _ rfl (by (with_reducible repeat (first | refine blk_drewN ?_ _ | refine blk_drew ?_ | refine blk_alloc ?_ _));refine blk_put (cs:= #[.int .i64 t113,.int .i64 t114,.string (a0.extract 0 (((rd_T116 t102 t108).f1):Int).toNat),.string D8,.string (⟨#[]⟩:ByteArray)]) ?_ 4 _ rfl;(with_reducible repeat (first | refine blk_drewN ?_ _ | refine blk_drew ?_ | refine blk_alloc ?_ _));refine blk_put (cs:= #[.int .i64 t113,.int .i64 t114,.string (a0.extract 0 (((rd_T116 t102 t108).f1):Int).toNat),.string (⟨#[]⟩:ByteArray),.string (⟨#[]⟩:ByteArray)]) ?_ 3 _ rfl;(with_reducible repeat (first | refine blk_drewN ?_ _ | refine blk_drew ?_ | refine blk_alloc ?_ _));refine blk_put (cs:= #[.int .i64 t113,.int .i64 t114,.string (⟨#[]⟩:ByteArray),.string (⟨#[]⟩:ByteArray),.string (⟨#[]⟩:ByteArray)]) ?_ 2 _ rfl;(with_reducible repeat (first | refine blk_drewN ?_ _ | refine blk_drew ?_ | refine blk_alloc ?_ _));refine blk_put (cs:= #[.int .i64 t113,.int .i64 0,.string (⟨#[]⟩:ByteArray),.string (⟨#[]⟩:ByteArray),.string (⟨#[]⟩:ByteArray)]) ?_ 1 _ rfl;(with_reducible repeat (first | refine blk_drewN ?_ _ | refine blk_drew ?_ | refine blk_alloc ?_ _));refine blk_put (cs:= #[.int .i64 0,.int .i64 0,.string (⟨#[]⟩:ByteArray),.string (⟨#[]⟩:ByteArray),.string (⟨#[]⟩:ByteArray)]) ?_ 0 _ rfl;(with_reducible repeat (first | refine blk_drewN ?_ _ | refine blk_drew ?_ | refine blk_alloc ?_ _));exact BK101.out) Tryz.underlying57 rfl (by kernel_rfl)) rfl ?_
                   exact ⟨by first | (rw [hD8];rfl) | rfl | (simp [errW_none,errW_some]<;>rfl) | (simp only [←hji35];first | rfl | (simp [errW_none,errW_some]<;>rfl)) | (simp [*,errW_none,errW_some]<;>rfl),B_⟩
                  ·rw [if_neg c37] at H
                   exact absurd H (by simp)
                 ·rw [if_neg c36] at H
                  exact absurd H (by simp)
                ·rw [if_neg c34] at H
                 exact absurd H (by simp)
               ·replace c32:=Bool.eq_false_iff.mpr c32
                subst c32
                rw [if_neg (show ¬(false=true) by decide)] at H
                simp only [Option.some.injEq,Prod.mk.injEq] at H
                obtain ⟨rfl,rfl,rfl,rfl,rfl,rfl⟩:=H
                try go_wp2
                replace HO_4:=Z_ (Kd.R_drew HO_4.out)
                replace BK101:=Z_ (blk_drew BK101.out)
                replace HB:=Z_ (below_drew1 HB.out)
                have p111:0≤(t106:Int):=of_decide_eq_true A_
                have q111:t106<(t102.length:Int):=of_decide_eq_true A_
                obtain ⟨ad111,e111,hx111_0,hx111_1,hx111_2⟩:=at_T116 (Kd.R_reads' HO_4.out).2.2 t106 p111 q111
                cases e111
                replace p111:=eq_true p111
                replace q111:=eq_true q111
                have p112:0≤(t106:Int):=of_decide_eq_true A_
                have q112:t106<(t102.length:Int):=of_decide_eq_true A_
                obtain ⟨ad112,e112,hx112_0,hx112_1,hx112_2⟩:=at_T116 (Kd.R_reads' HO_4.out).2.2 t106 p112 q112
                obtain rfl:ad111=ad112:=(by injection e112)
                replace p112:=eq_true p112
                replace q112:=eq_true q112
                refine start_ (n:=20) (S:=fun w'=>w'.cell? (ad111.add ((t106).toNat*3))=some (.string ((rd_T116 t102 t106).f0))∧w'.cell? ⟨(ad111.add ((t106).toNat*3)).block,(ad111.add ((t106).toNat*3)).off+1,none⟩=some (.int .i64 ((rd_T116 t102 t106).f1))∧w'.cell? ⟨(ad111.add ((t106).toNat*3)).block,(ad111.add ((t106).toNat*3)).off+2,none⟩=some (.int .i64 ((rd_T116 t102 t106).f2))∧w'.cell? (ad111.add ((t106).toNat*3))=some (.string ((rd_T116 t102 t106).f0))∧w'.cell? ⟨(ad111.add ((t106).toNat*3)).block,(ad111.add ((t106).toNat*3)).off+1,none⟩=some (.int .i64 ((rd_T116 t102 t106).f1))∧w'.cell? ⟨(ad111.add ((t106).toNat*3)).block,(ad111.add ((t106).toNat*3)).off+2,none⟩=some (.int .i64 ((rd_T116 t102 t106).f2))) (ds:= []) #[false,false,false,false,false,false,false,false,false,false,false,false,false,false,false,false,false,false,false,false] (by kernel_rfl) rfl rfl ⟨hx111_0,hx111_1,hx111_2,hx112_0,hx112_1,hx112_2⟩ (fun hHeld=>?_);refine with_tabW wave_Parse.tab6 wave_Parse.bits6 (fun HT_ HW_=>?_)
                generalize wc.drew=w53 at HO_4 BK101 HB hx111_0 hx111_1 hx111_2 hx112_0 hx112_1 hx112_2 hHeld ⊢
                refine P_ 0 54 ?_
                refine P_ 1 55 ?_
                refine P_ 2 56 ?_
                refine P_ 3 57 ?_
                refine P_ 4 58 ?_
                refine P_ 6 60 ?_
                refine P_ 7 61 ?_
                refine P_ 8 62 ?_
                refine P_ 9 63 ?_
                refine T_ 5 59 (y:=by rintro w' ⟨s0,s1,s2,s3,s4,s5⟩;go_simp;with_reducible rfl) (h:=?_)
                refine T_ 10 64 (y:=by rintro w' ⟨s0,s1,s2,s3,s4,s5⟩;go_simp;with_reducible rfl) (h:=?_)
                refine P_ 11 65 ?_
                refine P_ 12 66 ?_
                refine join_ (σ:=Nat) 2 #[true,true,true,true,true,true,true,true,true,true,true,true,true,true,true,true,true,true,false,false] (fun s_=> [(67,.tuple #[.agg #[.int .i64 t113,.int .i64 t114],.bool true]),(10,.pointer (some ⟨s_,0,none⟩)),(53,.tuple #[.agg #[.int .i64 t113,.int .i64 t114],.bool true]),(68,.agg #[.int .i64 t113,.int .i64 t114]),(69,.bool true)]) (fun s_ w'=>(w'.cell? (ad111.add ((t106).toNat*3))=some (.string ((rd_T116 t102 t106).f0))∧w'.cell? ⟨(ad111.add ((t106).toNat*3)).block,(ad111.add ((t106).toNat*3)).off+1,none⟩=some (.int .i64 ((rd_T116 t102 t106).f1))∧w'.cell? ⟨(ad111.add ((t106).toNat*3)).block,(ad111.add ((t106).toNat*3)).off+2,none⟩=some (.int .i64 ((rd_T116 t102 t106).f2))∧w'.cell? (ad111.add ((t106).toNat*3))=some (.string ((rd_T116 t102 t106).f0))∧w'.cell? ⟨(ad111.add ((t106).toNat*3)).block,(ad111.add ((t106).toNat*3)).off+1,none⟩=some (.int .i64 ((rd_T116 t102 t106).f1))∧w'.cell? ⟨(ad111.add ((t106).toNat*3)).block,(ad111.add ((t106).toNat*3)).off+2,none⟩=some (.int .i64 ((rd_T116 t102 t106).f2)))∧(Kd.R k116 116 w' w.heap.size (fun _=>True) (.slice (some ad111) t102.length co8) t102)∧(w'.heap[gb101]?=some (.cells #[.int .i64 0,.int .i64 0,.string (⟨#[]⟩:ByteArray),.string (⟨#[]⟩:ByteArray),.string (⟨#[]⟩:ByteArray)] 57 (0,0)))∧(w'.heap[s_]?=some (.cells #[.int .i64 0,.int .i64 0] 23 (0,0)))∧(w.heap.size≤s_)∧(w.heap.size≤s_)∧(gb101≠s_)∧(s_≠gb101)∧(Below w.heap.size w w')) ?_ ?_
                rotate_left
                ·intro hCont
                 refine two_ (i:=13) (j:=17) (Ni:=some 67) (Nj:=some 10) #[true,true,true,true,true,true,true,true,true,true,true,true,true,true,false,false,false,false,false,false] #[true,true,true,true,true,true,true,true,true,true,true,true,true,false,false,false,false,true,false,false] rfl rfl rfl rfl (two_of HT_.out (by kernel_rfl)) (by decide) (by decide) (fun K hK=>?_) (fun K hK=>?_)
                 ·skip
                  refine g_ Tryz.func60 #[.string (a0.extract (((rd_T116 t102 t106).f1):Int).toNat ((wrap64 (((rd_T116 t102 t106).f1)+16)):Int).toNat)] ?_
                  with_reducible refine (wave_format.calls kj4 (a0.extract (((rd_T116 t102 t106).f1):Int).toNat ((wrap64 (((rd_T116 t102 t106).f1)+16)):Int).toNat) t113 t114 true _ A24.out).mono ?_
                  rintro e w54 ⟨rfl,hb⟩
                  have HS0_:=(hb.cell (World.block_lt_of_cell? _ _ (hHeld.1))).trans (hHeld.1)
                  have HS1_:=(hb.cell (World.block_lt_of_cell? _ _ (hHeld.2.1))).trans (hHeld.2.1)
                  have HS2_:=(hb.cell (World.block_lt_of_cell? _ _ (hHeld.2.2.1))).trans (hHeld.2.2.1)
                  have HS3_:=(hb.cell (World.block_lt_of_cell? _ _ (hHeld.2.2.2.1))).trans (hHeld.2.2.2.1)
                  have HS4_:=(hb.cell (World.block_lt_of_cell? _ _ (hHeld.2.2.2.2.1))).trans (hHeld.2.2.2.2.1)
                  have HS5_:=(hb.cell (World.block_lt_of_cell? _ _ (hHeld.2.2.2.2.2))).trans (hHeld.2.2.2.2.2)
                  refine ⟨_,rfl,?_⟩
                  replace HO_4:=Z_ (Kd.R_below (R_ HO_4) hb)
                  replace BK101:=Z_ (blk_below (K_ BK101) hb)
                  replace HB:=Hb_ hb
                  (try clear hb)
                  (try clear hb2)
                  (try clear hk)
                  (try clear hi)
                  refine hK.out _ _ ⟨HS0_,HS1_,HS2_,HS3_,HS4_,HS5_⟩ (fun hHeld=>?_)
                  clear hK K
                  refine Nm_ 67 ?_
                  refine P_ 14 53 ?_
                  refine P_ 15 68 ?_
                  refine P_ 16 69 ?_
                  refine O_ 17 10 fun K hK=>?_
                  refine box_step ?hg (N:=10) ?hd (cs:= #[.int .i64 0,.int .i64 0]) (t:=23) ?hr ?_;(case hd=>rfl);(case hg=>rfl);(case hr=>first | (go_simp;done) | (go_simp;rfl))
                  intro gb116 hg w55 hbox hb
                  have HS0_:=(hb.cell (World.block_lt_of_cell? _ _ (hHeld.1))).trans (hHeld.1)
                  have HS1_:=(hb.cell (World.block_lt_of_cell? _ _ (hHeld.2.1))).trans (hHeld.2.1)
                  have HS2_:=(hb.cell (World.block_lt_of_cell? _ _ (hHeld.2.2.1))).trans (hHeld.2.2.1)
                  have HS3_:=(hb.cell (World.block_lt_of_cell? _ _ (hHeld.2.2.2.1))).trans (hHeld.2.2.2.1)
                  have HS4_:=(hb.cell (World.block_lt_of_cell? _ _ (hHeld.2.2.2.2.1))).trans (hHeld.2.2.2.2.1)
                  have HS5_:=(hb.cell (World.block_lt_of_cell? _ _ (hHeld.2.2.2.2.2))).trans (hHeld.2.2.2.2.2)
                  replace HO_4:=Z_ (Kd.R_below (R_ HO_4) hb)
                  have BK116:=Z_ (hbox)
                  have GW116:=Z_ ((G2_ hg:w.heap.size≤_))
                  have GE116:=Z_ ((G2_ hg:w.heap.size≤_))
                  replace HB:=Hb_ hb
                  have NB101_116:=Z_ ((by rw [hg];exact Nat.ne_of_lt (blk_lt (g:=gb101) (o:= .cells #[.int .i64 0,.int .i64 0,.string (⟨#[]⟩:ByteArray),.string (⟨#[]⟩:ByteArray),.string (⟨#[]⟩:ByteArray)] 57 (0,0)) (K_ BK101)):gb101≠gb116))
                  have NB116_101:=Z_ ((by rw [hg];exact Nat.ne_of_gt (blk_lt (g:=gb101) (o:= .cells #[.int .i64 0,.int .i64 0,.string (⟨#[]⟩:ByteArray),.string (⟨#[]⟩:ByteArray),.string (⟨#[]⟩:ByteArray)] 57 (0,0)) (K_ BK101)):gb116≠gb101))
                  replace BK101:=Z_ (blk_below (K_ BK101) hb)
                  clear hb hbox hg
                  refine hK.out _ _ ⟨HS0_,HS1_,HS2_,HS3_,HS4_,HS5_⟩ (fun hHeld=>?_)
                  clear hK K
                  refine Nm_ 10 ?_
                  exact norm_ (by simp only [putAll,Act.put,List.setIfInBounds_toArray,List.set_cons_zero,List.set_cons_succ]) (hCont (gb116) _ ⟨hHeld,(R_ HO_4),(K_ BK101),(K_ BK116),GW116.out,GE116.out,NB101_116.out,NB116_101.out,B_⟩)
                 ·skip
                  refine box_step ?hg (N:=10) ?hd (cs:= #[.int .i64 0,.int .i64 0]) (t:=23) ?hr ?_;(case hd=>rfl);(case hg=>rfl);(case hr=>first | (go_simp;done) | (go_simp;rfl))
                  intro gb116 hg w54 hbox hb
                  have HS0_:=(hb.cell (World.block_lt_of_cell? _ _ (hHeld.1))).trans (hHeld.1)
                  have HS1_:=(hb.cell (World.block_lt_of_cell? _ _ (hHeld.2.1))).trans (hHeld.2.1)
                  have HS2_:=(hb.cell (World.block_lt_of_cell? _ _ (hHeld.2.2.1))).trans (hHeld.2.2.1)
                  have HS3_:=(hb.cell (World.block_lt_of_cell? _ _ (hHeld.2.2.2.1))).trans (hHeld.2.2.2.1)
                  have HS4_:=(hb.cell (World.block_lt_of_cell? _ _ (hHeld.2.2.2.2.1))).trans (hHeld.2.2.2.2.1)
                  have HS5_:=(hb.cell (World.block_lt_of_cell? _ _ (hHeld.2.2.2.2.2))).trans (hHeld.2.2.2.2.2)
                  replace HO_4:=Z_ (Kd.R_below (R_ HO_4) hb)
                  have BK116:=Z_ (hbox)
                  have GW116:=Z_ ((G2_ hg:w.heap.size≤_))
                  have GE116:=Z_ ((G2_ hg:w.heap.size≤_))
                  replace HB:=Hb_ hb
                  have NB101_116:=Z_ ((by rw [hg];exact Nat.ne_of_lt (blk_lt (g:=gb101) (o:= .cells #[.int .i64 0,.int .i64 0,.string (⟨#[]⟩:ByteArray),.string (⟨#[]⟩:ByteArray),.string (⟨#[]⟩:ByteArray)] 57 (0,0)) (K_ BK101)):gb101≠gb116))
                  have NB116_101:=Z_ ((by rw [hg];exact Nat.ne_of_gt (blk_lt (g:=gb101) (o:= .cells #[.int .i64 0,.int .i64 0,.string (⟨#[]⟩:ByteArray),.string (⟨#[]⟩:ByteArray),.string (⟨#[]⟩:ByteArray)] 57 (0,0)) (K_ BK101)):gb116≠gb101))
                  replace BK101:=Z_ (blk_below (K_ BK101) hb)
                  clear hb hbox hg
                  refine hK.out _ _ ⟨HS0_,HS1_,HS2_,HS3_,HS4_,HS5_⟩ (fun hHeld=>?_)
                  clear hK K
                  refine Nm_ 10 ?_
                  refine O_ 13 67 fun K hK=>?_
                  refine g_ Tryz.func60 #[.string (a0.extract (((rd_T116 t102 t106).f1):Int).toNat ((wrap64 (((rd_T116 t102 t106).f1)+16)):Int).toNat)] ?_
                  with_reducible refine (wave_format.calls kj4 (a0.extract (((rd_T116 t102 t106).f1):Int).toNat ((wrap64 (((rd_T116 t102 t106).f1)+16)):Int).toNat) t113 t114 true _ A24.out).mono ?_
                  rintro e w55 ⟨rfl,hb⟩
                  have HS0_:=(hb.cell (World.block_lt_of_cell? _ _ (hHeld.1))).trans (hHeld.1)
                  have HS1_:=(hb.cell (World.block_lt_of_cell? _ _ (hHeld.2.1))).trans (hHeld.2.1)
                  have HS2_:=(hb.cell (World.block_lt_of_cell? _ _ (hHeld.2.2.1))).trans (hHeld.2.2.1)
                  have HS3_:=(hb.cell (World.block_lt_of_cell? _ _ (hHeld.2.2.2.1))).trans (hHeld.2.2.2.1)
                  have HS4_:=(hb.cell (World.block_lt_of_cell? _ _ (hHeld.2.2.2.2.1))).trans (hHeld.2.2.2.2.1)
                  have HS5_:=(hb.cell (World.block_lt_of_cell? _ _ (hHeld.2.2.2.2.2))).trans (hHeld.2.2.2.2.2)
                  refine ⟨_,rfl,?_⟩
                  replace HO_4:=Z_ (Kd.R_below (R_ HO_4) hb)
                  replace BK101:=Z_ (blk_below (K_ BK101) hb)
                  replace BK116:=Z_ (blk_below (K_ BK116) hb)
                  replace HB:=Hb_ hb
                  (try clear hb)
                  (try clear hb2)
                  (try clear hk)
                  (try clear hi)
                  refine hK.out _ _ ⟨HS0_,HS1_,HS2_,HS3_,HS4_,HS5_⟩ (fun hHeld=>?_)
                  clear hK K
                  refine Nm_ 67 ?_
                  refine P_ 14 53 ?_
                  refine P_ 15 68 ?_
                  refine P_ 16 69 ?_
                  exact norm_ (by simp only [putAll,Act.put,List.setIfInBounds_toArray,List.set_cons_zero,List.set_cons_succ]) (hCont (gb116) _ ⟨hHeld,(R_ HO_4),(K_ BK101),(K_ BK116),GW116.out,GE116.out,NB101_116.out,NB116_101.out,B_⟩)
                rintro gb116 w56 ⟨hS_,h0_,h1_,h2_,h3_,h4_,h5_,h6_,h7_⟩
                have n0_:Aside0 (Kd.R k116 116 w56 w.heap.size (fun _=>True) (.slice (some ad111) t102.length co8) t102):=⟨h0_⟩
                have n1_:Aside0 (w56.heap[gb101]?=some (.cells #[.int .i64 0,.int .i64 0,.string (⟨#[]⟩:ByteArray),.string (⟨#[]⟩:ByteArray),.string (⟨#[]⟩:ByteArray)] 57 (0,0))):=⟨h1_⟩
                have n2_:Aside0 (w56.heap[gb116]?=some (.cells #[.int .i64 0,.int .i64 0] 23 (0,0))):=⟨h2_⟩
                have n3_:Aside0 (w.heap.size≤gb116):=⟨h3_⟩
                have n4_:Aside0 (w.heap.size≤gb116):=⟨h4_⟩
                have n5_:Aside0 (gb101≠gb116):=⟨h5_⟩
                have n6_:Aside0 (gb116≠gb101):=⟨h6_⟩
                have n7_:Aside0 (Below w.heap.size w w56):=⟨h7_⟩
                clear HO_4
                clear BK101
                clear HB
                clear h0_ h1_ h2_ h3_ h4_ h5_ h6_ h7_
                have HO_4:=n0_
                have BK101:=n1_
                have BK116:=n2_
                have GW116:=n3_
                have GE116:=n4_
                have NB101_116:=n5_
                have NB116_101:=n6_
                have HB:=n7_
                clear n0_ n1_ n2_ n3_ n4_ n5_ n6_ n7_
                have hHeld:w56.cell? (ad111.add ((t106).toNat*3))=some (.string ((rd_T116 t102 t106).f0))∧w56.cell? ⟨(ad111.add ((t106).toNat*3)).block,(ad111.add ((t106).toNat*3)).off+1,none⟩=some (.int .i64 ((rd_T116 t102 t106).f1))∧w56.cell? ⟨(ad111.add ((t106).toNat*3)).block,(ad111.add ((t106).toNat*3)).off+2,none⟩=some (.int .i64 ((rd_T116 t102 t106).f2))∧w56.cell? (ad111.add ((t106).toNat*3))=some (.string ((rd_T116 t102 t106).f0))∧w56.cell? ⟨(ad111.add ((t106).toNat*3)).block,(ad111.add ((t106).toNat*3)).off+1,none⟩=some (.int .i64 ((rd_T116 t102 t106).f1))∧w56.cell? ⟨(ad111.add ((t106).toNat*3)).block,(ad111.add ((t106).toNat*3)).off+2,none⟩=some (.int .i64 ((rd_T116 t102 t106).f2)):=hS_
                refine norm_ (a':=?_) ?_ ?_
                rotate_left
                ·simp only [putAll,Act.put,List.setIfInBounds_toArray,List.set_cons_zero,List.set_cons_succ]
                 rfl
                refine one_ (i:=18) (N:=none) #[true,true,true,true,true,true,true,true,true,true,true,true,true,true,true,true,true,true,true,false] rfl rfl (one_of HT_.out (by kernel_rfl)) (by decide) (fun K hK=>?_)
                have hs57:w56.cell? ⟨gb116,0,none⟩=some (.int .i64 0):=(blk_cell BK116.out 0).trans rfl
                have hfs57:=blk_frozen BK116.out 0
                have hns57_0:=NB101_116.out
                have hms57_0:=NB116_101.out
                have hs58:w56.cell? ⟨gb116,1,none⟩=some (.int .i64 0):=(blk_cell BK116.out 1).trans rfl
                have hfs58:=blk_frozen BK116.out 1
                have hns58_0:=NB101_116.out
                have hms58_0:=NB116_101.out
                refine skip_ (w1:=?_) (by rfl) rfl ?_ ?_
                rotate_left
                ·go_simp
                 rfl
                refine hK.out _ _ ⟨((cell_far (p:=⟨gb116,_,none⟩) (by exact Wb_ (Kd.own_blk (Kd.R_ne HO_4.out BK116.out (by decide)))) _).trans (((cell_far (p:=⟨gb116,_,none⟩) (by exact Wb_ (Kd.own_blk (Kd.R_ne HO_4.out BK116.out (by decide)))) _).trans (hHeld.1)))),((cell_far (p:=⟨gb116,_,none⟩) (by exact Wb_ (Kd.own_blk (Kd.R_ne HO_4.out BK116.out (by decide)))) _).trans (((cell_far (p:=⟨gb116,_,none⟩) (by exact Wb_ (Kd.own_blk (Kd.R_ne HO_4.out BK116.out (by decide)))) _).trans (hHeld.2.1)))),((cell_far (p:=⟨gb116,_,none⟩) (by exact Wb_ (Kd.own_blk (Kd.R_ne HO_4.out BK116.out (by decide)))) _).trans (((cell_far (p:=⟨gb116,_,none⟩) (by exact Wb_ (Kd.own_blk (Kd.R_ne HO_4.out BK116.out (by decide)))) _).trans (hHeld.2.2.1)))),((cell_far (p:=⟨gb116,_,none⟩) (by exact Wb_ (Kd.own_blk (Kd.R_ne HO_4.out BK116.out (by decide)))) _).trans (((cell_far (p:=⟨gb116,_,none⟩) (by exact Wb_ (Kd.own_blk (Kd.R_ne HO_4.out BK116.out (by decide)))) _).trans (hHeld.2.2.2.1)))),((cell_far (p:=⟨gb116,_,none⟩) (by exact Wb_ (Kd.own_blk (Kd.R_ne HO_4.out BK116.out (by decide)))) _).trans (((cell_far (p:=⟨gb116,_,none⟩) (by exact Wb_ (Kd.own_blk (Kd.R_ne HO_4.out BK116.out (by decide)))) _).trans (hHeld.2.2.2.2.1)))),((cell_far (p:=⟨gb116,_,none⟩) (by exact Wb_ (Kd.own_blk (Kd.R_ne HO_4.out BK116.out (by decide)))) _).trans (((cell_far (p:=⟨gb116,_,none⟩) (by exact Wb_ (Kd.own_blk (Kd.R_ne HO_4.out BK116.out (by decide)))) _).trans (hHeld.2.2.2.2.2))))⟩ (fun hHeld=>?_)
                clear hK K
                refine P_ 19 11 ?_
                refine done_ (done_of HT_.out (by kernel_rfl)) ?_
                have p117:0≤(t108:Int):=of_decide_eq_true A_
                have q117:t108<(t102.length:Int):=of_decide_eq_true A_
                obtain ⟨ad117,e117,hx117_0,hx117_1,hx117_2⟩:=at_T116 (Kd.R_reads' HO_4.out).2.2 t108 p117 q117
                obtain rfl:ad111=ad117:=(by injection e117)
                have hn117_0:ad111.block≠gb116:=Kd.own_blk (Kd.R_ne HO_4.out BK116.out (by decide))
                have hn117_1:ad111.block≠gb116:=Kd.own_blk (Kd.R_ne HO_4.out BK116.out (by decide))
                replace hx117_0:=(cell_far (p:=⟨gb116,0,none⟩) (by exact Wb_ hn117_0) (.int .i64 t113)).trans hx117_0
                replace hx117_1:=(cell_far (p:=⟨gb116,0,none⟩) (by exact Wb_ hn117_0) (.int .i64 t113)).trans hx117_1
                replace hx117_2:=(cell_far (p:=⟨gb116,0,none⟩) (by exact Wb_ hn117_0) (.int .i64 t113)).trans hx117_2
                replace hx117_0:=(cell_far (p:=⟨gb116,1,none⟩) (by exact Wb_ hn117_1) (.int .i64 t114)).trans hx117_0
                replace hx117_1:=(cell_far (p:=⟨gb116,1,none⟩) (by exact Wb_ hn117_1) (.int .i64 t114)).trans hx117_1
                replace hx117_2:=(cell_far (p:=⟨gb116,1,none⟩) (by exact Wb_ hn117_1) (.int .i64 t114)).trans hx117_2
                clear hn117_0
                clear hn117_1
                replace p117:=eq_true p117
                replace q117:=eq_true q117
                have p118:0≤(t108:Int):=of_decide_eq_true A_
                have q118:t108<(t102.length:Int):=of_decide_eq_true A_
                obtain ⟨ad118,e118,hx118_0,hx118_1,hx118_2⟩:=at_T116 (Kd.R_reads' HO_4.out).2.2 t108 p118 q118
                obtain rfl:ad111=ad118:=(by injection e118)
                have hn118_0:ad111.block≠gb116:=Kd.own_blk (Kd.R_ne HO_4.out BK116.out (by decide))
                have hn118_1:ad111.block≠gb116:=Kd.own_blk (Kd.R_ne HO_4.out BK116.out (by decide))
                replace hx118_0:=(cell_far (p:=⟨gb116,0,none⟩) (by exact Wb_ hn118_0) (.int .i64 t113)).trans hx118_0
                replace hx118_1:=(cell_far (p:=⟨gb116,0,none⟩) (by exact Wb_ hn118_0) (.int .i64 t113)).trans hx118_1
                replace hx118_2:=(cell_far (p:=⟨gb116,0,none⟩) (by exact Wb_ hn118_0) (.int .i64 t113)).trans hx118_2
                replace hx118_0:=(cell_far (p:=⟨gb116,1,none⟩) (by exact Wb_ hn118_1) (.int .i64 t114)).trans hx118_0
                replace hx118_1:=(cell_far (p:=⟨gb116,1,none⟩) (by exact Wb_ hn118_1) (.int .i64 t114)).trans hx118_1
                replace hx118_2:=(cell_far (p:=⟨gb116,1,none⟩) (by exact Wb_ hn118_1) (.int .i64 t114)).trans hx118_2
                clear hn118_0
                clear hn118_1
                replace p118:=eq_true p118
                replace q118:=eq_true q118
                have hnb59:=NB116_101.out
                have hnc59:=NB101_116.out
                have hcz60_0:=cz_ BK116 0
                have hcz60_1:=cz_ BK116 1
                have hfz60_0:=fz_ BK116 0
                have hfz60_1:=fz_ BK116 1
                try go_wp2_with (first | (go_at_call 61;refine (pcm_Frames.calls (a0.extract (((rd_T116 t102 t108).f1):Int).toNat ((wrap64 (((rd_T116 t102 t108).f1)+((rd_T116 t102 t108).f2))):Int).toNat) t113 t114 false _ A31.out).mono ?_;rintro e w61 ⟨rfl,hb⟩;replace HO_4:=Z_ (Kd.R_below (by (with_reducible repeat (first | apply Kd.R_alloc | apply Kd.R_drewN | apply Kd.R_drew));exact (Kd.R_mono (Kd.R_far (p:=⟨gb116,1,none⟩) (Kd.R_far (p:=⟨gb116,0,none⟩) (Kd.R_types HO_4.out BK116.out (by decide)) (fun _ hk=>hk.2) (.int .i64 t113)) (fun _ hk=>hk.2) (.int .i64 t114)) (fun _ h_=>h_.1))) hb);replace BK101:=Z_ (blk_below (g:=gb101) (o:= .cells #[.int .i64 0,.int .i64 0,.string (⟨#[]⟩:ByteArray),.string (⟨#[]⟩:ByteArray),.string (⟨#[]⟩:ByteArray)] 57 (0,0)) (by (with_reducible repeat (first | refine blk_drewN ?_ _ | refine blk_drew ?_ | refine blk_alloc ?_ _));refine blk_far ?_ NB101_116.out _;(with_reducible repeat (first | refine blk_drewN ?_ _ | refine blk_drew ?_ | refine blk_alloc ?_ _));refine blk_far ?_ NB101_116.out _;(with_reducible repeat (first | refine blk_drewN ?_ _ | refine blk_drew ?_ | refine blk_alloc ?_ _));exact BK101.out) hb);replace BK116:=Z_ (blk_below (g:=gb116) (o:= .cells #[.int .i64 t113,.int .i64 t114] 23 (0,0)) (by (with_reducible repeat (first | refine blk_drewN ?_ _ | refine blk_drew ?_ | refine blk_alloc ?_ _));refine blk_put (cs:= #[.int .i64 t113,.int .i64 0]) ?_ 1 _ rfl;(with_reducible repeat (first | refine blk_drewN ?_ _ | refine blk_drew ?_ | refine blk_alloc ?_ _));refine blk_put (cs:= #[.int .i64 0,.int .i64 0]) ?_ 0 _ rfl;(with_reducible repeat (first | refine blk_drewN ?_ _ | refine blk_drew ?_ | refine blk_alloc ?_ _));exact BK116.out) hb);replace HB:=Hb_ hb;(try clear hb);have hcz62_0:=cz_ BK101 0;have hcz62_1:=cz_ BK101 1;have hcz62_2:=cz_ BK101 2;have hcz62_3:=cz_ BK101 3;have hcz62_4:=cz_ BK101 4;have hfz62_0:=fz_ BK101 0;have hfz62_1:=fz_ BK101 1;have hfz62_2:=fz_ BK101 2;have hfz62_3:=fz_ BK101 3;have hfz62_4:=fz_ BK101 4))
                refine bodyPost_ret (results_ct rfl _ _ gb101 57 #[.int .i64 0,.int .i64 0,.string (⟨#[]⟩:ByteArray),.string (⟨#[]⟩:ByteArray),.string (⟨#[]⟩:ByteArray)] (0,0) _ rfl (by (with_reducible repeat (first | refine blk_drewN ?_ _ | refine blk_drew ?_ | refine blk_alloc ?_ _));refine blk_put (cs:= #[.int .i64 0,.int .i64 0,.string (⟨#[]⟩:ByteArray),.string (⟨#[]⟩:ByteArray),.string (⟨#[]⟩:ByteArray)]) ?_ 4 _ rfl;(with_reducible repeat (first | refine blk_drewN ?_ _ | refine blk_drew ?_ | refine blk_alloc ?_ _));refine blk_put (cs:= #[.int .i64 0,.int .i64 0,.string (⟨#[]⟩:ByteArray),.string (⟨#[]⟩:ByteArray),.string (⟨#[]⟩:ByteArray)]) ?_ 3 _ rfl;(with_reducible repeat (first | refine blk_drewN ?_ _ | refine blk_drew ?_ | refine blk_alloc ?_ _));refine blk_put (cs:= #[.int .i64 0,.int .i64 0,.string (⟨#[]⟩:ByteArray),.string (⟨#[]⟩:ByteArray),.string (⟨#[]⟩:ByteArray)]) ?_ 2 _ rfl;(with_reducible repeat (first | refine blk_drewN ?_ _ | refine blk_drew ?_ | refine blk_alloc ?_ _));refine blk_put (cs:= #[.int .i64 0,.int .i64 0,.string (⟨#[]⟩:ByteArray),.string (⟨#[]⟩:ByteArray),.string (⟨#[]⟩:ByteArray)]) ?_ 1 _ rfl;(with_reducible repeat (first | refine blk_drewN ?_ _ | refine blk_drew ?_ | refine blk_alloc ?_ _));refine blk_put (cs:= #[.int .i64 0,.int .i64 0,.string (⟨#[]⟩:ByteArray),.string (⟨#[]⟩:ByteArray),.string (⟨#[]⟩:ByteArray)]) ?_ 0 _ rfl;(with_reducible repeat (first | refine blk_drewN ?_ _ | refine blk_drew ?_ | refine blk_alloc ?_ _));exact BK101.out) Tryz.underlying57 rfl (by kernel_rfl)) rfl ?_
                exact ⟨E_,B_⟩
              ·replace c30:=Bool.eq_false_iff.mpr c30
               subst c30
               rw [if_neg (show ¬(false=true) by decide)] at H
               simp only [Option.some.injEq,Prod.mk.injEq] at H
               obtain ⟨rfl,rfl,rfl,rfl,rfl,rfl⟩:=H
               try go_wp2
               replace HO_4:=Z_ (Kd.R_drew HO_4.out)
               replace BK101:=Z_ (blk_drew BK101.out)
               replace HB:=Z_ (below_drew1 HB.out)
               have p111:0≤(t106:Int):=of_decide_eq_true A_
               have q111:t106<(t102.length:Int):=of_decide_eq_true A_
               obtain ⟨ad111,e111,hx111_0,hx111_1,hx111_2⟩:=at_T116 (Kd.R_reads' HO_4.out).2.2 t106 p111 q111
               cases e111
               replace p111:=eq_true p111
               replace q111:=eq_true q111
               have p112:0≤(t106:Int):=of_decide_eq_true A_
               have q112:t106<(t102.length:Int):=of_decide_eq_true A_
               obtain ⟨ad112,e112,hx112_0,hx112_1,hx112_2⟩:=at_T116 (Kd.R_reads' HO_4.out).2.2 t106 p112 q112
               obtain rfl:ad111=ad112:=(by injection e112)
               replace p112:=eq_true p112
               replace q112:=eq_true q112
               refine start_ (n:=20) (S:=fun w'=>w'.cell? (ad111.add ((t106).toNat*3))=some (.string ((rd_T116 t102 t106).f0))∧w'.cell? ⟨(ad111.add ((t106).toNat*3)).block,(ad111.add ((t106).toNat*3)).off+1,none⟩=some (.int .i64 ((rd_T116 t102 t106).f1))∧w'.cell? ⟨(ad111.add ((t106).toNat*3)).block,(ad111.add ((t106).toNat*3)).off+2,none⟩=some (.int .i64 ((rd_T116 t102 t106).f2))∧w'.cell? (ad111.add ((t106).toNat*3))=some (.string ((rd_T116 t102 t106).f0))∧w'.cell? ⟨(ad111.add ((t106).toNat*3)).block,(ad111.add ((t106).toNat*3)).off+1,none⟩=some (.int .i64 ((rd_T116 t102 t106).f1))∧w'.cell? ⟨(ad111.add ((t106).toNat*3)).block,(ad111.add ((t106).toNat*3)).off+2,none⟩=some (.int .i64 ((rd_T116 t102 t106).f2))) (ds:= []) #[false,false,false,false,false,false,false,false,false,false,false,false,false,false,false,false,false,false,false,false] (by kernel_rfl) rfl rfl ⟨hx111_0,hx111_1,hx111_2,hx112_0,hx112_1,hx112_2⟩ (fun hHeld=>?_);refine with_tabW wave_Parse.tab6 wave_Parse.bits6 (fun HT_ HW_=>?_)
               generalize wc.drew=w63 at HO_4 BK101 HB hx111_0 hx111_1 hx111_2 hx112_0 hx112_1 hx112_2 hHeld ⊢
               refine P_ 0 54 ?_
               refine P_ 1 55 ?_
               refine P_ 2 56 ?_
               refine P_ 3 57 ?_
               refine P_ 4 58 ?_
               refine P_ 6 60 ?_
               refine P_ 7 61 ?_
               refine P_ 8 62 ?_
               refine P_ 9 63 ?_
               refine T_ 5 59 (y:=by rintro w' ⟨s0,s1,s2,s3,s4,s5⟩;go_simp;with_reducible rfl) (h:=?_)
               refine T_ 10 64 (y:=by rintro w' ⟨s0,s1,s2,s3,s4,s5⟩;go_simp;with_reducible rfl) (h:=?_)
               refine P_ 11 65 ?_
               refine P_ 12 66 ?_
               refine join_ (σ:=Nat) 2 #[true,true,true,true,true,true,true,true,true,true,true,true,true,true,true,true,true,true,false,false] (fun s_=> [(67,.tuple #[.agg #[.int .i64 t113,.int .i64 t114],.bool false]),(10,.pointer (some ⟨s_,0,none⟩)),(53,.tuple #[.agg #[.int .i64 t113,.int .i64 t114],.bool false]),(68,.agg #[.int .i64 t113,.int .i64 t114]),(69,.bool false)]) (fun s_ w'=>(w'.cell? (ad111.add ((t106).toNat*3))=some (.string ((rd_T116 t102 t106).f0))∧w'.cell? ⟨(ad111.add ((t106).toNat*3)).block,(ad111.add ((t106).toNat*3)).off+1,none⟩=some (.int .i64 ((rd_T116 t102 t106).f1))∧w'.cell? ⟨(ad111.add ((t106).toNat*3)).block,(ad111.add ((t106).toNat*3)).off+2,none⟩=some (.int .i64 ((rd_T116 t102 t106).f2))∧w'.cell? (ad111.add ((t106).toNat*3))=some (.string ((rd_T116 t102 t106).f0))∧w'.cell? ⟨(ad111.add ((t106).toNat*3)).block,(ad111.add ((t106).toNat*3)).off+1,none⟩=some (.int .i64 ((rd_T116 t102 t106).f1))∧w'.cell? ⟨(ad111.add ((t106).toNat*3)).block,(ad111.add ((t106).toNat*3)).off+2,none⟩=some (.int .i64 ((rd_T116 t102 t106).f2)))∧(Kd.R k116 116 w' w.heap.size (fun _=>True) (.slice (some ad111) t102.length co8) t102)∧(w'.heap[gb101]?=some (.cells #[.int .i64 0,.int .i64 0,.string (⟨#[]⟩:ByteArray),.string (⟨#[]⟩:ByteArray),.string (⟨#[]⟩:ByteArray)] 57 (0,0)))∧(w'.heap[s_]?=some (.cells #[.int .i64 0,.int .i64 0] 23 (0,0)))∧(w.heap.size≤s_)∧(w.heap.size≤s_)∧(gb101≠s_)∧(s_≠gb101)∧(Below w.heap.size w w')) ?_ ?_
               rotate_left
               ·intro hCont
                refine two_ (i:=13) (j:=17) (Ni:=some 67) (Nj:=some 10) #[true,true,true,true,true,true,true,true,true,true,true,true,true,true,false,false,false,false,false,false] #[true,true,true,true,true,true,true,true,true,true,true,true,true,false,false,false,false,true,false,false] rfl rfl rfl rfl (two_of HT_.out (by kernel_rfl)) (by decide) (by decide) (fun K hK=>?_) (fun K hK=>?_)
                ·skip
                 refine g_ Tryz.func60 #[.string (a0.extract (((rd_T116 t102 t106).f1):Int).toNat ((wrap64 (((rd_T116 t102 t106).f1)+16)):Int).toNat)] ?_
                 with_reducible refine (wave_format.calls kj4 (a0.extract (((rd_T116 t102 t106).f1):Int).toNat ((wrap64 (((rd_T116 t102 t106).f1)+16)):Int).toNat) t113 t114 false _ A24.out).mono ?_
                 rintro e w64 ⟨rfl,hb⟩
                 have HS0_:=(hb.cell (World.block_lt_of_cell? _ _ (hHeld.1))).trans (hHeld.1)
                 have HS1_:=(hb.cell (World.block_lt_of_cell? _ _ (hHeld.2.1))).trans (hHeld.2.1)
                 have HS2_:=(hb.cell (World.block_lt_of_cell? _ _ (hHeld.2.2.1))).trans (hHeld.2.2.1)
                 have HS3_:=(hb.cell (World.block_lt_of_cell? _ _ (hHeld.2.2.2.1))).trans (hHeld.2.2.2.1)
                 have HS4_:=(hb.cell (World.block_lt_of_cell? _ _ (hHeld.2.2.2.2.1))).trans (hHeld.2.2.2.2.1)
                 have HS5_:=(hb.cell (World.block_lt_of_cell? _ _ (hHeld.2.2.2.2.2))).trans (hHeld.2.2.2.2.2)
                 refine ⟨_,rfl,?_⟩
                 replace HO_4:=Z_ (Kd.R_below (R_ HO_4) hb)
                 replace BK101:=Z_ (blk_below (K_ BK101) hb)
                 replace HB:=Hb_ hb
                 (try clear hb)
                 (try clear hb2)
                 (try clear hk)
                 (try clear hi)
                 refine hK.out _ _ ⟨HS0_,HS1_,HS2_,HS3_,HS4_,HS5_⟩ (fun hHeld=>?_)
                 clear hK K
                 refine Nm_ 67 ?_
                 refine P_ 14 53 ?_
                 refine P_ 15 68 ?_
                 refine P_ 16 69 ?_
                 refine O_ 17 10 fun K hK=>?_
                 refine box_step ?hg (N:=10) ?hd (cs:= #[.int .i64 0,.int .i64 0]) (t:=23) ?hr ?_;(case hd=>rfl);(case hg=>rfl);(case hr=>first | (go_simp;done) | (go_simp;rfl))
                 intro gb116 hg w65 hbox hb
                 have HS0_:=(hb.cell (World.block_lt_of_cell? _ _ (hHeld.1))).trans (hHeld.1)
                 have HS1_:=(hb.cell (World.block_lt_of_cell? _ _ (hHeld.2.1))).trans (hHeld.2.1)
                 have HS2_:=(hb.cell (World.block_lt_of_cell? _ _ (hHeld.2.2.1))).trans (hHeld.2.2.1)
                 have HS3_:=(hb.cell (World.block_lt_of_cell? _ _ (hHeld.2.2.2.1))).trans (hHeld.2.2.2.1)
                 have HS4_:=(hb.cell (World.block_lt_of_cell? _ _ (hHeld.2.2.2.2.1))).trans (hHeld.2.2.2.2.1)
                 have HS5_:=(hb.cell (World.block_lt_of_cell? _ _ (hHeld.2.2.2.2.2))).trans (hHeld.2.2.2.2.2)
                 replace HO_4:=Z_ (Kd.R_below (R_ HO_4) hb)
                 have BK116:=Z_ (hbox)
                 have GW116:=Z_ ((G2_ hg:w.heap.size≤_))
                 have GE116:=Z_ ((G2_ hg:w.heap.size≤_))
                 replace HB:=Hb_ hb
                 have NB101_116:=Z_ ((by rw [hg];exact Nat.ne_of_lt (blk_lt (g:=gb101) (o:= .cells #[.int .i64 0,.int .i64 0,.string (⟨#[]⟩:ByteArray),.string (⟨#[]⟩:ByteArray),.string (⟨#[]⟩:ByteArray)] 57 (0,0)) (K_ BK101)):gb101≠gb116))
                 have NB116_101:=Z_ ((by rw [hg];exact Nat.ne_of_gt (blk_lt (g:=gb101) (o:= .cells #[.int .i64 0,.int .i64 0,.string (⟨#[]⟩:ByteArray),.string (⟨#[]⟩:ByteArray),.string (⟨#[]⟩:ByteArray)] 57 (0,0)) (K_ BK101)):gb116≠gb101))
                 replace BK101:=Z_ (blk_below (K_ BK101) hb)
                 clear hb hbox hg
                 refine hK.out _ _ ⟨HS0_,HS1_,HS2_,HS3_,HS4_,HS5_⟩ (fun hHeld=>?_)
                 clear hK K
                 refine Nm_ 10 ?_
                 exact norm_ (by simp only [putAll,Act.put,List.setIfInBounds_toArray,List.set_cons_zero,List.set_cons_succ]) (hCont (gb116) _ ⟨hHeld,(R_ HO_4),(K_ BK101),(K_ BK116),GW116.out,GE116.out,NB101_116.out,NB116_101.out,B_⟩)
                ·skip
                 refine box_step ?hg (N:=10) ?hd (cs:= #[.int .i64 0,.int .i64 0]) (t:=23) ?hr ?_;(case hd=>rfl);(case hg=>rfl);(case hr=>first | (go_simp;done) | (go_simp;rfl))
                 intro gb116 hg w64 hbox hb
                 have HS0_:=(hb.cell (World.block_lt_of_cell? _ _ (hHeld.1))).trans (hHeld.1)
                 have HS1_:=(hb.cell (World.block_lt_of_cell? _ _ (hHeld.2.1))).trans (hHeld.2.1)
                 have HS2_:=(hb.cell (World.block_lt_of_cell? _ _ (hHeld.2.2.1))).trans (hHeld.2.2.1)
                 have HS3_:=(hb.cell (World.block_lt_of_cell? _ _ (hHeld.2.2.2.1))).trans (hHeld.2.2.2.1)
                 have HS4_:=(hb.cell (World.block_lt_of_cell? _ _ (hHeld.2.2.2.2.1))).trans (hHeld.2.2.2.2.1)
                 have HS5_:=(hb.cell (World.block_lt_of_cell? _ _ (hHeld.2.2.2.2.2))).trans (hHeld.2.2.2.2.2)
                 replace HO_4:=Z_ (Kd.R_below (R_ HO_4) hb)
                 have BK116:=Z_ (hbox)
                 have GW116:=Z_ ((G2_ hg:w.heap.size≤_))
                 have GE116:=Z_ ((G2_ hg:w.heap.size≤_))
                 replace HB:=Hb_ hb
                 have NB101_116:=Z_ ((by rw [hg];exact Nat.ne_of_lt (blk_lt (g:=gb101) (o:= .cells #[.int .i64 0,.int .i64 0,.string (⟨#[]⟩:ByteArray),.string (⟨#[]⟩:ByteArray),.string (⟨#[]⟩:ByteArray)] 57 (0,0)) (K_ BK101)):gb101≠gb116))
                 have NB116_101:=Z_ ((by rw [hg];exact Nat.ne_of_gt (blk_lt (g:=gb101) (o:= .cells #[.int .i64 0,.int .i64 0,.string (⟨#[]⟩:ByteArray),.string (⟨#[]⟩:ByteArray),.string (⟨#[]⟩:ByteArray)] 57 (0,0)) (K_ BK101)):gb116≠gb101))
                 replace BK101:=Z_ (blk_below (K_ BK101) hb)
                 clear hb hbox hg
                 refine hK.out _ _ ⟨HS0_,HS1_,HS2_,HS3_,HS4_,HS5_⟩ (fun hHeld=>?_)
                 clear hK K
                 refine Nm_ 10 ?_
                 refine O_ 13 67 fun K hK=>?_
                 refine g_ Tryz.func60 #[.string (a0.extract (((rd_T116 t102 t106).f1):Int).toNat ((wrap64 (((rd_T116 t102 t106).f1)+16)):Int).toNat)] ?_
                 with_reducible refine (wave_format.calls kj4 (a0.extract (((rd_T116 t102 t106).f1):Int).toNat ((wrap64 (((rd_T116 t102 t106).f1)+16)):Int).toNat) t113 t114 false _ A24.out).mono ?_
                 rintro e w65 ⟨rfl,hb⟩
                 have HS0_:=(hb.cell (World.block_lt_of_cell? _ _ (hHeld.1))).trans (hHeld.1)
                 have HS1_:=(hb.cell (World.block_lt_of_cell? _ _ (hHeld.2.1))).trans (hHeld.2.1)
                 have HS2_:=(hb.cell (World.block_lt_of_cell? _ _ (hHeld.2.2.1))).trans (hHeld.2.2.1)
                 have HS3_:=(hb.cell (World.block_lt_of_cell? _ _ (hHeld.2.2.2.1))).trans (hHeld.2.2.2.1)
                 have HS4_:=(hb.cell (World.block_lt_of_cell? _ _ (hHeld.2.2.2.2.1))).trans (hHeld.2.2.2.2.1)
                 have HS5_:=(hb.cell (World.block_lt_of_cell? _ _ (hHeld.2.2.2.2.2))).trans (hHeld.2.2.2.2.2)
                 refine ⟨_,rfl,?_⟩
                 replace HO_4:=Z_ (Kd.R_below (R_ HO_4) hb)
                 replace BK101:=Z_ (blk_below (K_ BK101) hb)
                 replace BK116:=Z_ (blk_below (K_ BK116) hb)
                 replace HB:=Hb_ hb
                 (try clear hb)
                 (try clear hb2)
                 (try clear hk)
                 (try clear hi)
                 refine hK.out _ _ ⟨HS0_,HS1_,HS2_,HS3_,HS4_,HS5_⟩ (fun hHeld=>?_)
                 clear hK K
                 refine Nm_ 67 ?_
                 refine P_ 14 53 ?_
                 refine P_ 15 68 ?_
                 refine P_ 16 69 ?_
                 exact norm_ (by simp only [putAll,Act.put,List.setIfInBounds_toArray,List.set_cons_zero,List.set_cons_succ]) (hCont (gb116) _ ⟨hHeld,(R_ HO_4),(K_ BK101),(K_ BK116),GW116.out,GE116.out,NB101_116.out,NB116_101.out,B_⟩)
               rintro gb116 w66 ⟨hS_,h0_,h1_,h2_,h3_,h4_,h5_,h6_,h7_⟩
               have n0_:Aside0 (Kd.R k116 116 w66 w.heap.size (fun _=>True) (.slice (some ad111) t102.length co8) t102):=⟨h0_⟩
               have n1_:Aside0 (w66.heap[gb101]?=some (.cells #[.int .i64 0,.int .i64 0,.string (⟨#[]⟩:ByteArray),.string (⟨#[]⟩:ByteArray),.string (⟨#[]⟩:ByteArray)] 57 (0,0))):=⟨h1_⟩
               have n2_:Aside0 (w66.heap[gb116]?=some (.cells #[.int .i64 0,.int .i64 0] 23 (0,0))):=⟨h2_⟩
               have n3_:Aside0 (w.heap.size≤gb116):=⟨h3_⟩
               have n4_:Aside0 (w.heap.size≤gb116):=⟨h4_⟩
               have n5_:Aside0 (gb101≠gb116):=⟨h5_⟩
               have n6_:Aside0 (gb116≠gb101):=⟨h6_⟩
               have n7_:Aside0 (Below w.heap.size w w66):=⟨h7_⟩
               clear HO_4
               clear BK101
               clear HB
               clear h0_ h1_ h2_ h3_ h4_ h5_ h6_ h7_
               have HO_4:=n0_
               have BK101:=n1_
               have BK116:=n2_
               have GW116:=n3_
               have GE116:=n4_
               have NB101_116:=n5_
               have NB116_101:=n6_
               have HB:=n7_
               clear n0_ n1_ n2_ n3_ n4_ n5_ n6_ n7_
               have hHeld:w66.cell? (ad111.add ((t106).toNat*3))=some (.string ((rd_T116 t102 t106).f0))∧w66.cell? ⟨(ad111.add ((t106).toNat*3)).block,(ad111.add ((t106).toNat*3)).off+1,none⟩=some (.int .i64 ((rd_T116 t102 t106).f1))∧w66.cell? ⟨(ad111.add ((t106).toNat*3)).block,(ad111.add ((t106).toNat*3)).off+2,none⟩=some (.int .i64 ((rd_T116 t102 t106).f2))∧w66.cell? (ad111.add ((t106).toNat*3))=some (.string ((rd_T116 t102 t106).f0))∧w66.cell? ⟨(ad111.add ((t106).toNat*3)).block,(ad111.add ((t106).toNat*3)).off+1,none⟩=some (.int .i64 ((rd_T116 t102 t106).f1))∧w66.cell? ⟨(ad111.add ((t106).toNat*3)).block,(ad111.add ((t106).toNat*3)).off+2,none⟩=some (.int .i64 ((rd_T116 t102 t106).f2)):=hS_
               refine norm_ (a':=?_) ?_ ?_
               rotate_left
               ·simp only [putAll,Act.put,List.setIfInBounds_toArray,List.set_cons_zero,List.set_cons_succ]
                rfl
               refine one_ (i:=18) (N:=none) #[true,true,true,true,true,true,true,true,true,true,true,true,true,true,true,true,true,true,true,false] rfl rfl (one_of HT_.out (by kernel_rfl)) (by decide) (fun K hK=>?_)
               have hs67:w66.cell? ⟨gb116,0,none⟩=some (.int .i64 0):=(blk_cell BK116.out 0).trans rfl
               have hfs67:=blk_frozen BK116.out 0
               have hns67_0:=NB101_116.out
               have hms67_0:=NB116_101.out
               have hs68:w66.cell? ⟨gb116,1,none⟩=some (.int .i64 0):=(blk_cell BK116.out 1).trans rfl
               have hfs68:=blk_frozen BK116.out 1
               have hns68_0:=NB101_116.out
               have hms68_0:=NB116_101.out
               refine skip_ (w1:=?_) (by rfl) rfl ?_ ?_
               rotate_left
               ·go_simp
                rfl
               refine hK.out _ _ ⟨((cell_far (p:=⟨gb116,_,none⟩) (by exact Wb_ (Kd.own_blk (Kd.R_ne HO_4.out BK116.out (by decide)))) _).trans (((cell_far (p:=⟨gb116,_,none⟩) (by exact Wb_ (Kd.own_blk (Kd.R_ne HO_4.out BK116.out (by decide)))) _).trans (hHeld.1)))),((cell_far (p:=⟨gb116,_,none⟩) (by exact Wb_ (Kd.own_blk (Kd.R_ne HO_4.out BK116.out (by decide)))) _).trans (((cell_far (p:=⟨gb116,_,none⟩) (by exact Wb_ (Kd.own_blk (Kd.R_ne HO_4.out BK116.out (by decide)))) _).trans (hHeld.2.1)))),((cell_far (p:=⟨gb116,_,none⟩) (by exact Wb_ (Kd.own_blk (Kd.R_ne HO_4.out BK116.out (by decide)))) _).trans (((cell_far (p:=⟨gb116,_,none⟩) (by exact Wb_ (Kd.own_blk (Kd.R_ne HO_4.out BK116.out (by decide)))) _).trans (hHeld.2.2.1)))),((cell_far (p:=⟨gb116,_,none⟩) (by exact Wb_ (Kd.own_blk (Kd.R_ne HO_4.out BK116.out (by decide)))) _).trans (((cell_far (p:=⟨gb116,_,none⟩) (by exact Wb_ (Kd.own_blk (Kd.R_ne HO_4.out BK116.out (by decide)))) _).trans (hHeld.2.2.2.1)))),((cell_far (p:=⟨gb116,_,none⟩) (by exact Wb_ (Kd.own_blk (Kd.R_ne HO_4.out BK116.out (by decide)))) _).trans (((cell_far (p:=⟨gb116,_,none⟩) (by exact Wb_ (Kd.own_blk (Kd.R_ne HO_4.out BK116.out (by decide)))) _).trans (hHeld.2.2.2.2.1)))),((cell_far (p:=⟨gb116,_,none⟩) (by exact Wb_ (Kd.own_blk (Kd.R_ne HO_4.out BK116.out (by decide)))) _).trans (((cell_far (p:=⟨gb116,_,none⟩) (by exact Wb_ (Kd.own_blk (Kd.R_ne HO_4.out BK116.out (by decide)))) _).trans (hHeld.2.2.2.2.2))))⟩ (fun hHeld=>?_)
               clear hK K
               refine P_ 19 11 ?_
               refine done_ (done_of HT_.out (by kernel_rfl)) ?_
               have p117:0≤(t108:Int):=of_decide_eq_true A_
               have q117:t108<(t102.length:Int):=of_decide_eq_true A_
               obtain ⟨ad117,e117,hx117_0,hx117_1,hx117_2⟩:=at_T116 (Kd.R_reads' HO_4.out).2.2 t108 p117 q117
               obtain rfl:ad111=ad117:=(by injection e117)
               have hn117_0:ad111.block≠gb116:=Kd.own_blk (Kd.R_ne HO_4.out BK116.out (by decide))
               have hn117_1:ad111.block≠gb116:=Kd.own_blk (Kd.R_ne HO_4.out BK116.out (by decide))
               replace hx117_0:=(cell_far (p:=⟨gb116,0,none⟩) (by exact Wb_ hn117_0) (.int .i64 t113)).trans hx117_0
               replace hx117_1:=(cell_far (p:=⟨gb116,0,none⟩) (by exact Wb_ hn117_0) (.int .i64 t113)).trans hx117_1
               replace hx117_2:=(cell_far (p:=⟨gb116,0,none⟩) (by exact Wb_ hn117_0) (.int .i64 t113)).trans hx117_2
               replace hx117_0:=(cell_far (p:=⟨gb116,1,none⟩) (by exact Wb_ hn117_1) (.int .i64 t114)).trans hx117_0
               replace hx117_1:=(cell_far (p:=⟨gb116,1,none⟩) (by exact Wb_ hn117_1) (.int .i64 t114)).trans hx117_1
               replace hx117_2:=(cell_far (p:=⟨gb116,1,none⟩) (by exact Wb_ hn117_1) (.int .i64 t114)).trans hx117_2
               clear hn117_0
               clear hn117_1
               replace p117:=eq_true p117
               replace q117:=eq_true q117
               have p118:0≤(t108:Int):=of_decide_eq_true A_
               have q118:t108<(t102.length:Int):=of_decide_eq_true A_
               obtain ⟨ad118,e118,hx118_0,hx118_1,hx118_2⟩:=at_T116 (Kd.R_reads' HO_4.out).2.2 t108 p118 q118
               obtain rfl:ad111=ad118:=(by injection e118)
               have hn118_0:ad111.block≠gb116:=Kd.own_blk (Kd.R_ne HO_4.out BK116.out (by decide))
               have hn118_1:ad111.block≠gb116:=Kd.own_blk (Kd.R_ne HO_4.out BK116.out (by decide))
               replace hx118_0:=(cell_far (p:=⟨gb116,0,none⟩) (by exact Wb_ hn118_0) (.int .i64 t113)).trans hx118_0
               replace hx118_1:=(cell_far (p:=⟨gb116,0,none⟩) (by exact Wb_ hn118_0) (.int .i64 t113)).trans hx118_1
               replace hx118_2:=(cell_far (p:=⟨gb116,0,none⟩) (by exact Wb_ hn118_0) (.int .i64 t113)).trans hx118_2
               replace hx118_0:=(cell_far (p:=⟨gb116,1,none⟩) (by exact Wb_ hn118_1) (.int .i64 t114)).trans hx118_0
               replace hx118_1:=(cell_far (p:=⟨gb116,1,none⟩) (by exact Wb_ hn118_1) (.int .i64 t114)).trans hx118_1
               replace hx118_2:=(cell_far (p:=⟨gb116,1,none⟩) (by exact Wb_ hn118_1) (.int .i64 t114)).trans hx118_2
               clear hn118_0
               clear hn118_1
               replace p118:=eq_true p118
               replace q118:=eq_true q118
               have hnb69:=NB101_116.out
               have hnc69:=NB116_101.out
               have hcz70_0:=cz_ BK101 0
               have hcz70_1:=cz_ BK101 1
               have hcz70_2:=cz_ BK101 2
               have hcz70_3:=cz_ BK101 3
               have hcz70_4:=cz_ BK101 4
               have hfz70_0:=fz_ BK101 0
               have hfz70_1:=fz_ BK101 1
               have hfz70_2:=fz_ BK101 2
               have hfz70_3:=fz_ BK101 3
               have hfz70_4:=fz_ BK101 4
               try go_wp2
               refine bodyPost_ret (results_ct rfl _ _ gb101 57 #[.int .i64 0,.int .i64 0,.string (⟨#[]⟩:ByteArray),.string (⟨#[]⟩:ByteArray),.string (⟨#[]⟩:ByteArray)] (0,0) _ rfl (by (with_reducible repeat (first | refine blk_drewN ?_ _ | refine blk_drew ?_ | refine blk_alloc ?_ _));refine blk_put (cs:= #[.int .i64 0,.int .i64 0,.string (⟨#[]⟩:ByteArray),.string (⟨#[]⟩:ByteArray),.string (⟨#[]⟩:ByteArray)]) ?_ 4 _ rfl;(with_reducible repeat (first | refine blk_drewN ?_ _ | refine blk_drew ?_ | refine blk_alloc ?_ _));refine blk_put (cs:= #[.int .i64 0,.int .i64 0,.string (⟨#[]⟩:ByteArray),.string (⟨#[]⟩:ByteArray),.string (⟨#[]⟩:ByteArray)]) ?_ 3 _ rfl;(with_reducible repeat (first | refine blk_drewN ?_ _ | refine blk_drew ?_ | refine blk_alloc ?_ _));refine blk_put (cs:= #[.int .i64 0,.int .i64 0,.string (⟨#[]⟩:ByteArray),.string (⟨#[]⟩:ByteArray),.string (⟨#[]⟩:ByteArray)]) ?_ 2 _ rfl;(with_reducible repeat (first | refine blk_drewN ?_ _ | refine blk_drew ?_ | refine blk_alloc ?_ _));refine blk_put (cs:= #[.int .i64 0,.int .i64 0,.string (⟨#[]⟩:ByteArray),.string (⟨#[]⟩:ByteArray),.string (⟨#[]⟩:ByteArray)]) ?_ 1 _ rfl;(with_reducible repeat (first | refine blk_drewN ?_ _ | refine blk_drew ?_ | refine blk_alloc ?_ _));refine blk_put (cs:= #[.int .i64 0,.int .i64 0,.string (⟨#[]⟩:ByteArray),.string (⟨#[]⟩:ByteArray),.string (⟨#[]⟩:ByteArray)]) ?_ 0 _ rfl;(with_reducible repeat (first | refine blk_drewN ?_ _ | refine blk_drew ?_ | refine blk_alloc ?_ _));refine blk_far ?_ NB101_116.out _;(with_reducible repeat (first | refine blk_drewN ?_ _ | refine blk_drew ?_ | refine blk_alloc ?_ _));refine blk_far ?_ NB101_116.out _;(with_reducible repeat (first | refine blk_drewN ?_ _ | refine blk_drew ?_ | refine blk_alloc ?_ _));exact BK101.out) Tryz.underlying57 rfl (by kernel_rfl)) rfl ?_
               exact ⟨E_,B_⟩
             ·rw [if_neg c29] at H
              exact absurd H (by simp)
            ·rw [if_neg c28] at H
             exact absurd H (by simp)
           ·rw [if_neg c27] at H
            exact absurd H (by simp)
          ·rw [if_neg c26] at H
           exact absurd H (by simp)
         ·rw [if_neg c25] at H
          exact absurd H (by simp)
        ·rw [if_neg c23] at H
         exact absurd H (by simp)
       ·rw [if_neg c22] at H
        exact absurd H (by simp)
      ·rw [if_neg c21] at H
       exact absurd H (by simp)
     ·rw [if_neg c20] at H
      exact absurd H (by simp)
    ·rw [if_neg c19] at H
     exact absurd H (by simp)
end Go.Proofs.YtfghldonnffldaaGreatDoor.ZFiv
namespace Go.Proofs.YtfghldonnffldaaGreatDoor.ZFiv
open Go.RowKit TBase UOne VTwo XThr YFou YtfghldonnffldaaGreatDoorW.PrintWords YtfghldonnffldaaGreatDoorW.PrintLast YtfghldonnffldaaGreatDoorW.PrintMore
attribute [local go_sem] max2_int min2_int max_two min_two max_three min_three max_four min_four
attribute [local go_sem high] eqA57
def wave_Build.j0:Nat→Bool→Int→Int→ByteArray→ByteArray→ByteArray→Option (ByteArray×Int)
 | 0,_,_,_,_,_,_=>none
 | k+1,x22,x121000,x121001,x121002,x121003,x121004=>if x22=true then (some ((⟨#[]⟩:ByteArray),2100)) else (if x121002.size+x121003.size≤9223372036854775807 then (if (x121002++x121003).size+x121004.size≤9223372036854775807 then ((wave_Parse.f k ((x121002++x121003)++x121004)).bind fun bt121=>(if bt121.2.2.2.2.2=0 then (if ((!(bt121.1==x121000) || (!(bt121.2.1==x121001))) || (!(bt121.2.2.1.toList==x121002.toList) || (!(bt121.2.2.2.1.toList==x121003.toList) || (!(bt121.2.2.2.2.1.toList==x121004.toList)))))=true then (some ((⟨#[]⟩:ByteArray),2100)) else (some ((x121002++x121003)++x121004,0))) else (some ((⟨#[]⟩:ByteArray),2100)))) else (none)) else (none))
def wave_Build.f (k:Nat) (a0_0:Int) (a0_1:Int) (a0_2:ByteArray) (a0_3:ByteArray) (a0_4:ByteArray):Option (ByteArray×Int):=if (a0_2.size:Int)>4096 then (wave_Build.j0 k true a0_0 a0_1 a0_2 a0_3 a0_4) else (if (a0_3.size:Int)>4096 then (wave_Build.j0 k true a0_0 a0_1 a0_2 a0_3 a0_4) else (wave_Build.j0 k (decide ((a0_4.size:Int)>4096)) a0_0 a0_1 a0_2 a0_3 a0_4))
theorem wave_Build.calls (k:Nat) (a0_0:Int) (a0_1:Int) (a0_2:ByteArray) (a0_3:ByteArray) (a0_4:ByteArray) (r1:ByteArray) (r2:Int) (w:World) (h:wave_Build.f k a0_0 a0_1 a0_2 a0_3 a0_4=some (r1,r2)):
  Calls Tryz.prog 33 #[.agg #[.int .i64 a0_0,.int .i64 a0_1,.string a0_2,.string a0_3,.string a0_4]] w fun e w'=>e= .returned (.tuple #[.string r1,.int .i64 r2])∧Below w.heap.size w w':=by
 have hu57:=Tryz.underlying57
 have HB:=Z_ (Below.refl w.heap.size w)
 have H:(if (a0_2.size:Int)>4096 then (wave_Build.j0 k true a0_0 a0_1 a0_2 a0_3 a0_4) else (if (a0_3.size:Int)>4096 then (wave_Build.j0 k true a0_0 a0_1 a0_2 a0_3 a0_4) else (wave_Build.j0 k (decide ((a0_4.size:Int)>4096)) a0_0 a0_1 a0_2 a0_3 a0_4)))=some (r1,r2):=h
 clear h
 have HC2:=Z_ H
 clear H
 go_enter Tryz.func33,Tryz.ntmps33
 go_upto_region 1 with (first | ((try (refine gate_guard (by rfl) ?_;dsimp only));refine X_ 1 #[.int .i64 a0_0,.int .i64 a0_1,.string a0_2,.string a0_3,.string a0_4] 57 ?_;intro gb120 hg w3 hbox hb;have BK120:=Z_ (hbox);have GW120:=Z_ (G2_ hg:w.heap.size≤_);have GE120:=GW120;replace HB:=Hb_ hb;clear hb hbox hg))
 (try simp only [Act.put,List.setIfInBounds_toArray,List.set_cons_zero,List.set_cons_succ])
 go_cut [22] (fun v22 wc=>∃(kq:Nat) (x22_1:Bool),v22= .bool x22_1∧Aside0 (wave_Build.j0 kq x22_1 a0_0 a0_1 a0_2 a0_3 a0_4=some (r1,r2))∧Aside0 (kq≤k)∧Aside0 (wc.heap[gb120]?=some (.cells #[.int .i64 a0_0,.int .i64 a0_1,.string a0_2,.string a0_3,.string a0_4] 57 (0,0)))∧Aside0 (Below w.heap.size w wc))
 case first=>
  have H:=HC2.out
  clear HC2
  by_cases c4:(a0_2.size:Int)>4096
  ·rw [if_pos c4] at H
   have c4b0:decide (4096<(a0_2.size:Int))=true:=decide_eq_true c4
   have c4b1:decide (4096<a0_2.size)=true:=decide_eq_true (by omega)
   clear c4
   (first | rw [c4b0] | (simp only [i64_w,i32_w];rw [c4b0]) | skip)
   have H':=Z_ H
   clear H
   have hcz5_0:=cz_ BK120 0
   have hcz5_1:=cz_ BK120 1
   have hcz5_2:=cz_ BK120 2
   have hcz5_3:=cz_ BK120 3
   have hcz5_4:=cz_ BK120 4
   have hfz5_0:=fz_ BK120 0
   have hfz5_1:=fz_ BK120 1
   have hfz5_2:=fz_ BK120 2
   have hfz5_3:=fz_ BK120 3
   have hfz5_4:=fz_ BK120 4
   go_wp2
   go_meet
   case rel=>exact ⟨_,(true),(E1_),H',⟨L_⟩,⟨(K_ BK120)⟩,⟨B_⟩⟩
  ·rw [if_neg c4] at H
   have c4b0:decide (4096<(a0_2.size:Int))=false:=decide_eq_false c4
   have c4b1:decide (4096<a0_2.size)=false:=decide_eq_false (by omega)
   clear c4
   (first | rw [c4b0] | (simp only [i64_w,i32_w];rw [c4b0]) | skip)
   by_cases c6:(a0_3.size:Int)>4096
   ·rw [if_pos c6] at H
    have c6b0:decide (4096<(a0_3.size:Int))=true:=decide_eq_true c6
    have c6b1:decide (4096<a0_3.size)=true:=decide_eq_true (by omega)
    clear c6
    have H':=Z_ H
    clear H
    have hcz7_0:=cz_ BK120 0
    have hcz7_1:=cz_ BK120 1
    have hcz7_2:=cz_ BK120 2
    have hcz7_3:=cz_ BK120 3
    have hcz7_4:=cz_ BK120 4
    have hfz7_0:=fz_ BK120 0
    have hfz7_1:=fz_ BK120 1
    have hfz7_2:=fz_ BK120 2
    have hfz7_3:=fz_ BK120 3
    have hfz7_4:=fz_ BK120 4
    go_wp2
    go_meet
    case rel=>exact ⟨_,(true),(E1_),H',⟨L_⟩,⟨(K_ BK120)⟩,⟨B_⟩⟩
   ·rw [if_neg c6] at H
    have c6b0:decide (4096<(a0_3.size:Int))=false:=decide_eq_false c6
    have c6b1:decide (4096<a0_3.size)=false:=decide_eq_false (by omega)
    clear c6
    have H':=Z_ H
    clear H
    have hcz8_0:=cz_ BK120 0
    have hcz8_1:=cz_ BK120 1
    have hcz8_2:=cz_ BK120 2
    have hcz8_3:=cz_ BK120 3
    have hcz8_4:=cz_ BK120 4
    have hfz8_0:=fz_ BK120 0
    have hfz8_1:=fz_ BK120 1
    have hfz8_2:=fz_ BK120 2
    have hfz8_3:=fz_ BK120 3
    have hfz8_4:=fz_ BK120 4
    go_wp2
    go_meet
    case rel=>exact ⟨_,(decide ((a0_4.size:Int)>4096)),(E1_),H',⟨L_⟩,⟨(K_ BK120)⟩,⟨B_⟩⟩
 case rest=>
  clear HC2
  try clear p2
  try clear c3
  try clear c4
  try clear c4b0
  try clear c4b1
  try clear c6
  try clear c6b0
  try clear c6b1
  try clear hcz5_0
  try clear hcz5_1
  try clear hcz5_2
  try clear hcz5_3
  try clear hcz5_4
  try clear hcz7_0
  try clear hcz7_1
  try clear hcz7_2
  try clear hcz7_3
  try clear hcz7_4
  try clear hcz8_0
  try clear hcz8_1
  try clear hcz8_2
  try clear hcz8_3
  try clear hcz8_4
  try clear hfz5_0
  try clear hfz5_1
  try clear hfz5_2
  try clear hfz5_3
  try clear hfz5_4
  try clear hfz7_0
  try clear hfz7_1
  try clear hfz7_2
  try clear hfz7_3
  try clear hfz7_4
  try clear hfz8_0
  try clear hfz8_1
  try clear hfz8_2
  try clear hfz8_3
  try clear hfz8_4
  obtain ⟨kq,x22_1,rfl,HA,HJ1,BK120,HB⟩:=hcut
  cases kq with
  | zero=>exact absurd HA.out (by simp [wave_Build.j0])
  | succ kj1=>
   have H:=HA.out
   clear HA
   simp only [wave_Build.j0] at H
   by_cases c9:x22_1=true
   ·subst c9
    rw [if_pos rfl] at H
    simp only [Option.some.injEq,Prod.mk.injEq] at H
    obtain ⟨rfl,rfl⟩:=H
    go_wp2
    go_ret2
    exact ⟨E_,B_⟩
   ·replace c9:=Bool.eq_false_iff.mpr c9
    subst c9
    rw [if_neg (show ¬(false=true) by decide)] at H
    by_cases c10:a0_2.size+a0_3.size≤9223372036854775807
    ·rw [if_pos c10] at H
     have c10b0:=eq_true c10
     have c10b1:=decide_eq_true c10
     try have c10b2:(9223372036854775807<a0_2.size+a0_3.size)=False:=eq_false (Nat.not_lt.2 c10)
     by_cases c11:(a0_2++a0_3).size+a0_4.size≤9223372036854775807
     ·rw [if_pos c11] at H
      have c11b0:=eq_true c11
      have c11b1:=decide_eq_true c11
      try have c11b2:(9223372036854775807<(a0_2++a0_3).size+a0_4.size)=False:=eq_false (Nat.not_lt.2 c11)
      (try (have c11b3:=c11b2;simp only [ByteArray.size_append] at c11b3))
      replace H:=Option.bind_eq_some_iff.mp H
      obtain ⟨⟨t121,t122,t123,t124,t125,t126⟩,A120,H⟩:=H
      (try dsimp only at H)
      have A12:=Z_ A120
      clear A120
      by_cases c13:t126=0
      ·rw [if_pos c13] at H
       have c13b0:(t126==0)=true:=beq_iff_eq.mpr c13
       have c13b1:(t126 !=0)=false:=bne_eq_false_iff_eq.mpr c13
       clear c13
       by_cases c14:((!(t121==a0_0) || (!(t122==a0_1))) || (!(t123.toList==a0_2.toList) || (!(t124.toList==a0_3.toList) || (!(t125.toList==a0_4.toList)))))=true
       ·rw [if_pos c14] at H
        have c14b0:((!(t121==a0_0) || (!(t122==a0_1))) || (!(t123.toList==a0_2.toList) || (!(t124.toList==a0_3.toList) || (!(t125.toList==a0_4.toList)))))=true:=c14
        clear c14
        simp only [Option.some.injEq,Prod.mk.injEq] at H
        obtain ⟨rfl,rfl⟩:=H
        have hcz15_0:=cz_ BK120 0
        have hcz15_1:=cz_ BK120 1
        have hcz15_2:=cz_ BK120 2
        have hcz15_3:=cz_ BK120 3
        have hcz15_4:=cz_ BK120 4
        have hfz15_0:=fz_ BK120 0
        have hfz15_1:=fz_ BK120 1
        have hfz15_2:=fz_ BK120 2
        have hfz15_3:=fz_ BK120 3
        have hfz15_4:=fz_ BK120 4
        go_wp2_with (first | (refine G_ 33 Tryz.func24 #[.string ((a0_2++a0_3)++a0_4)] ?_;refine (wave_Parse.calls kj1 ((a0_2++a0_3)++a0_4) t121 t122 t123 t124 t125 t126 _ A12.out).mono ?_;rintro e w16 ⟨rfl,hb⟩;refine ⟨_,rfl,?_⟩;replace BK120:=Z_ (blk_below (K_ BK120) hb);replace HB:=Hb_ hb;(try clear hb)) | ((try (refine gate_guard (by rfl) ?_;dsimp only));refine X_ 5 #[.int .i64 0,.int .i64 0,.string (⟨#[]⟩:ByteArray),.string (⟨#[]⟩:ByteArray),.string (⟨#[]⟩:ByteArray)] 57 ?_;intro gb127 hg w17 hbox hb;have BK127:=Z_ (hbox);have GW127:=Z_ (G2_ hg:w.heap.size≤_);have GE127:=GW127;replace HB:=Hb_ hb;have NB120_127:=Z_ ((by rw [hg];exact Nat.ne_of_lt (blk_lt (g:=gb120) (o:= .cells #[.int .i64 a0_0,.int .i64 a0_1,.string a0_2,.string a0_3,.string a0_4] 57 (0,0)) (K_ BK120)):gb120≠gb127));have NB127_120:=Z_ ((by rw [hg];exact Nat.ne_of_gt (blk_lt (g:=gb120) (o:= .cells #[.int .i64 a0_0,.int .i64 a0_1,.string a0_2,.string a0_3,.string a0_4] 57 (0,0)) (K_ BK120)):gb127≠gb120));replace BK120:=Z_ (blk_below (K_ BK120) hb);clear hb hbox hg;have hnb18:=NB127_120.out;have hnc18:=NB120_127.out;have hcz19_0:=cz_ BK127 0;have hcz19_1:=cz_ BK127 1;have hcz19_2:=cz_ BK127 2;have hcz19_3:=cz_ BK127 3;have hcz19_4:=cz_ BK127 4;have hfz19_0:=fz_ BK127 0;have hfz19_1:=fz_ BK127 1;have hfz19_2:=fz_ BK127 2;have hfz19_3:=fz_ BK127 3;have hfz19_4:=fz_ BK127 4;have hcz20_0:=cz_ BK120 0;have hcz20_1:=cz_ BK120 1;have hcz20_2:=cz_ BK120 2;have hcz20_3:=cz_ BK120 3;have hcz20_4:=cz_ BK120 4;have hfz20_0:=fz_ BK120 0;have hfz20_1:=fz_ BK120 1;have hfz20_2:=fz_ BK120 2;have hfz20_3:=fz_ BK120 3;have hfz20_4:=fz_ BK120 4))
        go_ret2
        exact ⟨E_,B_⟩
       ·rw [if_neg c14] at H
        have c14b0:((!(t121==a0_0) || (!(t122==a0_1))) || (!(t123.toList==a0_2.toList) || (!(t124.toList==a0_3.toList) || (!(t125.toList==a0_4.toList)))))=false:=by simpa using c14
        clear c14
        simp only [Option.some.injEq,Prod.mk.injEq] at H
        obtain ⟨rfl,rfl⟩:=H
        have hcz21_0:=cz_ BK120 0
        have hcz21_1:=cz_ BK120 1
        have hcz21_2:=cz_ BK120 2
        have hcz21_3:=cz_ BK120 3
        have hcz21_4:=cz_ BK120 4
        have hfz21_0:=fz_ BK120 0
        have hfz21_1:=fz_ BK120 1
        have hfz21_2:=fz_ BK120 2
        have hfz21_3:=fz_ BK120 3
        have hfz21_4:=fz_ BK120 4
        go_wp2_with (first | (refine G_ 33 Tryz.func24 #[.string ((a0_2++a0_3)++a0_4)] ?_;refine (wave_Parse.calls kj1 ((a0_2++a0_3)++a0_4) t121 t122 t123 t124 t125 t126 _ A12.out).mono ?_;rintro e w22 ⟨rfl,hb⟩;refine ⟨_,rfl,?_⟩;replace BK120:=Z_ (blk_below (K_ BK120) hb);replace HB:=Hb_ hb;(try clear hb)) | ((try (refine gate_guard (by rfl) ?_;dsimp only));refine X_ 5 #[.int .i64 0,.int .i64 0,.string (⟨#[]⟩:ByteArray),.string (⟨#[]⟩:ByteArray),.string (⟨#[]⟩:ByteArray)] 57 ?_;intro gb127 hg w23 hbox hb;have BK127:=Z_ (hbox);have GW127:=Z_ (G2_ hg:w.heap.size≤_);have GE127:=GW127;replace HB:=Hb_ hb;have NB120_127:=Z_ ((by rw [hg];exact Nat.ne_of_lt (blk_lt (g:=gb120) (o:= .cells #[.int .i64 a0_0,.int .i64 a0_1,.string a0_2,.string a0_3,.string a0_4] 57 (0,0)) (K_ BK120)):gb120≠gb127));have NB127_120:=Z_ ((by rw [hg];exact Nat.ne_of_gt (blk_lt (g:=gb120) (o:= .cells #[.int .i64 a0_0,.int .i64 a0_1,.string a0_2,.string a0_3,.string a0_4] 57 (0,0)) (K_ BK120)):gb127≠gb120));replace BK120:=Z_ (blk_below (K_ BK120) hb);clear hb hbox hg;have hnb24:=NB127_120.out;have hnc24:=NB120_127.out;have hcz25_0:=cz_ BK127 0;have hcz25_1:=cz_ BK127 1;have hcz25_2:=cz_ BK127 2;have hcz25_3:=cz_ BK127 3;have hcz25_4:=cz_ BK127 4;have hfz25_0:=fz_ BK127 0;have hfz25_1:=fz_ BK127 1;have hfz25_2:=fz_ BK127 2;have hfz25_3:=fz_ BK127 3;have hfz25_4:=fz_ BK127 4;have hcz26_0:=cz_ BK120 0;have hcz26_1:=cz_ BK120 1;have hcz26_2:=cz_ BK120 2;have hcz26_3:=cz_ BK120 3;have hcz26_4:=cz_ BK120 4;have hfz26_0:=fz_ BK120 0;have hfz26_1:=fz_ BK120 1;have hfz26_2:=fz_ BK120 2;have hfz26_3:=fz_ BK120 3;have hfz26_4:=fz_ BK120 4))
        go_ret2
        exact ⟨E_,B_⟩
      ·rw [if_neg c13] at H
       have c13b0:(t126==0)=false:=beq_eq_false_iff_ne.mpr c13
       have c13b1:(t126 !=0)=true:=bne_iff_ne.mpr c13
       simp only [Option.some.injEq,Prod.mk.injEq] at H
       obtain ⟨rfl,rfl⟩:=H
       have hcz27_0:=cz_ BK120 0
       have hcz27_1:=cz_ BK120 1
       have hcz27_2:=cz_ BK120 2
       have hcz27_3:=cz_ BK120 3
       have hcz27_4:=cz_ BK120 4
       have hfz27_0:=fz_ BK120 0
       have hfz27_1:=fz_ BK120 1
       have hfz27_2:=fz_ BK120 2
       have hfz27_3:=fz_ BK120 3
       have hfz27_4:=fz_ BK120 4
       go_wp2_with (first | (refine G_ 33 Tryz.func24 #[.string ((a0_2++a0_3)++a0_4)] ?_;refine (wave_Parse.calls kj1 ((a0_2++a0_3)++a0_4) t121 t122 t123 t124 t125 t126 _ A12.out).mono ?_;rintro e w28 ⟨rfl,hb⟩;refine ⟨_,rfl,?_⟩;replace BK120:=Z_ (blk_below (K_ BK120) hb);replace HB:=Hb_ hb;(try clear hb)) | ((try (refine gate_guard (by rfl) ?_;dsimp only));refine X_ 5 #[.int .i64 0,.int .i64 0,.string (⟨#[]⟩:ByteArray),.string (⟨#[]⟩:ByteArray),.string (⟨#[]⟩:ByteArray)] 57 ?_;intro gb127 hg w29 hbox hb;have BK127:=Z_ (hbox);have GW127:=Z_ (G2_ hg:w.heap.size≤_);have GE127:=GW127;replace HB:=Hb_ hb;have NB120_127:=Z_ ((by rw [hg];exact Nat.ne_of_lt (blk_lt (g:=gb120) (o:= .cells #[.int .i64 a0_0,.int .i64 a0_1,.string a0_2,.string a0_3,.string a0_4] 57 (0,0)) (K_ BK120)):gb120≠gb127));have NB127_120:=Z_ ((by rw [hg];exact Nat.ne_of_gt (blk_lt (g:=gb120) (o:= .cells #[.int .i64 a0_0,.int .i64 a0_1,.string a0_2,.string a0_3,.string a0_4] 57 (0,0)) (K_ BK120)):gb127≠gb120));replace BK120:=Z_ (blk_below (K_ BK120) hb);clear hb hbox hg;have hnb30:=NB127_120.out;have hnc30:=NB120_127.out;have hcz31_0:=cz_ BK127 0;have hcz31_1:=cz_ BK127 1;have hcz31_2:=cz_ BK127 2;have hcz31_3:=cz_ BK127 3;have hcz31_4:=cz_ BK127 4;have hfz31_0:=fz_ BK127 0;have hfz31_1:=fz_ BK127 1;have hfz31_2:=fz_ BK127 2;have hfz31_3:=fz_ BK127 3;have hfz31_4:=fz_ BK127 4))
       go_ret2
       exact ⟨E_,B_⟩
     ·rw [if_neg c11] at H
      exact absurd H (by simp)
    ·rw [if_neg c10] at H
     exact absurd H (by simp)
end Go.Proofs.YtfghldonnffldaaGreatDoor.ZFiv
namespace Go.Proofs.YtfghldonnffldaaGreatDoor.ZFiv
open Go.RowKit TBase UOne VTwo XThr YFou YtfghldonnffldaaGreatDoorW.PrintWords YtfghldonnffldaaGreatDoorW.PrintLast YtfghldonnffldaaGreatDoorW.PrintMore
attribute [local go_sem] max2_int min2_int max_two min_two max_three min_three max_four min_four
end Go.Proofs.YtfghldonnffldaaGreatDoor.ZFiv
namespace Go.Proofs.YtfghldonnffldaaGreatDoor.QSix
open Go.RowKit TBase UOne VTwo XThr YFou ZFiv YtfghldonnffldaaGreatDoorW.PrintWords YtfghldonnffldaaGreatDoorW.PrintLast YtfghldonnffldaaGreatDoorW.PrintMore
attribute [local go_sem] max2_int min2_int max_two min_two max_three min_three max_four min_four
theorem info9:(Tryz.prog.info? 9).map (fun i=>(i.zero,i.size,i.bytes))=some (some (.string ⟨#[]⟩),1,16):=by kernel_rfl
mutual
def file_Encode.j0:Nat→Int→Bool→Int→Int→ByteArray→ByteArray→ByteArray→Option (ByteArray×Int)
 | 0,_,_,_,_,_,_,_=>none
 | k+1,x1,x28,x108000,x108001,x108002,x108003,x108004=>if x28=true then (some ((⟨#[]⟩:ByteArray),2400)) else ((pcm_Frame.f x108000 x108001).bind fun t108=>(if t108=0 then (none) else (file_Encode.l0 k x1 t108 0 x108000 x108001 x108002 x108003 x108004 x108000 x108001 x1 (wrap64 ((x108003.size:Int) / t108)) x108002 x108004 ([]:List ByteArray))))
def file_Encode.l0:Nat→Int→Int→Int→Int→Int→ByteArray→ByteArray→ByteArray→Int→Int→Int→Int→ByteArray→ByteArray→List ByteArray→Option (ByteArray×Int)
 | 0,_,_,_,_,_,_,_,_,_,_,_,_,_,_,_=>none
 | k+1,x1,x8,x10,x108000,x108001,x108002,x108003,x108004,x110000,x110001,x110002,x110003,x110004,x110005,x110006=>if x10<(x108003.size:Int) then (if 0≤x10 then (if x10≤(mn (wrap64 (x10+(wrap64 (x1*x8)))) (x108003.size:Int)) then (if (mn (wrap64 (x10+(wrap64 (x1*x8)))) (x108003.size:Int))≤(x108003.size:Int) then ((segment_Put.f k (x108003.extract (x10:Int).toNat ((mn (wrap64 (x10+(wrap64 (x1*x8)))) (x108003.size:Int)):Int).toNat) x108000 x108001).bind fun bt110=>(if x110006.length<8796093022208 then (file_Encode.l0 k x1 x8 (wrap64 (x10+(wrap64 (x1*x8)))) x108000 x108001 x108002 x108003 x108004 x110000 x110001 x110002 x110003 x110004 x110005 (x110006++ [bt110.1])) else (none))) else (none)) else (none)) else (none)) else ((stream_Put.f x110000 x110001 x110002 x110003 x110004 x110005 x110006).bind fun bt115=>(if bt115.2=0 then (some (bt115.1,0)) else (some ((⟨#[]⟩:ByteArray),2400))))
end
def file_Encode.f (k:Nat) (a0:ByteArray) (a1:Int):Option (ByteArray×Int):=(wave_Parse.f k a0).bind fun bt101=>(if bt101.2.2.2.2.2=0 then (if a1<1 then (file_Encode.j0 k a1 true bt101.1 bt101.2.1 bt101.2.2.1 bt101.2.2.2.1 bt101.2.2.2.2.1) else (file_Encode.j0 k a1 (decide (a1>64)) bt101.1 bt101.2.1 bt101.2.2.1 bt101.2.2.2.1 bt101.2.2.2.2.1)) else (file_Encode.j0 k a1 true bt101.1 bt101.2.1 bt101.2.2.1 bt101.2.2.2.1 bt101.2.2.2.2.1))
def file_Encode.T5:Bool×List (List Nat×List Nat):=(true,[([],[]),([0],[0]),([],[]),([],[]),([3],[3]),([4],[4]),([],[]),([5,6],[5,6]),([],[]),([8],[8]),([],[]),([10],[10]),([1,2,7,9,11],[1,2,7,9,11]),([],[]),([13,12,0,1,2,3,4,5,6,7,8,9,10,11,12,13],[12,13])])
def file_Encode.B5:List Nat:= [0,1,0,0,8,24,0,120,0,256,0,1024,4095,0,16383]
theorem file_Encode.tab5:rtab .any (opsOf Tryz.f10 5)=file_Encode.T5:=by kernel_rfl
theorem file_Encode.bits5:waitsOk file_Encode.T5.2 file_Encode.B5=true:=by kernel_rfl
def file_Encode.T9:Bool×List (List Nat×List Nat):=(true,[([],[]),([0],[0]),([],[]),([],[]),([],[]),([],[]),([4,5],[4,5]),([3,6],[3,6]),([],[]),([8],[8]),([9],[9]),([7,10],[7,10]),([1,2,11],[1,2,11]),([],[]),([13],[13]),([12,14],[12,14]),([15],[15]),([16],[16]),([16],[16]),([17,15,0,1,2,3,4,5,6,7,8,9,10,11,12,13,14,15,16,17],[17]),([18,19,0,1,2,3,4,5,6,7,8,9,10,11,12,13,14,15,16,17,18,19],[18])])
def file_Encode.B9:List Nat:= [0,1,0,0,0,0,48,120,0,256,768,2040,4095,0,8192,32767,65535,131071,131071,262143,1048575]
theorem file_Encode.tab9:rtab .any (opsOf Tryz.f10 9)=file_Encode.T9:=by kernel_rfl
theorem file_Encode.bits9:waitsOk file_Encode.T9.2 file_Encode.B9=true:=by kernel_rfl
theorem file_Encode.calls (k:Nat) (a0:ByteArray) (a1:Int) (r1:ByteArray) (r2:Int) (w:World) (h:file_Encode.f k a0 a1=some (r1,r2)) (hT:Tabs w:=by exact Tabs.below hT B_):
  Calls Tryz.prog 10 #[.string a0,.int .i64 a1] w fun e w'=>e= .returned (.tuple #[.string r1,.int .i64 r2])∧Below w.heap.size w w':=by
 have hu57:=Tryz.underlying57
 have hu23:=Tryz.underlying23
 have hu49:=Tryz.underlying49
 have HB:=Z_ (Below.refl w.heap.size w)
 have H:((wave_Parse.f k a0).bind fun bt101=>(if bt101.2.2.2.2.2=0 then (if a1<1 then (file_Encode.j0 k a1 true bt101.1 bt101.2.1 bt101.2.2.1 bt101.2.2.2.1 bt101.2.2.2.2.1) else (file_Encode.j0 k a1 (decide (a1>64)) bt101.1 bt101.2.1 bt101.2.2.1 bt101.2.2.2.1 bt101.2.2.2.2.1)) else (file_Encode.j0 k a1 true bt101.1 bt101.2.1 bt101.2.2.1 bt101.2.2.2.1 bt101.2.2.2.2.1)))=some (r1,r2):=h
 clear h
 replace H:=Option.bind_eq_some_iff.mp H
 obtain ⟨⟨t101,t102,t103,t104,t105,t106⟩,A30,H⟩:=H
 (try dsimp only at H)
 have A3:=Z_ A30
 clear A30
 have HC4:=Z_ H
 clear H
 go_enter Tryz.func10,Tryz.ntmps10
 go_upto_region 2 with (first | (refine G_ 16 Tryz.func24 #[.string a0] ?_;refine (wave_Parse.calls k a0 t101 t102 t103 t104 t105 t106 _ A3.out).mono ?_;rintro e w5 ⟨rfl,hb⟩;refine ⟨_,rfl,?_⟩;replace HB:=Hb_ hb;(try clear hb)) | (refine X_ 6 #[.int .i64 0,.int .i64 0,.string (⟨#[]⟩:ByteArray),.string (⟨#[]⟩:ByteArray),.string (⟨#[]⟩:ByteArray)] 57 ?_;intro gb107 hg w6 hbox hb;have BK107:=Z_ (hbox);have GW107:=Z_ (G2_ hg:w.heap.size≤_);have GE107:=GW107;replace HB:=Hb_ hb;clear hb hbox hg;have hcz7_0:=cz_ BK107 0;have hcz7_1:=cz_ BK107 1;have hcz7_2:=cz_ BK107 2;have hcz7_3:=cz_ BK107 3;have hcz7_4:=cz_ BK107 4;have hfz7_0:=fz_ BK107 0;have hfz7_1:=fz_ BK107 1;have hfz7_2:=fz_ BK107 2;have hfz7_3:=fz_ BK107 3;have hfz7_4:=fz_ BK107 4))
 (try simp only [Act.put,List.setIfInBounds_toArray,List.set_cons_zero,List.set_cons_succ])
 go_cut [28] (fun v28 wc=>∃(kq:Nat) (x28_3:Bool),v28= .bool x28_3∧Aside0 (file_Encode.j0 kq a1 x28_3 t101 t102 t103 t104 t105=some (r1,r2))∧Aside0 (kq≤k)∧Aside0 (wc.heap[gb107]?=some (.cells #[.int .i64 t101,.int .i64 t102,.string t103,.string t104,.string t105] 57 (0,0)))∧Aside0 (Below w.heap.size w wc))
 case first=>
  have H:=HC4.out
  clear HC4
  by_cases c8:t106=0
  ·rw [if_pos c8] at H
   have c8b0:(t106==0)=true:=beq_iff_eq.mpr c8
   have c8b1:(t106 !=0)=false:=bne_eq_false_iff_eq.mpr c8
   clear c8
   (first | rw [c8b0] | (simp only [i64_w,i32_w];rw [c8b0]) | skip)
   by_cases c9:a1<1
   ·rw [if_pos c9] at H
    have c9b0:=decide_eq_true c9
    clear c9
    have H':=Z_ H
    clear H
    go_wp2
    go_meet
    case rel=>exact ⟨_,(true),(E1_),H',⟨L_⟩,⟨(blk_put (cs:= #[.int .i64 t101,.int .i64 t102,.string t103,.string t104,.string (⟨#[]⟩:ByteArray)]) (blk_put (cs:= #[.int .i64 t101,.int .i64 t102,.string t103,.string (⟨#[]⟩:ByteArray),.string (⟨#[]⟩:ByteArray)]) (blk_put (cs:= #[.int .i64 t101,.int .i64 t102,.string (⟨#[]⟩:ByteArray),.string (⟨#[]⟩:ByteArray),.string (⟨#[]⟩:ByteArray)]) (blk_put (cs:= #[.int .i64 t101,.int .i64 0,.string (⟨#[]⟩:ByteArray),.string (⟨#[]⟩:ByteArray),.string (⟨#[]⟩:ByteArray)]) (blk_put (cs:= #[.int .i64 0,.int .i64 0,.string (⟨#[]⟩:ByteArray),.string (⟨#[]⟩:ByteArray),.string (⟨#[]⟩:ByteArray)]) (K_ BK107) 0 _ rfl) 1 _ rfl) 2 _ rfl) 3 _ rfl) 4 _ rfl)⟩,⟨B_⟩⟩
   ·rw [if_neg c9] at H
    have c9b0:=decide_eq_false c9
    clear c9
    have H':=Z_ H
    clear H
    go_wp2
    go_meet
    case rel=>exact ⟨_,(decide (a1>64)),(E1_),H',⟨L_⟩,⟨(blk_put (cs:= #[.int .i64 t101,.int .i64 t102,.string t103,.string t104,.string (⟨#[]⟩:ByteArray)]) (blk_put (cs:= #[.int .i64 t101,.int .i64 t102,.string t103,.string (⟨#[]⟩:ByteArray),.string (⟨#[]⟩:ByteArray)]) (blk_put (cs:= #[.int .i64 t101,.int .i64 t102,.string (⟨#[]⟩:ByteArray),.string (⟨#[]⟩:ByteArray),.string (⟨#[]⟩:ByteArray)]) (blk_put (cs:= #[.int .i64 t101,.int .i64 0,.string (⟨#[]⟩:ByteArray),.string (⟨#[]⟩:ByteArray),.string (⟨#[]⟩:ByteArray)]) (blk_put (cs:= #[.int .i64 0,.int .i64 0,.string (⟨#[]⟩:ByteArray),.string (⟨#[]⟩:ByteArray),.string (⟨#[]⟩:ByteArray)]) (K_ BK107) 0 _ rfl) 1 _ rfl) 2 _ rfl) 3 _ rfl) 4 _ rfl)⟩,⟨B_⟩⟩
  ·rw [if_neg c8] at H
   have c8b0:(t106==0)=false:=beq_eq_false_iff_ne.mpr c8
   have c8b1:(t106 !=0)=true:=bne_iff_ne.mpr c8
   (first | rw [c8b0] | (simp only [i64_w,i32_w];rw [c8b0]) | skip)
   have H':=Z_ H
   clear H
   go_wp2
   go_meet
   case rel=>exact ⟨_,(true),(E1_),H',⟨L_⟩,⟨(blk_put (cs:= #[.int .i64 t101,.int .i64 t102,.string t103,.string t104,.string (⟨#[]⟩:ByteArray)]) (blk_put (cs:= #[.int .i64 t101,.int .i64 t102,.string t103,.string (⟨#[]⟩:ByteArray),.string (⟨#[]⟩:ByteArray)]) (blk_put (cs:= #[.int .i64 t101,.int .i64 t102,.string (⟨#[]⟩:ByteArray),.string (⟨#[]⟩:ByteArray),.string (⟨#[]⟩:ByteArray)]) (blk_put (cs:= #[.int .i64 t101,.int .i64 0,.string (⟨#[]⟩:ByteArray),.string (⟨#[]⟩:ByteArray),.string (⟨#[]⟩:ByteArray)]) (blk_put (cs:= #[.int .i64 0,.int .i64 0,.string (⟨#[]⟩:ByteArray),.string (⟨#[]⟩:ByteArray),.string (⟨#[]⟩:ByteArray)]) (K_ BK107) 0 _ rfl) 1 _ rfl) 2 _ rfl) 3 _ rfl) 4 _ rfl)⟩,⟨B_⟩⟩
 case rest=>
  clear HC4
  try clear c1
  try clear c2
  try clear p2
  try clear c8
  try clear c8b0
  try clear c8b1
  try clear c9
  try clear c9b0
  try clear hcz7_0
  try clear hcz7_1
  try clear hcz7_2
  try clear hcz7_3
  try clear hcz7_4
  try clear hfz7_0
  try clear hfz7_1
  try clear hfz7_2
  try clear hfz7_3
  try clear hfz7_4
  obtain ⟨kq,x28_3,rfl,HA,HJ3,BK107,HB⟩:=hcut
  cases kq with
  | zero=>exact absurd HA.out (by simp [file_Encode.j0])
  | succ kj3=>
   have H:=HA.out
   clear HA
   simp only [file_Encode.j0] at H
   by_cases c10:x28_3=true
   ·subst c10
    rw [if_pos rfl] at H
    simp only [Option.some.injEq,Prod.mk.injEq] at H
    obtain ⟨rfl,rfl⟩:=H
    go_wp2
    go_ret2
    exact ⟨E_,B_⟩
   ·replace c10:=Bool.eq_false_iff.mpr c10
    subst c10
    rw [if_neg (show ¬(false=true) by decide)] at H
    replace H:=Option.bind_eq_some_iff.mp H
    obtain ⟨t108,A110,H⟩:=H
    (try dsimp only at H)
    have A11:=Z_ A110
    clear A110
    by_cases c12:t108=0
    ·rw [if_pos c12] at H
     exact absurd H (by simp)
    ·rw [if_neg c12] at H
     have c12b0:(t108==0)=false:=beq_eq_false_iff_ne.mpr c12
     have c12b1:(t108 !=0)=true:=bne_iff_ne.mpr c12
     have H':=Z_ H
     clear H
     have hcz13_0:=cz_ BK107 0
     have hcz13_1:=cz_ BK107 1
     have hcz13_2:=cz_ BK107 2
     have hcz13_3:=cz_ BK107 3
     have hcz13_4:=cz_ BK107 4
     have hfz13_0:=fz_ BK107 0
     have hfz13_1:=fz_ BK107 1
     have hfz13_2:=fz_ BK107 2
     have hfz13_3:=fz_ BK107 3
     have hfz13_4:=fz_ BK107 4
     try go_wp2_with (first | (refine G_ 31 Tryz.func29 #[.agg #[.int .i64 t101,.int .i64 t102]] ?_;refine (pcm_Frame.calls t101 t102 t108 _ A11.out).mono ?_;rintro e w14 ⟨rfl,hb⟩;refine ⟨_,rfl,?_⟩;replace BK107:=Z_ (blk_below (K_ BK107) hb);replace HB:=Hb_ hb;(try clear hb)))
     replace BK107:=Z_ (blk_drew BK107.out)
     replace HB:=Z_ (below_drew1 HB.out)
     refine start_ (n:=15) (S:=fun w'=>w'.cell? ⟨gb107,0,none⟩=some (.int .i64 t101)∧w'.cell? ⟨gb107,1,none⟩=some (.int .i64 t102)∧w'.cell? ⟨gb107,2,none⟩=some (.string t103)∧w'.cell? ⟨gb107,3,none⟩=some (.string t104)∧w'.cell? ⟨gb107,4,none⟩=some (.string t105)) (ds:= []) #[false,false,false,false,false,false,false,false,false,false,false,false,false,false,false] (by kernel_rfl) rfl rfl ⟨(blk_cell BK107.out 0).trans rfl,(blk_cell BK107.out 1).trans rfl,(blk_cell BK107.out 2).trans rfl,(blk_cell BK107.out 3).trans rfl,(blk_cell BK107.out 4).trans rfl⟩ (fun hHeld=>?_);refine with_tabW file_Encode.tab5 file_Encode.bits5 (fun HT_ HW_=>?_)
     generalize w14.drew=w15 at BK107 HB hHeld ⊢
     refine P_ 0 32 ?_
     refine P_ 2 34 ?_
     refine P_ 3 35 ?_
     refine P_ 6 38 ?_
     refine P_ 8 40 ?_
     refine P_ 10 42 ?_
     refine T_ 1 33 (y:=by rintro w' ⟨s0,s1,s2,s3,s4⟩;go_simp;with_reducible rfl) (h:=?_)
     refine T_ 4 36 (y:=by rintro w' ⟨s0,s1,s2,s3,s4⟩;go_simp;with_reducible rfl) (h:=?_)
     refine P_ 5 37 ?_
     refine P_ 7 39 ?_
     refine T_ 9 41 (y:=by rintro w' ⟨s0,s1,s2,s3,s4⟩;go_simp;with_reducible rfl) (h:=?_)
     refine T_ 11 43 (y:=by rintro w' ⟨s0,s1,s2,s3,s4⟩;go_simp;with_reducible rfl) (h:=?_)
     refine P_ 12 44 ?_
     refine O_ 13 9 fun K hK=>?_
     refine box_step ?hg (N:=9) ?hd (cs:= #[.int .i64 0,.int .i64 0,.int .i64 0,.int .i64 0,.string (⟨#[]⟩:ByteArray),.string (⟨#[]⟩:ByteArray),.slice none 0 0]) (t:=49) ?hr ?_;(case hd=>rfl);(case hg=>rfl);(case hr=>first | (go_simp;done) | (go_simp;rfl))
     intro gb109 hg w16 hbox hb
     have BK109:=Z_ (hbox)
     have GW109:=Z_ ((G2_ hg:w.heap.size≤_))
     have GE109:=Z_ ((G2_ hg:w.heap.size≤_))
     replace HB:=Hb_ hb
     have NB107_109:=Z_ ((by rw [hg];exact Nat.ne_of_lt (blk_lt (g:=gb107) (o:= .cells #[.int .i64 t101,.int .i64 t102,.string t103,.string t104,.string t105] 57 (0,0)) (K_ BK107)):gb107≠gb109))
     have NB109_107:=Z_ ((by rw [hg];exact Nat.ne_of_gt (blk_lt (g:=gb107) (o:= .cells #[.int .i64 t101,.int .i64 t102,.string t103,.string t104,.string t105] 57 (0,0)) (K_ BK107)):gb109≠gb107))
     replace BK107:=Z_ (blk_below (K_ BK107) hb)
     clear hb hbox hg
     refine hK.out _ _ ⟨(blk_cell BK107.out 0).trans rfl,(blk_cell BK107.out 1).trans rfl,(blk_cell BK107.out 2).trans rfl,(blk_cell BK107.out 3).trans rfl,(blk_cell BK107.out 4).trans rfl⟩ (fun hHeld=>?_)
     clear hK K
     refine Nm_ 9 ?_
     refine one_ (i:=14) (N:=none) #[true,true,true,true,true,true,true,true,true,true,true,true,true,true,true] rfl rfl (one_of HT_.out (by kernel_rfl)) (by decide) (fun K hK=>?_)
     have hs17:w16.cell? ⟨gb109,0,none⟩=some (.int .i64 0):=(blk_cell BK109.out 0).trans rfl
     have hfs17:=blk_frozen BK109.out 0
     have hns17_0:=NB107_109.out
     have hms17_0:=NB109_107.out
     have hs18:w16.cell? ⟨gb109,1,none⟩=some (.int .i64 0):=(blk_cell BK109.out 1).trans rfl
     have hfs18:=blk_frozen BK109.out 1
     have hns18_0:=NB107_109.out
     have hms18_0:=NB109_107.out
     have hs19:w16.cell? ⟨gb109,2,none⟩=some (.int .i64 0):=(blk_cell BK109.out 2).trans rfl
     have hfs19:=blk_frozen BK109.out 2
     have hns19_0:=NB107_109.out
     have hms19_0:=NB109_107.out
     have hs20:w16.cell? ⟨gb109,3,none⟩=some (.int .i64 0):=(blk_cell BK109.out 3).trans rfl
     have hfs20:=blk_frozen BK109.out 3
     have hns20_0:=NB107_109.out
     have hms20_0:=NB109_107.out
     have hs21:w16.cell? ⟨gb109,4,none⟩=some (.string (⟨#[]⟩:ByteArray)):=(blk_cell BK109.out 4).trans rfl
     have hfs21:=blk_frozen BK109.out 4
     have hns21_0:=NB107_109.out
     have hms21_0:=NB109_107.out
     have hs22:w16.cell? ⟨gb109,5,none⟩=some (.string (⟨#[]⟩:ByteArray)):=(blk_cell BK109.out 5).trans rfl
     have hfs22:=blk_frozen BK109.out 5
     have hns22_0:=NB107_109.out
     have hms22_0:=NB109_107.out
     have hs23:w16.cell? ⟨gb109,6,none⟩=some (.slice none 0 0):=(blk_cell BK109.out 6).trans rfl
     have hfs23:=blk_frozen BK109.out 6
     have hns23_0:=NB107_109.out
     have hms23_0:=NB109_107.out
     refine skip_ (w1:=?_) (by rfl) rfl ?_ ?_
     rotate_left
     ·go_simp
      rfl
     refine hK.out _ _ ⟨((cell_far (p:=⟨gb109,_,none⟩) NB107_109.out _).trans (((cell_far (p:=⟨gb109,_,none⟩) NB107_109.out _).trans (((cell_far (p:=⟨gb109,_,none⟩) NB107_109.out _).trans (((cell_far (p:=⟨gb109,_,none⟩) NB107_109.out _).trans (((cell_far (p:=⟨gb109,_,none⟩) NB107_109.out _).trans (((cell_far (p:=⟨gb109,_,none⟩) NB107_109.out _).trans (((cell_far (p:=⟨gb109,_,none⟩) NB107_109.out _).trans (hHeld.1)))))))))))))),((cell_far (p:=⟨gb109,_,none⟩) NB107_109.out _).trans (((cell_far (p:=⟨gb109,_,none⟩) NB107_109.out _).trans (((cell_far (p:=⟨gb109,_,none⟩) NB107_109.out _).trans (((cell_far (p:=⟨gb109,_,none⟩) NB107_109.out _).trans (((cell_far (p:=⟨gb109,_,none⟩) NB107_109.out _).trans (((cell_far (p:=⟨gb109,_,none⟩) NB107_109.out _).trans (((cell_far (p:=⟨gb109,_,none⟩) NB107_109.out _).trans (hHeld.2.1)))))))))))))),((cell_far (p:=⟨gb109,_,none⟩) NB107_109.out _).trans (((cell_far (p:=⟨gb109,_,none⟩) NB107_109.out _).trans (((cell_far (p:=⟨gb109,_,none⟩) NB107_109.out _).trans (((cell_far (p:=⟨gb109,_,none⟩) NB107_109.out _).trans (((cell_far (p:=⟨gb109,_,none⟩) NB107_109.out _).trans (((cell_far (p:=⟨gb109,_,none⟩) NB107_109.out _).trans (((cell_far (p:=⟨gb109,_,none⟩) NB107_109.out _).trans (hHeld.2.2.1)))))))))))))),((cell_far (p:=⟨gb109,_,none⟩) NB107_109.out _).trans (((cell_far (p:=⟨gb109,_,none⟩) NB107_109.out _).trans (((cell_far (p:=⟨gb109,_,none⟩) NB107_109.out _).trans (((cell_far (p:=⟨gb109,_,none⟩) NB107_109.out _).trans (((cell_far (p:=⟨gb109,_,none⟩) NB107_109.out _).trans (((cell_far (p:=⟨gb109,_,none⟩) NB107_109.out _).trans (((cell_far (p:=⟨gb109,_,none⟩) NB107_109.out _).trans (hHeld.2.2.2.1)))))))))))))),((cell_far (p:=⟨gb109,_,none⟩) NB107_109.out _).trans (((cell_far (p:=⟨gb109,_,none⟩) NB107_109.out _).trans (((cell_far (p:=⟨gb109,_,none⟩) NB107_109.out _).trans (((cell_far (p:=⟨gb109,_,none⟩) NB107_109.out _).trans (((cell_far (p:=⟨gb109,_,none⟩) NB107_109.out _).trans (((cell_far (p:=⟨gb109,_,none⟩) NB107_109.out _).trans (((cell_far (p:=⟨gb109,_,none⟩) NB107_109.out _).trans (hHeld.2.2.2.2))))))))))))))⟩ (fun hHeld=>?_)
     clear hK K
     refine done_ (done_of HT_.out (by kernel_rfl)) ?_
     try go_wp2
     go_loopg [10] kj3 (fun kq v10 w'=>∃(x10_2:Int) (x110006_2:List ByteArray) (u110006:Value),v10= .int .i64 x10_2∧Aside0 (file_Encode.l0 kq a1 t108 x10_2 t101 t102 t103 t104 t105 t101 t102 a1 (wrap64 ((t104.size:Int) / t108)) t103 t105 x110006_2=some (r1,r2))∧Aside0 (kq≤kj3)∧Aside0 (Kd.R Kd.string 9 w' w.heap.size (fun _=>True) u110006 x110006_2)∧Aside0 (w'.heap[gb107]?=some (.cells #[.int .i64 t101,.int .i64 t102,.string t103,.string t104,.string t105] 57 (0,0)))∧Aside0 (w'.heap[gb109]?=some (.cells #[.int .i64 t101,.int .i64 t102,.int .i64 a1,.int .i64 (wrap64 ((t104.size:Int) / t108)),.string t103,.string t105,u110006] 49 (0,0)))∧Aside0 (Below w.heap.size w w'))
     case atStart=>exact ⟨(0),(([]:List ByteArray)),(.slice none 0 0),(E1_),H',⟨Nat.le_refl _⟩,⟨by first | exact Kd.R_nil _ _ _ _ _ | exact Kd.N_nil _ _ _ _ _ | exact Kd.V_nil _ _ _ _ _ | exact Kd.Q_nil _ _ _ _ _ | exact Kd.S_nil _ _ _ _ _⟩,⟨(blk_far (blk_far (blk_far (blk_far (blk_far (blk_far (blk_far (K_ BK107) NB107_109.out _) NB107_109.out _) NB107_109.out _) NB107_109.out _) NB107_109.out _) NB107_109.out _) NB107_109.out _)⟩,⟨(blk_put (cs:= #[.int .i64 t101,.int .i64 t102,.int .i64 a1,.int .i64 (wrap64 ((t104.size:Int) / t108)),.string t103,.string t105,.slice none 0 0]) (blk_put (cs:= #[.int .i64 t101,.int .i64 t102,.int .i64 a1,.int .i64 (wrap64 ((t104.size:Int) / t108)),.string t103,.string (⟨#[]⟩:ByteArray),.slice none 0 0]) (blk_put (cs:= #[.int .i64 t101,.int .i64 t102,.int .i64 a1,.int .i64 (wrap64 ((t104.size:Int) / t108)),.string (⟨#[]⟩:ByteArray),.string (⟨#[]⟩:ByteArray),.slice none 0 0]) (blk_put (cs:= #[.int .i64 t101,.int .i64 t102,.int .i64 a1,.int .i64 0,.string (⟨#[]⟩:ByteArray),.string (⟨#[]⟩:ByteArray),.slice none 0 0]) (blk_put (cs:= #[.int .i64 t101,.int .i64 t102,.int .i64 0,.int .i64 0,.string (⟨#[]⟩:ByteArray),.string (⟨#[]⟩:ByteArray),.slice none 0 0]) (blk_put (cs:= #[.int .i64 t101,.int .i64 0,.int .i64 0,.int .i64 0,.string (⟨#[]⟩:ByteArray),.string (⟨#[]⟩:ByteArray),.slice none 0 0]) (blk_put (cs:= #[.int .i64 0,.int .i64 0,.int .i64 0,.int .i64 0,.string (⟨#[]⟩:ByteArray),.string (⟨#[]⟩:ByteArray),.slice none 0 0]) (K_ BK109) 0 _ rfl) 1 _ rfl) 2 _ rfl) 3 _ rfl) 4 _ rfl) 5 _ rfl) 6 _ rfl)⟩,⟨B_⟩⟩
     case round=>
      clear H'
      try clear c1
      try clear c2
      try clear p2
      try clear p6
      try clear c8
      try clear c8b0
      try clear c8b1
      try clear c9
      try clear c9b0
      try clear c10
      try clear c12
      try clear c12b0
      try clear c12b1
      try clear hcz13_0
      try clear hcz13_1
      try clear hcz13_2
      try clear hcz13_3
      try clear hcz13_4
      try clear hcz7_0
      try clear hcz7_1
      try clear hcz7_2
      try clear hcz7_3
      try clear hcz7_4
      try clear hfz13_0
      try clear hfz13_1
      try clear hfz13_2
      try clear hfz13_3
      try clear hfz13_4
      try clear hfz7_0
      try clear hfz7_1
      try clear hfz7_2
      try clear hfz7_3
      try clear hfz7_4
      try clear p2
      obtain ⟨x10_2,x110006_2,u110006,rfl,HA,HK2,HO_110006,BK107,BK109,HB⟩:=hrel
      cases gk with
      | zero=>exact absurd HA.out (by simp [file_Encode.l0])
      | succ k2=>
       have H:=HA.out
       clear HA
       simp only [file_Encode.l0] at H
       by_cases c24:x10_2<(t104.size:Int)
       ·rw [if_pos c24] at H
        have c24b0:=decide_eq_true c24
        clear c24
        obtain ⟨ji25,hji25⟩:∃j_:Int,(mn (wrap64 (x10_2+(wrap64 (a1*t108)))) (t104.size:Int))=j_:=⟨_,rfl⟩
        (first | rw [hji25] at H | simp only [hji25] at H)
        have hji25_:(if (t104.size:Int)<(wrap64 (x10_2+(wrap64 (a1*t108)))) then (t104.size:Int) else (wrap64 (x10_2+(wrap64 (a1*t108)))))=ji25:=hji25
        by_cases c26:0≤x10_2
        ·rw [if_pos c26] at H
         have c26b0:=eq_true c26
         have c26b1:=decide_eq_true c26
         clear c26
         by_cases c27:x10_2≤(ji25)
         ·rw [if_pos c27] at H
          have c27b0:=eq_true c27
          have c27b1:=decide_eq_true c27
          clear c27
          by_cases c28:(ji25)≤(t104.size:Int)
          ·rw [if_pos c28] at H
           have c28b0:=eq_true c28
           have c28b1:=decide_eq_true c28
           clear c28
           replace H:=Option.bind_eq_some_iff.mp H
           obtain ⟨⟨t110,t111⟩,A290,H⟩:=H
           (try dsimp only at H)
           have A29:=Z_ A290
           clear A290
           by_cases c30:x110006_2.length<8796093022208
           ·rw [if_pos c30] at H
            have LMc30:=Z_ c30
            clear c30
            obtain ⟨y112,hy112⟩:∃y_:List ByteArray,y_=(x110006_2++ [t110]):=⟨_,rfl⟩
            replace H:(file_Encode.l0 k2 a1 t108 (wrap64 (x10_2+(wrap64 (a1*t108)))) t101 t102 t103 t104 t105 t101 t102 a1 (wrap64 ((t104.size:Int) / t108)) t103 t105 y112)=some (r1,r2):=by first | (rw [hy112];with_reducible exact H) | (have H2_:=(Option.bind_some _ _).symm.trans H;rw [hy112];with_reducible exact H2_) | (have H2_:=(Option.bind_some _ _).symm.trans H;with_reducible exact H2_) | with_reducible exact H | (rw [hy112];exact H) | exact H
            have Ny112:=Z_ hy112
            clear hy112
            have H':=Z_ H
            clear H
            have hnb31:=NB107_109.out
            have hnc31:=NB109_107.out
            have hcz32_0:=cz_ BK107 0
            have hcz32_1:=cz_ BK107 1
            have hcz32_2:=cz_ BK107 2
            have hcz32_3:=cz_ BK107 3
            have hcz32_4:=cz_ BK107 4
            have hfz32_0:=fz_ BK107 0
            have hfz32_1:=fz_ BK107 1
            have hfz32_2:=fz_ BK107 2
            have hfz32_3:=fz_ BK107 3
            have hfz32_4:=fz_ BK107 4
            try go_wp2
            replace HO_110006:=Z_ (Kd.R_drew HO_110006.out)
            replace BK107:=Z_ (blk_drew BK107.out)
            replace BK109:=Z_ (blk_drew BK109.out)
            replace HB:=Z_ (below_drew1 HB.out)
            refine start_ (n:=21) (S:=fun w'=>w'.cell? ⟨gb107,0,none⟩=some (.int .i64 t101)∧w'.cell? ⟨gb107,1,none⟩=some (.int .i64 t102)∧w'.cell? ⟨gb107,2,none⟩=some (.string t103)∧w'.cell? ⟨gb107,3,none⟩=some (.string t104)∧w'.cell? ⟨gb107,4,none⟩=some (.string t105)) (ds:= []) #[false,false,false,false,false,false,false,false,false,false,false,false,false,false,false,false,false,false,false,false,false] (by kernel_rfl) rfl rfl ⟨(blk_cell BK107.out 0).trans rfl,(blk_cell BK107.out 1).trans rfl,(blk_cell BK107.out 2).trans rfl,(blk_cell BK107.out 3).trans rfl,(blk_cell BK107.out 4).trans rfl⟩ (fun hHeld=>?_);refine with_tabW file_Encode.tab9 file_Encode.bits9 (fun HT_ HW_=>?_)
            generalize wr.drew=w33 at HO_110006 BK107 BK109 HB hHeld ⊢
            refine P_ 0 56 ?_
            refine P_ 2 58 ?_
            refine P_ 3 59 ?_
            refine P_ 4 60 ?_
            refine P_ 5 61 ?_
            refine P_ 6 62 ?_
            refine P_ 7 63 ?_
            refine P_ 8 64 ?_
            refine P_ 13 69 ?_
            refine T_ 1 57 (y:=by rintro w' ⟨s0,s1,s2,s3,s4⟩;go_simp;with_reducible rfl) (h:=?_)
            refine T_ 9 65 (y:=by rintro w' ⟨s0,s1,s2,s3,s4⟩;go_simp;with_reducible rfl) (h:=?_)
            refine P_ 10 66 ?_
            refine P_ 11 67 ?_
            refine P_ 12 68 ?_
            refine T_ 14 70 (y:=by rintro w' ⟨s0,s1,s2,s3,s4⟩;go_simp;with_reducible rfl) (h:=?_)
            refine O_ 15 71 fun K hK=>?_
            refine goes_ Tryz.func21 (by kernel_rfl) rfl #[.string (t104.extract (x10_2:Int).toNat ((ji25):Int).toNat),.agg #[.int .i64 t101,.int .i64 t102]] (by rfl) rfl rfl (by (try simp only [List.map_toArray,List.map_cons,List.map_nil]);first | done | (simp only [hji25];rfl) | rfl | (simp only [List.length_drop,List.length_take];rfl)) ?_
            with_reducible refine (segment_Put.calls k2 (t104.extract (x10_2:Int).toNat ((ji25):Int).toNat) t101 t102 t110 t111 _ A29.out).mono ?_
            rintro e w34 ⟨rfl,hb⟩
            refine ⟨_,rfl,?_⟩
            replace HO_110006:=Z_ (Kd.R_below (R_ HO_110006) hb)
            replace BK107:=Z_ (blk_below (K_ BK107) hb)
            replace BK109:=Z_ (blk_below (K_ BK109) hb)
            replace HB:=Hb_ hb
            (try clear hb)
            (try clear hb2)
            (try clear hk)
            (try clear hi)
            refine hK.out _ _ ⟨(blk_cell BK107.out 0).trans rfl,(blk_cell BK107.out 1).trans rfl,(blk_cell BK107.out 2).trans rfl,(blk_cell BK107.out 3).trans rfl,(blk_cell BK107.out 4).trans rfl⟩ (fun hHeld=>?_)
            clear hK K
            refine Nm_ 71 ?_
            refine P_ 16 55 ?_
            refine P_ 17 72 ?_
            refine P_ 18 73 ?_
            refine P_ 19 11 ?_
            refine P_ 20 12 ?_
            refine done_ (done_of HT_.out (by kernel_rfl)) ?_
            have hcz35_0:=cz_ BK109 0
            have hcz35_1:=cz_ BK109 1
            have hcz35_2:=cz_ BK109 2
            have hcz35_3:=cz_ BK109 3
            have hcz35_4:=cz_ BK109 4
            have hcz35_5:=cz_ BK109 5
            have hcz35_6:=cz_ BK109 6
            have hfz35_0:=fz_ BK109 0
            have hfz35_1:=fz_ BK109 1
            have hfz35_2:=fz_ BK109 2
            have hfz35_3:=fz_ BK109 3
            have hfz35_4:=fz_ BK109 4
            have hfz35_5:=fz_ BK109 5
            have hfz35_6:=fz_ BK109 6
            try go_wp2_with (first | ((with_reducible refine gate_builtin (b:= .append) (xs:= #[.tmp 75,.tmp 77]) rfl ?_);at_builtin;refine Kd.R_append Kd.string (w0:=w) w.heap.size rfl (.tmp 75) (.tmp 77) 47 9 (.string ⟨#[]⟩) 16 rfl Tryz.underlying47 info9 rfl (by decide) (by omega) u110006 x110006_2 t110 [.string t110] (fun _=>True) (fun _=>False) rfl rfl ?aP (fun _ hk=>hk.elim) ?aF ?aO ?aB ?aS ?aL ?_;(case aP=>exact rfl);(case aB=>exact B_);(case aF=>exact (fun _ _=>trivial));(case aO=>exact (R_ HO_110006));(case aS=>exact (below_size B_));(case aL=>have:=LMc30.out;omega);intro v113 w36 ho hb hg hat;rw [←Ny112.out] at ho;replace BK107:=Z_ (blk_grown (g:=gb107) (o:= .cells #[.int .i64 t101,.int .i64 t102,.string t103,.string t104,.string t105] 57 (0,0)) (K_ BK107) hg (Kd.R_ne HO_110006.out BK107.out (by decide)));replace BK109:=Z_ (blk_grown (g:=gb109) (o:= .cells #[.int .i64 t101,.int .i64 t102,.int .i64 a1,.int .i64 (wrap64 ((t104.size:Int) / t108)),.string t103,.string t105,u110006] 49 (0,0)) (K_ BK109) hg (Kd.R_ne HO_110006.out BK109.out (by decide)));replace HB:=Z_ (hb);have HO114:=Z_ (ho);clear HO_110006;clear ho hb hg hat;obtain ⟨Ao37,co37,eo37⟩:=Kd.R_slice HO114.out;subst eo37;have hcz38_0:=cz_ BK109 0;have hcz38_1:=cz_ BK109 1;have hcz38_2:=cz_ BK109 2;have hcz38_3:=cz_ BK109 3;have hcz38_4:=cz_ BK109 4;have hcz38_5:=cz_ BK109 5;have hcz38_6:=cz_ BK109 6;have hfz38_0:=fz_ BK109 0;have hfz38_1:=fz_ BK109 1;have hfz38_2:=fz_ BK109 2;have hfz38_3:=fz_ BK109 3;have hfz38_4:=fz_ BK109 4;have hfz38_5:=fz_ BK109 5;have hfz38_6:=fz_ BK109 6))
            go_roundg k2
            case measure=>have:=HJ3.out;have:=HK2.out;omega
            case rel=>exact ⟨(wrap64 (x10_2+(wrap64 (a1*t108)))),(y112),(.slice Ao37 y112.length co37),(E1_),H',⟨by have:=HJ3.out;have:=HK2.out;omega⟩,⟨by (with_reducible repeat (first | apply Kd.R_alloc | apply Kd.R_drewN | apply Kd.R_drew));exact Kd.R_mono (Kd.R_far (p:=⟨gb109,6,none⟩) (Kd.R_types HO114.out BK109.out (by decide)) (fun _ hk=>hk.2) (.slice Ao37 y112.length co37)) (fun _ hk=>trivial)⟩,⟨(blk_far (K_ BK107) NB107_109.out _)⟩,⟨(blk_put (cs:= #[.int .i64 t101,.int .i64 t102,.int .i64 a1,.int .i64 (wrap64 ((t104.size:Int) / t108)),.string t103,.string t105,u110006]) (K_ BK109) 6 _ rfl)⟩,⟨B_⟩⟩
           ·rw [if_neg c30] at H
            exact absurd H (by simp)
          ·rw [if_neg c28] at H
           exact absurd H (by simp)
         ·rw [if_neg c27] at H
          exact absurd H (by simp)
        ·rw [if_neg c26] at H
         exact absurd H (by simp)
       ·rw [if_neg c24] at H
        have c24b0:=decide_eq_false c24
        clear c24
        replace H:=Option.bind_eq_some_iff.mp H
        obtain ⟨⟨t115,t116⟩,A390,H⟩:=H
        (try dsimp only at H)
        have A39:=Z_ A390
        clear A390
        by_cases c40:t116=0
        ·rw [if_pos c40] at H
         have c40b0:(t116==0)=true:=beq_iff_eq.mpr c40
         have c40b1:(t116 !=0)=false:=bne_eq_false_iff_eq.mpr c40
         clear c40
         simp only [Option.some.injEq,Prod.mk.injEq] at H
         obtain ⟨rfl,rfl⟩:=H
         have hnb41:=NB107_109.out
         have hnc41:=NB109_107.out
         have hcz42_0:=cz_ BK107 0
         have hcz42_1:=cz_ BK107 1
         have hcz42_2:=cz_ BK107 2
         have hcz42_3:=cz_ BK107 3
         have hcz42_4:=cz_ BK107 4
         have hfz42_0:=fz_ BK107 0
         have hfz42_1:=fz_ BK107 1
         have hfz42_2:=fz_ BK107 2
         have hfz42_3:=fz_ BK107 3
         have hfz42_4:=fz_ BK107 4
         have hcz43_0:=cz_ BK109 0
         have hcz43_1:=cz_ BK109 1
         have hcz43_2:=cz_ BK109 2
         have hcz43_3:=cz_ BK109 3
         have hcz43_4:=cz_ BK109 4
         have hcz43_5:=cz_ BK109 5
         have hcz43_6:=cz_ BK109 6
         have hfz43_0:=fz_ BK109 0
         have hfz43_1:=fz_ BK109 1
         have hfz43_2:=fz_ BK109 2
         have hfz43_3:=fz_ BK109 3
         have hfz43_4:=fz_ BK109 4
         have hfz43_5:=fz_ BK109 5
         have hfz43_6:=fz_ BK109 6
         obtain ⟨Ao44,co44,eo44⟩:=Kd.R_slice HO_110006.out
         subst eo44
         go_wp2_with (first | (refine G_ 82 Tryz.func23 #[.agg #[.int .i64 t101,.int .i64 t102,.int .i64 a1,.int .i64 (wrap64 ((t104.size:Int) / t108)),.string t103,.string t105,.slice Ao44 x110006_2.length co44]] ?_;refine (stream_Put.calls t101 t102 a1 (wrap64 ((t104.size:Int) / t108)) t103 t105 _ _ x110006_2 t115 t116 _ (C_ (Kd.R_reads' HO_110006.out).2.2) ((Kd.R_reads' HO_110006.out).2.1) A39.out).mono ?_;rintro e w45 ⟨rfl,hb⟩;refine ⟨_,rfl,?_⟩;replace HO_110006:=Z_ (Kd.R_below (R_ HO_110006) hb);replace BK107:=Z_ (blk_below (K_ BK107) hb);replace BK109:=Z_ (blk_below (K_ BK109) hb);replace HB:=Hb_ hb;(try clear hb)))
         go_ret2
         exact ⟨E_,B_⟩
        ·rw [if_neg c40] at H
         have c40b0:(t116==0)=false:=beq_eq_false_iff_ne.mpr c40
         have c40b1:(t116 !=0)=true:=bne_iff_ne.mpr c40
         simp only [Option.some.injEq,Prod.mk.injEq] at H
         obtain ⟨rfl,rfl⟩:=H
         have hnb46:=NB107_109.out
         have hnc46:=NB109_107.out
         have hcz47_0:=cz_ BK107 0
         have hcz47_1:=cz_ BK107 1
         have hcz47_2:=cz_ BK107 2
         have hcz47_3:=cz_ BK107 3
         have hcz47_4:=cz_ BK107 4
         have hfz47_0:=fz_ BK107 0
         have hfz47_1:=fz_ BK107 1
         have hfz47_2:=fz_ BK107 2
         have hfz47_3:=fz_ BK107 3
         have hfz47_4:=fz_ BK107 4
         have hcz48_0:=cz_ BK109 0
         have hcz48_1:=cz_ BK109 1
         have hcz48_2:=cz_ BK109 2
         have hcz48_3:=cz_ BK109 3
         have hcz48_4:=cz_ BK109 4
         have hcz48_5:=cz_ BK109 5
         have hcz48_6:=cz_ BK109 6
         have hfz48_0:=fz_ BK109 0
         have hfz48_1:=fz_ BK109 1
         have hfz48_2:=fz_ BK109 2
         have hfz48_3:=fz_ BK109 3
         have hfz48_4:=fz_ BK109 4
         have hfz48_5:=fz_ BK109 5
         have hfz48_6:=fz_ BK109 6
         obtain ⟨Ao49,co49,eo49⟩:=Kd.R_slice HO_110006.out
         subst eo49
         go_wp2_with (first | (refine G_ 82 Tryz.func23 #[.agg #[.int .i64 t101,.int .i64 t102,.int .i64 a1,.int .i64 (wrap64 ((t104.size:Int) / t108)),.string t103,.string t105,.slice Ao49 x110006_2.length co49]] ?_;refine (stream_Put.calls t101 t102 a1 (wrap64 ((t104.size:Int) / t108)) t103 t105 _ _ x110006_2 t115 t116 _ (C_ (Kd.R_reads' HO_110006.out).2.2) ((Kd.R_reads' HO_110006.out).2.1) A39.out).mono ?_;rintro e w50 ⟨rfl,hb⟩;refine ⟨_,rfl,?_⟩;replace HO_110006:=Z_ (Kd.R_below (R_ HO_110006) hb);replace BK107:=Z_ (blk_below (K_ BK107) hb);replace BK109:=Z_ (blk_below (K_ BK109) hb);replace HB:=Hb_ hb;(try clear hb)))
         go_ret2
         exact ⟨E_,B_⟩
end Go.Proofs.YtfghldonnffldaaGreatDoor.QSix
namespace Go.Proofs.YtfghldonnffldaaGreatDoor
open Go.RowKit YtfghldonnffldaaGreatDoorW.PrintWords YtfghldonnffldaaGreatDoorW.PrintLast YtfghldonnffldaaGreatDoorW.PrintMore TBase
open YFou
theorem bt_lit (s:ByteArray) (i:Nat) (h:i<s.size):bt s (i:Int)=((s[i]'h).toNat:Int):=by
 unfold bt
 rw [dif_pos (by rw [Int.toNat_natCast];exact h)]
 congr 2
section
variable {P:Program} {Q:Exit→Act→World→Prop}
theorem goesV_ {ops:Array Oper} {oi:Oper} {N:Option Tmp} {a:Act} {w:World} {K:Act→World→Prop} {f:FuncId} {fn:Func} {t:Tmp} {aas:Array Operand} {ts:Array TypeId} (hf:P.funcs[f]?=some fn) (hname:(fn.name== "runtime.NumGoroutine")=false) (hb:fn.body.isSome=true) (args:Array Value)
  (hw:Region.wanted oi (yielded ops a.tmps)=true) (hN:oi.dst=N) (hop:oi.op= .call { callee:= .value (.tmp t),args:=aas,argTypes:=ts }) (hv:a.eval (.tmp t)= .func (.func f) #[] #[]) (hargs:aas.map a.eval=args)
  (h:Calls P f args w fun e w'=>∃v,e= .returned v∧K (a.put N v) w'):if Region.wanted oi (yielded ops a.tmps)=true then Oper.wp P oi a w K Q else K (a.put N undef) w:=by
 refine call_ f args hw hN ?_ h
 have he:=enters_ hf hname hb args w
 unfold execOp
 simp [hop,resolve,Deferred.ofValue,invoke,hv,hargs,he]
end
def opens_ (k:Int):Nat:=if k=1 then 94 else if k=2 then 95 else 96
theorem opens_calls (k:Int) (w:World):Calls Tryz.prog 65 #[.int .u8 k] w fun e w'=>e= .returned (.func (.func (opens_ k)) #[] #[])∧∃n,w'=w.drewN n:=by
 unfold opens_
 go_enter Tryz.func65,Tryz.ntmps65
 by_cases h1:k=1
 ·subst h1
  go_wp2
  go_ret
  exact ⟨rfl,0,rfl⟩
 ·rw [if_neg h1]
  by_cases h2:k=2
  ·subst h2
   go_wp2
   go_ret
   exact ⟨rfl,0,rfl⟩
  ·rw [if_neg h2]
   go_wp2
   go_ret
   exact ⟨rfl,0,rfl⟩
theorem own_calls (t:ByteArray) (ch bi x y:Int) (w:World):Calls Tryz.prog 96 #[.string t,.agg #[.int .i64 ch,.int .i64 bi],.int .i64 x,.int .i64 y] w fun e w'=>e= .returned (.string t)∧Below w.heap.size w w':=by
 go_enter Tryz.func96,Tryz.ntmps96
 go_wp2
 go_ret
 exact ⟨rfl,below_alloc (Below.refl _ _) _⟩
theorem rep_calls (t d:ByteArray) (ch bi x y:Int) (w:World) (h:strings_Repeat.f t y=some d):Calls Tryz.prog 95 #[.string t,.agg #[.int .i64 ch,.int .i64 bi],.int .i64 x,.int .i64 y] w fun e w'=>e= .returned (.string d)∧Below w.heap.size w w':=by
 have H:=Lib.hid h
 clear h
 go_enter Tryz.func95,Tryz.ntmps95
 go_wp2_with fail
 refine (strings_Repeat.calls _ _ _ _ H.out).mono ?_
 rintro e w' ⟨rfl,hb⟩
 go_wp2
 go_ret
 exact ⟨rfl,below_step (below_alloc (Below.refl _ _) _) hb⟩
def opened (kind a:Int) (body:ByteArray):Option ByteArray:=if kind=1 then none else if kind=2 then strings_Repeat.f body a else some body
theorem opens_fn (k:Int):∃fn,Tryz.prog.funcs[opens_ k]?=some fn∧(fn.name== "runtime.NumGoroutine")=false∧fn.body.isSome=true:=by
 unfold opens_
 split
 ·exact ⟨_,Tryz.func94,rfl,rfl⟩
 ·split
  ·exact ⟨_,Tryz.func95,rfl,rfl⟩
  ·exact ⟨_,Tryz.func96,rfl,rfl⟩
theorem opn_calls (k y:Int) (t d:ByteArray) (ch bi x:Int) (h:opened k y t=some d) (w:World):Calls Tryz.prog (opens_ k) #[.string t,.agg #[.int .i64 ch,.int .i64 bi],.int .i64 x,.int .i64 y] w fun e w'=>e= .returned (.string d)∧Below w.heap.size w w':=by
 unfold opened at h
 unfold opens_
 by_cases h1:k=1
 ·rw [if_pos h1] at h;cases h
 ·rw [if_neg h1] at h ⊢
  by_cases h2:k=2
  ·rw [if_pos h2] at h ⊢
   exact rep_calls t d ch bi x y w h
  ·rw [if_neg h2] at h ⊢
   obtain rfl:=Option.some.inj h
   exact own_calls t ch bi x y w
def sgg.T12:Bool×List (List Nat×List Nat):=(true,[([],[]),([0],[0]),([1],[1]),([],[]),([],[]),([],[]),([5],[5]),([6],[6]),([],[]),([8],[8]),([9],[9]),([2,3,4,7,10,2],[2,3,4,7,10]),([11,11,0,1,2,3,4,5,6,7,8,9,10,11],[11])])
def sgg.B12:List Nat:= [0,1,3,0,0,0,32,96,0,256,768,2047,4095]
theorem sgg.tab12:rtab .any (opsOf Tryz.f26 12)=sgg.T12:=by kernel_rfl
theorem sgg.bits12:waitsOk sgg.T12.2 sgg.B12=true:=by kernel_rfl
theorem segGet_calls (k:Nat) (s d:ByteArray) (n:Nat) (ch bi:Int) (w:World) (hT:Tabs w) (hn:s.size=n+9) (hn2:n≤4096) (hm:pcm_May.f ch bi=some true) (h2:bt s 2≤64) (h1:field_Get.f 20 (s.extract 3 5)=some ((n:Int),0)) (h3:field_Get.f 20 (s.extract (n+5) s.size)=some ((Crc.sum (s.extract 0 (n+5)).data.toList:Int),0)) (ho:opened (bt s 0) (bt s 2) (s.extract 5 (n+5))=some d) (hp:segment_Put.f k d ch bi=some (s,0)):
  Calls Tryz.prog 26 #[.string s,.agg #[.int .i64 ch,.int .i64 bi]] w fun e w'=>e= .returned (.tuple #[.string d,.int .i64 0])∧Below w.heap.size w w':=by
 have hu23:=Tryz.underlying23
 have HM:=Lib.hid hm
 have H1:=Lib.hid h1
 have HO:=Lib.hid ho
 have HP:=Lib.hid hp
 have HT:=Z_ hT
 have Y3:Aside0 ((w.alloc (.cells #[.int .i64 ch,.int .i64 bi] 23)).heap[w.heap.size]?=some (.cells #[.int .i64 ch,.int .i64 bi] 23 (0,0))):=⟨blk_new w _⟩
 have YW:Aside0 (Below w.heap.size w (w.alloc (.cells #[.int .i64 ch,.int .i64 bi] 23))):=⟨below_alloc (Below.refl _ _) _⟩
 have z1:decide ((s.size:Int)<9)=false:=decide_eq_false (by omega)
 have z2:wrap64 (9+(n:Int))=(s.size:Int):=by unfold wrap64;omega
 have z3:wrap64 (5+(n:Int))=((n+5:Nat):Int):=by unfold wrap64;omega
 have z4:wrap64 ((s.size:Int) - 4)=((n+5:Nat):Int):=by unfold wrap64;omega
 have z2w:IntKind.i64.wrap (9+(n:Int))=(s.size:Int):=(i64_w _).trans z2
 have z5:(5:Int)≤(s.size:Int):=by omega
 have y5:5≤s.size:=by omega
 have x5:=eq_true z5
 have x51:decide ((5:Int)≤(s.size:Int))=true:=decide_eq_true z5
 have x3:=eq_true (show (3:Int)≤5 by decide)
 have x0:=eq_true (show (0:Int)≤3 by decide)
 have z6:(5:Int)≤((n+5:Nat):Int):=by omega
 have z7:((n+5:Nat):Int)≤(s.size:Int):=by omega
 have z8:(0:Int)≤((n+5:Nat):Int):=by omega
 have z9:¬((4096:Int)<n):=by omega
 have za:¬((64:Int)<bt s 2):=by omega
 have y1:1<s.size:=by omega
 have y2:2<s.size:=by omega
 have q1:(n:Int)≤4096:=by omega
 have q2:((s[2]'y2).toNat:Int)≤64:=by have:=bt_lit s 2 y2;have e:bt s 2=bt s ((2:Nat):Int):=rfl;omega
 have q3:(s[2]'y2).toNat≤64:=by omega
 have y3:(2:Int)<s.size:=by omega
 have y4:(1:Int)<s.size:=by omega
 have y6:(0:Int)<s.size:=by omega
 have y7:0<s.size:=by omega
 have HC:=Lib.hid (crc_Sum.some_ (s.extract 0 (n+5)) (by rw [ByteArray.size_extract];omega))
 obtain ⟨cr,hcr⟩:∃c,(Crc.sum (s.extract 0 (n+5)).data.toList)=c:=⟨_,rfl⟩
 rw [hcr] at h3 HC
 have H3:=Lib.hid h3
 clear hcr
 obtain ⟨m5,hm5⟩:∃m,n+5=m:=⟨_,rfl⟩
 rw [hm5] at z3 z4 z6 z7 z8 H3 HO HC
 have z3w:IntKind.i64.wrap (5+(n:Int))=(m5:Int):=(i64_w _).trans z3
 have z4w:IntKind.i64.wrap ((s.size:Int) - 4)=(m5:Int):=(i64_w _).trans z4
 clear hm h1 h3 ho hp hT h2 hn
 go_enter Tryz.func26,Tryz.ntmps26
 have r0:=blk_cell Y3.out 0
 have r1:=blk_cell Y3.out 1
 simp at r0 r1
 go_wp2_with fail
 clear r0 r1
 refine (pcm_May.calls ch bi true _ HM.out).mono ?_
 rintro e wk_ ⟨rfl,hb⟩
 replace Y3:=Z_ (blk_below Y3.out hb)
 replace YW:=Z_ (below_step YW.out hb)
 clear hb
 go_wp2_with fail
 refine (field_Get.calls 20 _ _ _ _ H1.out).mono ?_
 rintro e wk_ ⟨rfl,⟨⟨nd,rfl⟩⟩⟩
 replace Y3:=Z_ (blk_drewN Y3.out nd)
 replace YW:=Z_ (pw_below_drewN YW.out nd)
 generalize World.drewN _ nd=wk_ at Y3 YW ⊢
 go_wp2_with fail
 refine (field_Get.calls 20 _ _ _ _ H3.out).mono ?_
 rintro e wk_ ⟨rfl,⟨⟨nd,rfl⟩⟩⟩
 replace Y3:=Z_ (blk_drewN Y3.out nd)
 replace YW:=Z_ (pw_below_drewN YW.out nd)
 generalize World.drewN _ nd=wk_ at Y3 YW ⊢
 go_wp2_with fail
 refine (crc_Sum.calls _ _ _ HC.out).mono ?_
 rintro e wk_ ⟨rfl,hb⟩
 replace Y3:=Z_ (blk_below Y3.out hb)
 replace YW:=Z_ (below_step YW.out hb)
 clear hb
 have e0:bt s 0=((s[0]'y7).toNat:Int):=bt_lit s 0 y7
 have e1:bt s 1=((s[1]'y1).toNat:Int):=bt_lit s 1 y1
 obtain ⟨k0,hk0⟩:∃x,(s[0]'y7).toNat=x:=⟨_,rfl⟩
 obtain ⟨k1,hk1⟩:∃x,(s[1]'y1).toNat=x:=⟨_,rfl⟩
 obtain ⟨k2,hk2⟩:∃x,(s[2]'y2).toNat=x:=⟨_,rfl⟩
 have g1:k1<256:=by rw [←hk1];exact (s[1]'y1).toNat_lt
 have g2:k2<256:=by rw [←hk2];exact (s[2]'y2).toNat_lt
 have e2:bt s 2=((s[2]'y2).toNat:Int):=bt_lit s 2 y2
 rw [e0,e2,hk0,hk2] at HO
 clear e0 e1 e2
 rw [hk2] at q2 q3
 have q7:¬((64:Int)<k2):=Int.not_lt.2 q2
 have qd:((4096:Int)<n∨(64:Int)<k2)=False:=eq_false (by rintro (h | h);exact absurd q1 (Int.not_le.2 h);exact absurd q2 (Int.not_le.2 h))
 have q8:(k2:Int)≤64:=q2
 have q9:(decide ((64:Int)<k2))=false:=decide_eq_false q7
 have kw1:wrap64 (k1:Int)=k1:=by clear za;unfold wrap64;omega
 have kw2:wrap64 (k2:Int)=k2:=by clear za;unfold wrap64;omega
 obtain ⟨fn,hf,hname,hbody⟩:=opens_fn k0
 go_wp2
 replace Y3:=Z_ (blk_drew Y3.out)
 replace YW:=Z_ (below_drew1 YW.out)
 refine start_ (n:=13) (S:=fun w'=>w'.heap[w.heap.size]?=some (.cells #[.int .i64 ch,.int .i64 bi] 23 (0,0))) (ds:= []) #[false,false,false,false,false,false,false,false,false,false,false,false,false] (by kernel_rfl) rfl rfl Y3.out (fun hHeld=>?_);refine with_tabW sgg.tab12 sgg.bits12 (fun HT_ HW_=>?_)
 generalize World.drew _=wk_ at Y3 YW hHeld ⊢
 refine P_ 0 61 ?_
 refine P_ 3 64 ?_
 refine P_ 5 66 ?_
 refine P_ 8 69 ?_
 refine T_ 1 62 (y:=by rintro w' s0;have r0:=blk_cell s0 0;have r1:=blk_cell s0 1;simp at r0 r1;go_simp;with_reducible rfl) (h:=?_)
 refine T_ 4 65 (y:=by rintro w' s0;have r0:=blk_cell s0 0;have r1:=blk_cell s0 1;simp at r0 r1;go_simp;with_reducible rfl) (h:=?_)
 refine T_ 6 67 (y:=by rintro w' s0;have r0:=blk_cell s0 0;have r1:=blk_cell s0 1;simp at r0 r1;go_simp;with_reducible rfl) (h:=?_)
 refine P_ 7 68 ?_
 refine T_ 9 70 (y:=by rintro w' s0;have r0:=blk_cell s0 0;have r1:=blk_cell s0 1;simp at r0 r1;go_simp;with_reducible rfl) (h:=?_)
 refine P_ 10 71 ?_
 refine O_ 2 63 fun K hK=>?_
 refine goes_ Tryz.func65 (by kernel_rfl) rfl #[.int .u8 k0] (by rfl) rfl rfl (by first | rfl | (simp only [hk0];rfl) | (simp [Act.eval,hk0])) ?_
 refine (opens_calls k0 _).mono ?_
 rintro e wk_ ⟨rfl,nd,rfl⟩
 refine ⟨_,rfl,?_⟩
 replace Y3:=Z_ (blk_drewN Y3.out nd)
 replace YW:=Z_ (pw_below_drewN YW.out nd)
 generalize World.drewN _ nd=wk_ at Y3 YW ⊢
 refine hK.out _ _ Y3.out (fun hHeld=>?_)
 clear hK K
 refine Nm_ 63 ?_
 refine O_ 11 72 fun K hK=>?_
 refine goesV_ (f:=opens_ k0) hf hname hbody #[.string (s.extract 5 m5),.agg #[.int .i64 ch,.int .i64 bi],.int .i64 k1,.int .i64 k2] (by rfl) rfl rfl (by rfl) (by simp only [List.map_toArray,List.map_cons,List.map_nil,Act.eval];simp [hk1,hk2,kw1,kw2]) ?_
 refine (opn_calls k0 k2 _ d ch bi k1 HO.out _).mono ?_
 rintro e wk_ ⟨rfl,hb⟩
 refine ⟨_,rfl,?_⟩
 replace Y3:=Z_ (blk_below Y3.out hb)
 replace YW:=Z_ (below_step YW.out hb)
 clear hb
 refine hK.out _ _ Y3.out (fun hHeld=>?_)
 clear hK K
 refine Nm_ 72 ?_
 refine P_ 12 12 ?_
 refine done_ (done_of HT_.out (by kernel_rfl)) ?_
 have r0:=blk_cell Y3.out 0
 have r1:=blk_cell Y3.out 1
 simp at r0 r1
 go_wp2_with fail
 clear r0 r1
 refine (segment_Put.calls k d ch bi _ _ _ HP.out (Tabs.below HT.out YW.out)).mono ?_
 rintro e wk_ ⟨rfl,hb⟩
 replace Y3:=Z_ (blk_below Y3.out hb)
 replace YW:=Z_ (below_step YW.out hb)
 clear hb
 go_wp2
 go_ret2
 exact ⟨rfl,YW.out⟩
end Go.Proofs.YtfghldonnffldaaGreatDoor
namespace Go.Proofs.YtfghldonnffldaaGreatDoor
open Go.RowKit YtfghldonnffldaaGreatDoorW.PrintWords YtfghldonnffldaaGreatDoorW.PrintLast YtfghldonnffldaaGreatDoorW.PrintMore TBase
open YFou
def segment_Get.f (k:Nat) (s:ByteArray) (ch bi:Int):Option (ByteArray×Int):=
 if 9≤s.size∧s.size≤4105∧pcm_May.f ch bi=some true∧bt s 2≤64∧field_Get.f 20 (s.extract 3 5)=some (((s.size - 9:Nat):Int),0)∧field_Get.f 20 (s.extract (s.size - 9+5) s.size)=some ((Crc.sum (s.extract 0 (s.size - 9+5)).data.toList:Int),0)
 then (opened (bt s 0) (bt s 2) (s.extract 5 (s.size - 9+5))).bind fun d=>if segment_Put.f k d ch bi=some (s,0) then some (d,0) else none
 else none
theorem segment_Get.calls (k:Nat) (s:ByteArray) (ch bi:Int) (r1:ByteArray) (r2:Int) (w:World) (h:segment_Get.f k s ch bi=some (r1,r2)) (hT:Tabs w:=by exact Tabs.below hT B_):
  Calls Tryz.prog 26 #[.string s,.agg #[.int .i64 ch,.int .i64 bi]] w fun e w'=>e= .returned (.tuple #[.string r1,.int .i64 r2])∧Below w.heap.size w w':=by
 unfold segment_Get.f at h
 split at h
 ·rename_i hx
  obtain ⟨h1,h2,h3,h4,h5,h6⟩:=hx
  obtain ⟨d,hd,h⟩:=Option.bind_eq_some_iff.mp h
  split at h
  ·rename_i hp
   have e:=Option.some.inj h
   obtain ⟨rfl,rfl⟩:=Prod.mk.inj e
   exact segGet_calls k s d (s.size - 9) ch bi w hT (by clear h4;omega) (by clear h4;omega) h3 h4 h5 h6 hd hp
  ·cases h
 ·cases h
end Go.Proofs.YtfghldonnffldaaGreatDoor
namespace Go.Proofs.YtfghldonnffldaaGreatDoor.ESev
open Go.RowKit TBase UOne VTwo XThr YFou ZFiv QSix YtfghldonnffldaaGreatDoorW.PrintWords YtfghldonnffldaaGreatDoorW.PrintLast YtfghldonnffldaaGreatDoorW.PrintMore
attribute [local go_sem] max2_int min2_int max_two min_two max_three min_three max_four min_four
def file_whole_data.f (k:Nat) (a0_0:Int) (a0_1:Int) (a0_2:Int) (a0_3:Int) (a0_4:ByteArray) (a0_5:ByteArray) (l0_6:List ByteArray) (a1:Int):Option (ByteArray×Bool):=if 0≤a1 then (if a1<(l0_6.length:Int) then ((segment_Get.f k (rdOf ByteArray.empty l0_6 a1) a0_0 a0_1).bind fun bt103=>(if bt103.2=0 then ((file_whole_frames.f a0_0 a0_1 a0_2 a0_3 a0_4 a0_5 l0_6 a1).bind fun t105=>((pcm_Frame.f a0_0 a0_1).bind fun t106=>(if (bt103.1.size:Int)=(wrap64 (t105*t106)) then (some (bt103.1,true)) else (some ((⟨#[]⟩:ByteArray),false))))) else (some ((⟨#[]⟩:ByteArray),false)))) else (none)) else (none)
def file_whole_data.T1:Bool×List (List Nat×List Nat):=(true,[([],[]),([0],[0]),([1],[1]),([],[]),([2,3],[2,3]),([4],[4]),([],[]),([6],[6]),([7],[7]),([5,8],[5,8]),([9],[9]),([10],[10]),([10],[10]),([11,9,0,1,2,3,4,5,6,7,8,9,10,11],[11]),([12,13,0,1,2,3,4,5,6,7,8,9,10,11,12,13],[12])])
def file_whole_data.B1:List Nat:= [0,1,3,0,15,31,0,64,192,511,1023,2047,2047,4095,16383]
theorem file_whole_data.tab1:rtab .any (opsOf Tryz.f66 1)=file_whole_data.T1:=by kernel_rfl
theorem file_whole_data.bits1:waitsOk file_whole_data.T1.2 file_whole_data.B1=true:=by kernel_rfl
def file_whole_data.T2:Bool×List (List Nat×List Nat):=(true,[([],[]),([0],[0]),([1],[1]),([2],[2]),([3,2],[2,3]),([2],[2]),([2],[2]),([5,6,2,2],[2,5,6]),([2],[2]),([8,2],[2,8]),([9,2],[2,9]),([10,7,2],[2,10]),([7,11,2],[2,7,11]),([4,12,2],[2,4,12]),([2,13],[2,13])])
def file_whole_data.B2:List Nat:= [0,1,3,7,15,7,7,103,7,263,775,2023,4071,8191,16383]
theorem file_whole_data.tab2:rtab .any (opsOf Tryz.f66 2)=file_whole_data.T2:=by kernel_rfl
theorem file_whole_data.bits2:waitsOk file_whole_data.T2.2 file_whole_data.B2=true:=by kernel_rfl
theorem file_whole_data.calls (k:Nat) (a0_0:Int) (a0_1:Int) (a0_2:Int) (a0_3:Int) (a0_4:ByteArray) (a0_5:ByteArray) (A0_6:Option Addr) (c0_6:Nat) (l0_6:List ByteArray) (a1:Int) (r1:ByteArray) (r2:Bool) (w:World) (hr0_6:Kd.C Kd.string w A0_6 l0_6.length l0_6) (hc0_6:l0_6.length≤c0_6) (h:file_whole_data.f k a0_0 a0_1 a0_2 a0_3 a0_4 a0_5 l0_6 a1=some (r1,r2)) (hT:Tabs w:=by exact Tabs.below hT B_):
  Calls Tryz.prog 66 #[.agg #[.int .i64 a0_0,.int .i64 a0_1,.int .i64 a0_2,.int .i64 a0_3,.string a0_4,.string a0_5,.slice A0_6 l0_6.length c0_6],.int .i64 a1] w fun e w'=>e= .returned (.tuple #[.string r1,.bool r2])∧Below w.heap.size w w':=by
 have hu127:=Tryz.underlying127
 have hu23:=Tryz.underlying23
 have HR0_6:=Z_ hr0_6
 have HC0_6:=Z_ hc0_6
 clear hr0_6 hc0_6
 have HB:=Z_ (Below.refl w.heap.size w)
 have H:(if 0≤a1 then (if a1<(l0_6.length:Int) then ((segment_Get.f k (rdOf ByteArray.empty l0_6 a1) a0_0 a0_1).bind fun bt103=>(if bt103.2=0 then ((file_whole_frames.f a0_0 a0_1 a0_2 a0_3 a0_4 a0_5 l0_6 a1).bind fun t105=>((pcm_Frame.f a0_0 a0_1).bind fun t106=>(if (bt103.1.size:Int)=(wrap64 (t105*t106)) then (some (bt103.1,true)) else (some ((⟨#[]⟩:ByteArray),false))))) else (some ((⟨#[]⟩:ByteArray),false)))) else (none)) else (none))=some (r1,r2):=h
 clear h
 by_cases c3:0≤a1
 ·rw [if_pos c3] at H
  have c3b0:=decide_eq_true c3
  clear c3
  by_cases c4:a1<(l0_6.length:Int)
  ·rw [if_pos c4] at H
   have c4b0:=decide_eq_true c4
   clear c4
   replace H:=Option.bind_eq_some_iff.mp H
   obtain ⟨⟨t103,t104⟩,A50,H⟩:=H
   (try dsimp only at H)
   have A5:=Z_ A50
   clear A50
   by_cases c6:t104=0
   ·rw [if_pos c6] at H
    have c6b0:(t104==0)=true:=beq_iff_eq.mpr c6
    have c6b1:(t104 !=0)=false:=bne_eq_false_iff_eq.mpr c6
    clear c6
    replace H:=Option.bind_eq_some_iff.mp H
    obtain ⟨t105,A70,H⟩:=H
    (try dsimp only at H)
    have A7:=Z_ A70
    clear A70
    replace H:=Option.bind_eq_some_iff.mp H
    obtain ⟨t106,A80,H⟩:=H
    (try dsimp only at H)
    have A8:=Z_ A80
    clear A80
    by_cases c9:(t103.size:Int)=(wrap64 (t105*t106))
    ·rw [if_pos c9] at H
     have c9b0:((t103.size:Int)==(wrap64 (t105*t106)))=true:=beq_iff_eq.mpr c9
     have c9b1:((t103.size:Int) !=(wrap64 (t105*t106)))=false:=bne_eq_false_iff_eq.mpr c9
     clear c9
     simp only [Option.some.injEq,Prod.mk.injEq] at H
     obtain ⟨rfl,rfl⟩:=H
     go_enter Tryz.func66,Tryz.ntmps66
     try go_wp2_with (first | ((try (refine gate_guard (by rfl) ?_;dsimp only));refine X_ 2 #[.int .i64 a0_0,.int .i64 a0_1,.int .i64 a0_2,.int .i64 a0_3,.string a0_4,.string a0_5,.slice A0_6 l0_6.length c0_6] 127 ?_;intro gb101 hg w10 hbox hb;have BK101:=Z_ (hbox);have GW101:=Z_ (G2_ hg:w.heap.size≤_);have GE101:=GW101;replace HB:=Hb_ hb;clear hb hbox hg))
     replace BK101:=Z_ (blk_drew BK101.out)
     replace HB:=Z_ (below_drew1 HB.out)
     have p102:0≤(a1:Int):=of_decide_eq_true A_
     have q102:a1<(l0_6.length:Int):=of_decide_eq_true A_
     obtain ⟨ad102,e102,hx102_0⟩:=Kd.at_string HR0_6.out a1 p102 q102
     have hw102_0:=hx102_0
     cases e102
     replace hx102_0:=(HB.out.cell (World.block_lt_of_cell? w _ hx102_0)).trans hx102_0
     replace p102:=eq_true p102
     replace q102:=eq_true q102
     refine start_ (n:=15) (S:=fun w'=>w'.cell? ⟨gb101,0,none⟩=some (.int .i64 a0_0)∧w'.cell? ⟨gb101,1,none⟩=some (.int .i64 a0_1)∧w'.cell? ⟨gb101,2,none⟩=some (.int .i64 a0_2)∧w'.cell? ⟨gb101,3,none⟩=some (.int .i64 a0_3)∧w'.cell? ⟨gb101,4,none⟩=some (.string a0_4)∧w'.cell? ⟨gb101,5,none⟩=some (.string a0_5)∧w'.cell? ⟨gb101,6,none⟩=some (.slice (some ad102) l0_6.length c0_6)∧w'.cell? (ad102.add (a1).toNat)=some (.string (rdOf ByteArray.empty l0_6 a1))) (ds:= []) #[false,false,false,false,false,false,false,false,false,false,false,false,false,false,false] (by kernel_rfl) rfl rfl ⟨(blk_cell BK101.out 0).trans rfl,(blk_cell BK101.out 1).trans rfl,(blk_cell BK101.out 2).trans rfl,(blk_cell BK101.out 3).trans rfl,(blk_cell BK101.out 4).trans rfl,(blk_cell BK101.out 5).trans rfl,(blk_cell BK101.out 6).trans rfl,((HB.out.cell (World.block_lt_of_cell? w _ hw102_0)).trans hw102_0)⟩ (fun hHeld=>?_);refine with_tabW file_whole_data.tab1 file_whole_data.bits1 (fun HT_ HW_=>?_)
     generalize w10.drew=w11 at BK101 HB hx102_0 hHeld ⊢
     refine P_ 0 9 ?_
     refine P_ 1 10 ?_
     refine P_ 3 12 ?_
     refine P_ 6 15 ?_
     refine P_ 7 16 ?_
     refine T_ 2 11 (y:=by rintro w' ⟨s0,s1,s2,s3,s4,s5,s6,s7⟩;go_simp;with_reducible rfl) (h:=?_)
     refine P_ 4 13 ?_
     refine T_ 5 14 (y:=by rintro w' ⟨s0,s1,s2,s3,s4,s5,s6,s7⟩;go_simp;with_reducible rfl) (h:=?_)
     refine T_ 8 17 (y:=by rintro w' ⟨s0,s1,s2,s3,s4,s5,s6,s7⟩;go_simp;with_reducible rfl) (h:=?_)
     refine O_ 9 18 fun K hK=>?_
     refine g_ Tryz.func26 #[.string (rdOf ByteArray.empty l0_6 a1),.agg #[.int .i64 a0_0,.int .i64 a0_1]] ?_
     with_reducible refine (segment_Get.calls k (rdOf ByteArray.empty l0_6 a1) a0_0 a0_1 t103 t104 _ A5.out).mono ?_
     rintro e w12 ⟨rfl,hb⟩
     refine ⟨_,rfl,?_⟩
     replace BK101:=Z_ (blk_below (K_ BK101) hb)
     replace HB:=Hb_ hb
     (try clear hb)
     (try clear hb2)
     (try clear hk)
     (try clear hi)
     refine hK.out _ _ ⟨(blk_cell BK101.out 0).trans rfl,(blk_cell BK101.out 1).trans rfl,(blk_cell BK101.out 2).trans rfl,(blk_cell BK101.out 3).trans rfl,(blk_cell BK101.out 4).trans rfl,(blk_cell BK101.out 5).trans rfl,(blk_cell BK101.out 6).trans rfl,((HB.out.cell (World.block_lt_of_cell? w _ hw102_0)).trans hw102_0)⟩ (fun hHeld=>?_)
     clear hK K
     refine Nm_ 18 ?_
     refine P_ 10 8 ?_
     refine P_ 11 19 ?_
     refine P_ 12 20 ?_
     refine P_ 13 6 ?_
     refine P_ 14 7 ?_
     refine done_ (done_of HT_.out (by kernel_rfl)) ?_
     try go_wp2
     replace BK101:=Z_ (blk_drew BK101.out)
     replace HB:=Z_ (below_drew1 HB.out)
     refine start_ (n:=15) (S:=fun w'=>w'.cell? ⟨gb101,0,none⟩=some (.int .i64 a0_0)∧w'.cell? ⟨gb101,1,none⟩=some (.int .i64 a0_1)∧w'.cell? ⟨gb101,2,none⟩=some (.int .i64 a0_2)∧w'.cell? ⟨gb101,3,none⟩=some (.int .i64 a0_3)∧w'.cell? ⟨gb101,4,none⟩=some (.string a0_4)∧w'.cell? ⟨gb101,5,none⟩=some (.string a0_5)∧w'.cell? ⟨gb101,6,none⟩=some (.slice (some ad102) l0_6.length c0_6)) (ds:= []) #[false,false,false,false,false,false,false,false,false,false,false,false,false,false,false] (by kernel_rfl) rfl rfl ⟨(blk_cell BK101.out 0).trans rfl,(blk_cell BK101.out 1).trans rfl,(blk_cell BK101.out 2).trans rfl,(blk_cell BK101.out 3).trans rfl,(blk_cell BK101.out 4).trans rfl,(blk_cell BK101.out 5).trans rfl,(blk_cell BK101.out 6).trans rfl⟩ (fun hHeld=>?_);refine with_tabW file_whole_data.tab2 file_whole_data.bits2 (fun HT_ HW_=>?_)
     generalize w12.drew=w13 at BK101 HB hHeld ⊢
     refine P_ 0 21 ?_
     refine P_ 1 22 ?_
     refine P_ 2 23 ?_
     refine P_ 3 24 ?_
     refine P_ 4 25 ?_
     refine P_ 6 27 ?_
     refine P_ 8 29 ?_
     refine P_ 9 30 ?_
     refine T_ 5 26 (y:=by rintro w' ⟨s0,s1,s2,s3,s4,s5,s6⟩;go_simp;with_reducible rfl) (h:=?_)
     refine T_ 10 31 (y:=by rintro w' ⟨s0,s1,s2,s3,s4,s5,s6⟩;go_simp;with_reducible rfl) (h:=?_)
     refine O_ 7 28 fun K hK=>?_
     refine g_ Tryz.func97 #[.agg #[.int .i64 a0_0,.int .i64 a0_1,.int .i64 a0_2,.int .i64 a0_3,.string a0_4,.string a0_5,.slice (some ad102) l0_6.length c0_6],.int .i64 a1] ?_
     with_reducible refine (file_whole_frames.calls a0_0 a0_1 a0_2 a0_3 a0_4 a0_5 _ _ l0_6 a1 t105 _ ?side1 ?side2 A7.out).mono ?_
     (case side1=>repeat (first | exact (Kd.C_below HR0_6.out HB.out) | (with_reducible refine Kd.C_alloc ?_ _) | (with_reducible refine Kd.C_drewN ?_ _) | (with_reducible refine Kd.C_drew ?_)))
     (case side2=>exact HC0_6.out)
     rintro e w14 ⟨rfl,hb⟩
     refine ⟨_,rfl,?_⟩
     replace BK101:=Z_ (blk_below (K_ BK101) hb)
     replace HB:=Hb_ hb
     (try clear hb)
     (try clear hb2)
     (try clear hk)
     (try clear hi)
     refine hK.out _ _ ⟨(blk_cell BK101.out 0).trans rfl,(blk_cell BK101.out 1).trans rfl,(blk_cell BK101.out 2).trans rfl,(blk_cell BK101.out 3).trans rfl,(blk_cell BK101.out 4).trans rfl,(blk_cell BK101.out 5).trans rfl,(blk_cell BK101.out 6).trans rfl⟩ (fun hHeld=>?_)
     clear hK K
     refine Nm_ 28 ?_
     refine O_ 11 32 fun K hK=>?_
     refine g_ Tryz.func29 #[.agg #[.int .i64 a0_0,.int .i64 a0_1]] ?_
     with_reducible refine (pcm_Frame.calls a0_0 a0_1 t106 _ A8.out).mono ?_
     rintro e w15 ⟨rfl,hb⟩
     refine ⟨_,rfl,?_⟩
     replace BK101:=Z_ (blk_below (K_ BK101) hb)
     replace HB:=Hb_ hb
     (try clear hb)
     (try clear hb2)
     (try clear hk)
     (try clear hi)
     refine hK.out _ _ ⟨(blk_cell BK101.out 0).trans rfl,(blk_cell BK101.out 1).trans rfl,(blk_cell BK101.out 2).trans rfl,(blk_cell BK101.out 3).trans rfl,(blk_cell BK101.out 4).trans rfl,(blk_cell BK101.out 5).trans rfl,(blk_cell BK101.out 6).trans rfl⟩ (fun hHeld=>?_)
     clear hK K
     refine Nm_ 32 ?_
     refine P_ 12 33 ?_
     refine P_ 13 34 ?_
     refine P_ 14 35 ?_
     refine done_ (done_of HT_.out (by kernel_rfl)) ?_
     try go_wp2
     go_ret2
     exact ⟨E_,B_⟩
    ·rw [if_neg c9] at H
     have c9b0:((t103.size:Int)==(wrap64 (t105*t106)))=false:=beq_eq_false_iff_ne.mpr c9
     have c9b1:((t103.size:Int) !=(wrap64 (t105*t106)))=true:=bne_iff_ne.mpr c9
     simp only [Option.some.injEq,Prod.mk.injEq] at H
     obtain ⟨rfl,rfl⟩:=H
     go_enter Tryz.func66,Tryz.ntmps66
     try go_wp2_with (first | ((try (refine gate_guard (by rfl) ?_;dsimp only));refine X_ 2 #[.int .i64 a0_0,.int .i64 a0_1,.int .i64 a0_2,.int .i64 a0_3,.string a0_4,.string a0_5,.slice A0_6 l0_6.length c0_6] 127 ?_;intro gb101 hg w16 hbox hb;have BK101:=Z_ (hbox);have GW101:=Z_ (G2_ hg:w.heap.size≤_);have GE101:=GW101;replace HB:=Hb_ hb;clear hb hbox hg))
     replace BK101:=Z_ (blk_drew BK101.out)
     replace HB:=Z_ (below_drew1 HB.out)
     have p102:0≤(a1:Int):=of_decide_eq_true A_
     have q102:a1<(l0_6.length:Int):=of_decide_eq_true A_
     obtain ⟨ad102,e102,hx102_0⟩:=Kd.at_string HR0_6.out a1 p102 q102
     have hw102_0:=hx102_0
     cases e102
     replace hx102_0:=(HB.out.cell (World.block_lt_of_cell? w _ hx102_0)).trans hx102_0
     replace p102:=eq_true p102
     replace q102:=eq_true q102
     refine start_ (n:=15) (S:=fun w'=>w'.cell? ⟨gb101,0,none⟩=some (.int .i64 a0_0)∧w'.cell? ⟨gb101,1,none⟩=some (.int .i64 a0_1)∧w'.cell? ⟨gb101,2,none⟩=some (.int .i64 a0_2)∧w'.cell? ⟨gb101,3,none⟩=some (.int .i64 a0_3)∧w'.cell? ⟨gb101,4,none⟩=some (.string a0_4)∧w'.cell? ⟨gb101,5,none⟩=some (.string a0_5)∧w'.cell? ⟨gb101,6,none⟩=some (.slice (some ad102) l0_6.length c0_6)∧w'.cell? (ad102.add (a1).toNat)=some (.string (rdOf ByteArray.empty l0_6 a1))) (ds:= []) #[false,false,false,false,false,false,false,false,false,false,false,false,false,false,false] (by kernel_rfl) rfl rfl ⟨(blk_cell BK101.out 0).trans rfl,(blk_cell BK101.out 1).trans rfl,(blk_cell BK101.out 2).trans rfl,(blk_cell BK101.out 3).trans rfl,(blk_cell BK101.out 4).trans rfl,(blk_cell BK101.out 5).trans rfl,(blk_cell BK101.out 6).trans rfl,((HB.out.cell (World.block_lt_of_cell? w _ hw102_0)).trans hw102_0)⟩ (fun hHeld=>?_);refine with_tabW file_whole_data.tab1 file_whole_data.bits1 (fun HT_ HW_=>?_)
     generalize w16.drew=w17 at BK101 HB hx102_0 hHeld ⊢
     refine P_ 0 9 ?_
     refine P_ 1 10 ?_
     refine P_ 3 12 ?_
     refine P_ 6 15 ?_
     refine P_ 7 16 ?_
     refine T_ 2 11 (y:=by rintro w' ⟨s0,s1,s2,s3,s4,s5,s6,s7⟩;go_simp;with_reducible rfl) (h:=?_)
     refine P_ 4 13 ?_
     refine T_ 5 14 (y:=by rintro w' ⟨s0,s1,s2,s3,s4,s5,s6,s7⟩;go_simp;with_reducible rfl) (h:=?_)
     refine T_ 8 17 (y:=by rintro w' ⟨s0,s1,s2,s3,s4,s5,s6,s7⟩;go_simp;with_reducible rfl) (h:=?_)
     refine O_ 9 18 fun K hK=>?_
     refine g_ Tryz.func26 #[.string (rdOf ByteArray.empty l0_6 a1),.agg #[.int .i64 a0_0,.int .i64 a0_1]] ?_
     with_reducible refine (segment_Get.calls k (rdOf ByteArray.empty l0_6 a1) a0_0 a0_1 t103 t104 _ A5.out).mono ?_
     rintro e w18 ⟨rfl,hb⟩
     refine ⟨_,rfl,?_⟩
     replace BK101:=Z_ (blk_below (K_ BK101) hb)
     replace HB:=Hb_ hb
     (try clear hb)
     (try clear hb2)
     (try clear hk)
     (try clear hi)
     refine hK.out _ _ ⟨(blk_cell BK101.out 0).trans rfl,(blk_cell BK101.out 1).trans rfl,(blk_cell BK101.out 2).trans rfl,(blk_cell BK101.out 3).trans rfl,(blk_cell BK101.out 4).trans rfl,(blk_cell BK101.out 5).trans rfl,(blk_cell BK101.out 6).trans rfl,((HB.out.cell (World.block_lt_of_cell? w _ hw102_0)).trans hw102_0)⟩ (fun hHeld=>?_)
     clear hK K
     refine Nm_ 18 ?_
     refine P_ 10 8 ?_
     refine P_ 11 19 ?_
     refine P_ 12 20 ?_
     refine P_ 13 6 ?_
     refine P_ 14 7 ?_
     refine done_ (done_of HT_.out (by kernel_rfl)) ?_
     try go_wp2
     replace BK101:=Z_ (blk_drew BK101.out)
     replace HB:=Z_ (below_drew1 HB.out)
     refine start_ (n:=15) (S:=fun w'=>w'.cell? ⟨gb101,0,none⟩=some (.int .i64 a0_0)∧w'.cell? ⟨gb101,1,none⟩=some (.int .i64 a0_1)∧w'.cell? ⟨gb101,2,none⟩=some (.int .i64 a0_2)∧w'.cell? ⟨gb101,3,none⟩=some (.int .i64 a0_3)∧w'.cell? ⟨gb101,4,none⟩=some (.string a0_4)∧w'.cell? ⟨gb101,5,none⟩=some (.string a0_5)∧w'.cell? ⟨gb101,6,none⟩=some (.slice (some ad102) l0_6.length c0_6)) (ds:= []) #[false,false,false,false,false,false,false,false,false,false,false,false,false,false,false] (by kernel_rfl) rfl rfl ⟨(blk_cell BK101.out 0).trans rfl,(blk_cell BK101.out 1).trans rfl,(blk_cell BK101.out 2).trans rfl,(blk_cell BK101.out 3).trans rfl,(blk_cell BK101.out 4).trans rfl,(blk_cell BK101.out 5).trans rfl,(blk_cell BK101.out 6).trans rfl⟩ (fun hHeld=>?_);refine with_tabW file_whole_data.tab2 file_whole_data.bits2 (fun HT_ HW_=>?_)
     generalize w18.drew=w19 at BK101 HB hHeld ⊢
     refine P_ 0 21 ?_
     refine P_ 1 22 ?_
     refine P_ 2 23 ?_
     refine P_ 3 24 ?_
     refine P_ 4 25 ?_
     refine P_ 6 27 ?_
     refine P_ 8 29 ?_
     refine P_ 9 30 ?_
     refine T_ 5 26 (y:=by rintro w' ⟨s0,s1,s2,s3,s4,s5,s6⟩;go_simp;with_reducible rfl) (h:=?_)
     refine T_ 10 31 (y:=by rintro w' ⟨s0,s1,s2,s3,s4,s5,s6⟩;go_simp;with_reducible rfl) (h:=?_)
     refine O_ 7 28 fun K hK=>?_
     refine g_ Tryz.func97 #[.agg #[.int .i64 a0_0,.int .i64 a0_1,.int .i64 a0_2,.int .i64 a0_3,.string a0_4,.string a0_5,.slice (some ad102) l0_6.length c0_6],.int .i64 a1] ?_
     with_reducible refine (file_whole_frames.calls a0_0 a0_1 a0_2 a0_3 a0_4 a0_5 _ _ l0_6 a1 t105 _ ?side1 ?side2 A7.out).mono ?_
     (case side1=>repeat (first | exact (Kd.C_below HR0_6.out HB.out) | (with_reducible refine Kd.C_alloc ?_ _) | (with_reducible refine Kd.C_drewN ?_ _) | (with_reducible refine Kd.C_drew ?_)))
     (case side2=>exact HC0_6.out)
     rintro e w20 ⟨rfl,hb⟩
     refine ⟨_,rfl,?_⟩
     replace BK101:=Z_ (blk_below (K_ BK101) hb)
     replace HB:=Hb_ hb
     (try clear hb)
     (try clear hb2)
     (try clear hk)
     (try clear hi)
     refine hK.out _ _ ⟨(blk_cell BK101.out 0).trans rfl,(blk_cell BK101.out 1).trans rfl,(blk_cell BK101.out 2).trans rfl,(blk_cell BK101.out 3).trans rfl,(blk_cell BK101.out 4).trans rfl,(blk_cell BK101.out 5).trans rfl,(blk_cell BK101.out 6).trans rfl⟩ (fun hHeld=>?_)
     clear hK K
     refine Nm_ 28 ?_
     refine O_ 11 32 fun K hK=>?_
     refine g_ Tryz.func29 #[.agg #[.int .i64 a0_0,.int .i64 a0_1]] ?_
     with_reducible refine (pcm_Frame.calls a0_0 a0_1 t106 _ A8.out).mono ?_
     rintro e w21 ⟨rfl,hb⟩
     refine ⟨_,rfl,?_⟩
     replace BK101:=Z_ (blk_below (K_ BK101) hb)
     replace HB:=Hb_ hb
     (try clear hb)
     (try clear hb2)
     (try clear hk)
     (try clear hi)
     refine hK.out _ _ ⟨(blk_cell BK101.out 0).trans rfl,(blk_cell BK101.out 1).trans rfl,(blk_cell BK101.out 2).trans rfl,(blk_cell BK101.out 3).trans rfl,(blk_cell BK101.out 4).trans rfl,(blk_cell BK101.out 5).trans rfl,(blk_cell BK101.out 6).trans rfl⟩ (fun hHeld=>?_)
     clear hK K
     refine Nm_ 32 ?_
     refine P_ 12 33 ?_
     refine P_ 13 34 ?_
     refine P_ 14 35 ?_
     refine done_ (done_of HT_.out (by kernel_rfl)) ?_
     try go_wp2
     go_ret2
     exact ⟨E_,B_⟩
   ·rw [if_neg c6] at H
    have c6b0:(t104==0)=false:=beq_eq_false_iff_ne.mpr c6
    have c6b1:(t104 !=0)=true:=bne_iff_ne.mpr c6
    simp only [Option.some.injEq,Prod.mk.injEq] at H
    obtain ⟨rfl,rfl⟩:=H
    go_enter Tryz.func66,Tryz.ntmps66
    try go_wp2_with (first | ((try (refine gate_guard (by rfl) ?_;dsimp only));refine X_ 2 #[.int .i64 a0_0,.int .i64 a0_1,.int .i64 a0_2,.int .i64 a0_3,.string a0_4,.string a0_5,.slice A0_6 l0_6.length c0_6] 127 ?_;intro gb101 hg w22 hbox hb;have BK101:=Z_ (hbox);have GW101:=Z_ (G2_ hg:w.heap.size≤_);have GE101:=GW101;replace HB:=Hb_ hb;clear hb hbox hg))
    replace BK101:=Z_ (blk_drew BK101.out)
    replace HB:=Z_ (below_drew1 HB.out)
    have p102:0≤(a1:Int):=of_decide_eq_true A_
    have q102:a1<(l0_6.length:Int):=of_decide_eq_true A_
    obtain ⟨ad102,e102,hx102_0⟩:=Kd.at_string HR0_6.out a1 p102 q102
    have hw102_0:=hx102_0
    cases e102
    replace hx102_0:=(HB.out.cell (World.block_lt_of_cell? w _ hx102_0)).trans hx102_0
    replace p102:=eq_true p102
    replace q102:=eq_true q102
    refine start_ (n:=15) (S:=fun w'=>w'.cell? ⟨gb101,0,none⟩=some (.int .i64 a0_0)∧w'.cell? ⟨gb101,1,none⟩=some (.int .i64 a0_1)∧w'.cell? ⟨gb101,2,none⟩=some (.int .i64 a0_2)∧w'.cell? ⟨gb101,3,none⟩=some (.int .i64 a0_3)∧w'.cell? ⟨gb101,4,none⟩=some (.string a0_4)∧w'.cell? ⟨gb101,5,none⟩=some (.string a0_5)∧w'.cell? ⟨gb101,6,none⟩=some (.slice (some ad102) l0_6.length c0_6)∧w'.cell? (ad102.add (a1).toNat)=some (.string (rdOf ByteArray.empty l0_6 a1))) (ds:= []) #[false,false,false,false,false,false,false,false,false,false,false,false,false,false,false] (by kernel_rfl) rfl rfl ⟨(blk_cell BK101.out 0).trans rfl,(blk_cell BK101.out 1).trans rfl,(blk_cell BK101.out 2).trans rfl,(blk_cell BK101.out 3).trans rfl,(blk_cell BK101.out 4).trans rfl,(blk_cell BK101.out 5).trans rfl,(blk_cell BK101.out 6).trans rfl,((HB.out.cell (World.block_lt_of_cell? w _ hw102_0)).trans hw102_0)⟩ (fun hHeld=>?_);refine with_tabW file_whole_data.tab1 file_whole_data.bits1 (fun HT_ HW_=>?_)
    generalize w22.drew=w23 at BK101 HB hx102_0 hHeld ⊢
    refine P_ 0 9 ?_
    refine P_ 1 10 ?_
    refine P_ 3 12 ?_
    refine P_ 6 15 ?_
    refine P_ 7 16 ?_
    refine T_ 2 11 (y:=by rintro w' ⟨s0,s1,s2,s3,s4,s5,s6,s7⟩;go_simp;with_reducible rfl) (h:=?_)
    refine P_ 4 13 ?_
    refine T_ 5 14 (y:=by rintro w' ⟨s0,s1,s2,s3,s4,s5,s6,s7⟩;go_simp;with_reducible rfl) (h:=?_)
    refine T_ 8 17 (y:=by rintro w' ⟨s0,s1,s2,s3,s4,s5,s6,s7⟩;go_simp;with_reducible rfl) (h:=?_)
    refine O_ 9 18 fun K hK=>?_
    refine g_ Tryz.func26 #[.string (rdOf ByteArray.empty l0_6 a1),.agg #[.int .i64 a0_0,.int .i64 a0_1]] ?_
    with_reducible refine (segment_Get.calls k (rdOf ByteArray.empty l0_6 a1) a0_0 a0_1 t103 t104 _ A5.out).mono ?_
    rintro e w24 ⟨rfl,hb⟩
    refine ⟨_,rfl,?_⟩
    replace BK101:=Z_ (blk_below (K_ BK101) hb)
    replace HB:=Hb_ hb
    (try clear hb)
    (try clear hb2)
    (try clear hk)
    (try clear hi)
    refine hK.out _ _ ⟨(blk_cell BK101.out 0).trans rfl,(blk_cell BK101.out 1).trans rfl,(blk_cell BK101.out 2).trans rfl,(blk_cell BK101.out 3).trans rfl,(blk_cell BK101.out 4).trans rfl,(blk_cell BK101.out 5).trans rfl,(blk_cell BK101.out 6).trans rfl,((HB.out.cell (World.block_lt_of_cell? w _ hw102_0)).trans hw102_0)⟩ (fun hHeld=>?_)
    clear hK K
    refine Nm_ 18 ?_
    refine P_ 10 8 ?_
    refine P_ 11 19 ?_
    refine P_ 12 20 ?_
    refine P_ 13 6 ?_
    refine P_ 14 7 ?_
    refine done_ (done_of HT_.out (by kernel_rfl)) ?_
    try go_wp2
    replace BK101:=Z_ (blk_drew BK101.out)
    replace HB:=Z_ (below_drew1 HB.out)
    refine start_ (n:=15) (S:=fun w'=>True) (ds:= []) #[false,false,false,false,false,false,false,false,false,false,false,false,false,false,false] (by kernel_rfl) rfl rfl trivial (fun hHeld=>?_);refine with_tabW file_whole_data.tab2 file_whole_data.bits2 (fun HT_ HW_=>?_)
    generalize w24.drew=w25 at BK101 HB hHeld ⊢
    refine P_ 0 21 ?_
    refine P_ 1 22 ?_
    refine P_ 2 23 ?_
    refine pure_ (i:=3) (N:=some 24) (v:=undef) (a':=?_) #[true,true,true,true,false,false,false,false,false,false,false,false,false,false,false] rfl rfl (any_of HT_.out (by kernel_rfl)) (fun _ _ _ h=>h) (Or.inr ⟨by rfl,rfl⟩) ?_ ?_
    rotate_left
    ·simp only [Act.put,List.setIfInBounds_toArray,List.set_cons_zero,List.set_cons_succ,i64_w,i32_w]
     rfl
    refine pure_ (i:=4) (N:=some 25) (v:=undef) (a':=?_) #[true,true,true,true,true,false,false,false,false,false,false,false,false,false,false] rfl rfl (any_of HT_.out (by kernel_rfl)) (fun _ _ _ h=>h) (Or.inr ⟨by rfl,rfl⟩) ?_ ?_
    rotate_left
    ·simp only [Act.put,List.setIfInBounds_toArray,List.set_cons_zero,List.set_cons_succ,i64_w,i32_w]
     rfl
    refine pure_ (i:=5) (N:=some 26) (v:=undef) (a':=?_) #[true,true,true,true,true,true,false,false,false,false,false,false,false,false,false] rfl rfl (any_of HT_.out (by kernel_rfl)) (fun _ _ _ h=>h) (Or.inr ⟨by rfl,rfl⟩) ?_ ?_
    rotate_left
    ·simp only [Act.put,List.setIfInBounds_toArray,List.set_cons_zero,List.set_cons_succ,i64_w,i32_w]
     rfl
    refine pure_ (i:=6) (N:=some 27) (v:=undef) (a':=?_) #[true,true,true,true,true,true,true,false,false,false,false,false,false,false,false] rfl rfl (any_of HT_.out (by kernel_rfl)) (fun _ _ _ h=>h) (Or.inr ⟨by rfl,rfl⟩) ?_ ?_
    rotate_left
    ·simp only [Act.put,List.setIfInBounds_toArray,List.set_cons_zero,List.set_cons_succ,i64_w,i32_w]
     rfl
    refine pure_ (i:=7) (N:=some 28) (v:=undef) (a':=?_) #[true,true,true,true,true,true,true,true,false,false,false,false,false,false,false] rfl rfl (any_of HT_.out (by kernel_rfl)) (fun _ _ _ h=>h) (Or.inr ⟨by rfl,rfl⟩) ?_ ?_
    rotate_left
    ·simp only [Act.put,List.setIfInBounds_toArray,List.set_cons_zero,List.set_cons_succ,i64_w,i32_w]
     rfl
    refine pure_ (i:=8) (N:=some 29) (v:=undef) (a':=?_) #[true,true,true,true,true,true,true,true,true,false,false,false,false,false,false] rfl rfl (any_of HT_.out (by kernel_rfl)) (fun _ _ _ h=>h) (Or.inr ⟨by rfl,rfl⟩) ?_ ?_
    rotate_left
    ·simp only [Act.put,List.setIfInBounds_toArray,List.set_cons_zero,List.set_cons_succ,i64_w,i32_w]
     rfl
    refine pure_ (i:=9) (N:=some 30) (v:=undef) (a':=?_) #[true,true,true,true,true,true,true,true,true,true,false,false,false,false,false] rfl rfl (any_of HT_.out (by kernel_rfl)) (fun _ _ _ h=>h) (Or.inr ⟨by rfl,rfl⟩) ?_ ?_
    rotate_left
    ·simp only [Act.put,List.setIfInBounds_toArray,List.set_cons_zero,List.set_cons_succ,i64_w,i32_w]
     rfl
    refine pure_ (i:=10) (N:=some 31) (v:=undef) (a':=?_) #[true,true,true,true,true,true,true,true,true,true,true,false,false,false,false] rfl rfl (any_of HT_.out (by kernel_rfl)) (fun _ _ _ h=>h) (Or.inr ⟨by rfl,rfl⟩) ?_ ?_
    rotate_left
    ·simp only [Act.put,List.setIfInBounds_toArray,List.set_cons_zero,List.set_cons_succ,i64_w,i32_w]
     rfl
    refine pure_ (i:=11) (N:=some 32) (v:=undef) (a':=?_) #[true,true,true,true,true,true,true,true,true,true,true,true,false,false,false] rfl rfl (any_of HT_.out (by kernel_rfl)) (fun _ _ _ h=>h) (Or.inr ⟨by rfl,rfl⟩) ?_ ?_
    rotate_left
    ·simp only [Act.put,List.setIfInBounds_toArray,List.set_cons_zero,List.set_cons_succ,i64_w,i32_w]
     rfl
    refine pure_ (i:=12) (N:=some 33) (v:=undef) (a':=?_) #[true,true,true,true,true,true,true,true,true,true,true,true,true,false,false] rfl rfl (any_of HT_.out (by kernel_rfl)) (fun _ _ _ h=>h) (Or.inr ⟨by rfl,rfl⟩) ?_ ?_
    rotate_left
    ·simp only [Act.put,List.setIfInBounds_toArray,List.set_cons_zero,List.set_cons_succ,i64_w,i32_w]
     rfl
    refine pure_ (i:=13) (N:=some 34) (v:=undef) (a':=?_) #[true,true,true,true,true,true,true,true,true,true,true,true,true,true,false] rfl rfl (any_of HT_.out (by kernel_rfl)) (fun _ _ _ h=>h) (Or.inr ⟨by rfl,rfl⟩) ?_ ?_
    rotate_left
    ·simp only [Act.put,List.setIfInBounds_toArray,List.set_cons_zero,List.set_cons_succ,i64_w,i32_w]
     rfl
    refine P_ 14 35 ?_
    refine done_ (done_of HT_.out (by kernel_rfl)) ?_
    try go_wp2
    go_ret2
    exact ⟨E_,B_⟩
  ·rw [if_neg c4] at H
   exact absurd H (by simp)
 ·rw [if_neg c3] at H
  exact absurd H (by simp)
end Go.Proofs.YtfghldonnffldaaGreatDoor.ESev
namespace Go.Proofs.YtfghldonnffldaaGreatDoor
open Go.RowKit YtfghldonnffldaaGreatDoorW.PrintWords YtfghldonnffldaaGreatDoorW.PrintLast YtfghldonnffldaaGreatDoorW.PrintMore TBase
open YFou ESev
theorem file_Data.calls (k:Nat) (a0_0:Int) (a0_1:Int) (a0_2:Int) (a0_3:Int) (a0_4:ByteArray) (a0_5:ByteArray) (A0_6:Option Addr) (c0_6:Nat) (l0_6:List ByteArray) (a1:Int) (r1:ByteArray) (r2:Bool) (w:World) (hr0_6:Kd.C Kd.string w A0_6 l0_6.length l0_6) (hc0_6:l0_6.length≤c0_6) (h:file_whole_data.f k a0_0 a0_1 a0_2 a0_3 a0_4 a0_5 l0_6 a1=some (r1,r2)) (hT:Tabs w:=by exact Tabs.below hT B_):
  Calls Tryz.prog 31 #[.agg #[.int .i64 a0_0,.int .i64 a0_1,.int .i64 a0_2,.int .i64 a0_3,.string a0_4,.string a0_5,.slice A0_6 l0_6.length c0_6],.int .i64 a1] w fun e w'=>e= .returned (.tuple #[.string r1,.bool r2])∧Below w.heap.size w w':=by
 have hu49:=Tryz.underlying49
 have hu127:=Tryz.underlying127
 have HW:=Lib.hid (file_whole_data.calls k a0_0 a0_1 a0_2 a0_3 a0_4 a0_5 A0_6 c0_6 l0_6 a1 r1 r2 (w.alloc (.cells #[.int .i64 a0_0,.int .i64 a0_1,.int .i64 a0_2,.int .i64 a0_3,.string a0_4,.string a0_5,.slice A0_6 l0_6.length c0_6] 49)) (Kd.C_below hr0_6 (below_alloc (Below.refl _ _) _)) hc0_6 h (Tabs.below hT (below_alloc (Below.refl _ _) _)))
 have Y2:Aside0 ((w.alloc (.cells #[.int .i64 a0_0,.int .i64 a0_1,.int .i64 a0_2,.int .i64 a0_3,.string a0_4,.string a0_5,.slice A0_6 l0_6.length c0_6] 49)).heap[w.heap.size]?=some (.cells #[.int .i64 a0_0,.int .i64 a0_1,.int .i64 a0_2,.int .i64 a0_3,.string a0_4,.string a0_5,.slice A0_6 l0_6.length c0_6] 49 (0,0))):=⟨blk_new w _⟩
 have YB:Aside0 (Below w.heap.size w (w.alloc (.cells #[.int .i64 a0_0,.int .i64 a0_1,.int .i64 a0_2,.int .i64 a0_3,.string a0_4,.string a0_5,.slice A0_6 l0_6.length c0_6] 49))):=⟨below_alloc (Below.refl _ _) _⟩
 clear h hT hr0_6
 go_enter Tryz.func31,Tryz.ntmps31
 have r0:=blk_cell Y2.out 0
 have r1':=blk_cell Y2.out 1
 have r2':=blk_cell Y2.out 2
 have r3:=blk_cell Y2.out 3
 have r4:=blk_cell Y2.out 4
 have r5:=blk_cell Y2.out 5
 have r6:=blk_cell Y2.out 6
 simp at r0 r1' r2' r3 r4 r5 r6
 go_wp2_with fail
 refine HW.out.mono ?_
 rintro e wk_ ⟨rfl,hb⟩
 go_wp2
 go_ret2
 exact ⟨rfl,below_step YB.out hb⟩
end Go.Proofs.YtfghldonnffldaaGreatDoor
namespace Go.Proofs.YtfghldonnffldaaGreatDoor
open Go.RowKit YtfghldonnffldaaGreatDoorW.PrintWords YtfghldonnffldaaGreatDoorW.PrintLast YtfghldonnffldaaGreatDoorW.PrintMore TBase
open YFou ESev ZFiv
def dec.T13:Bool×List (List Nat×List Nat):=(true,[([],[]),([0],[0]),([],[]),([2],[2]),([],[]),([],[]),([5],[5]),([1,3,4,6],[1,3,4,6]),([7,4],[7]),([8],[8]),([9],[9]),([9],[9]),([10,8,0,1,2,3,4,5,6,7,8,9,10],[10]),([11,12,0,1,2,3,4,5,6,7,8,9,10,11,12],[11])])
def dec.B13:List Nat:= [0,1,0,4,0,0,32,127,255,511,1023,1023,2047,8191]
theorem dec.tab13:rtab .any (opsOf Tryz.f13 13)=dec.T13:=by kernel_rfl
theorem dec.bits13:waitsOk dec.T13.2 dec.B13=true:=by kernel_rfl
theorem decode_calls (k k2:Nat) (s:ByteArray) (ch bi sz fr:Nat) (hd tl:ByteArray) (l D:List ByteArray) (p1 p2 p3 p5 q:Nat) (r:ByteArray) (w:World) (hT:Tabs w) (ho:StrOk s ch bi sz fr hd tl l p1 p2 p3 p5 q) (hD:D.length=l.length) (hds:∀i,i<l.length→file_whole_data.f k ch bi sz fr hd tl l (i:Int)=some (D.getD i ByteArray.empty,true)) (hdt:tot D≤140737488355328) (hb:wave_Build.f k2 ch bi hd ⟨(flat D).toArray⟩ tl=some (r,0)):
  Calls Tryz.prog 13 #[.string s] w fun e w'=>e= .returned (.tuple #[.string r,.int .i64 0])∧Below w.heap.size w w':=by
 have hu49:=Tryz.underlying49
 have hu23:=Tryz.underlying23
 have hu57:=Tryz.underlying57
 have HT:=Z_ hT
 have HDS:=Z_ hds
 have HBD:=Lib.hid hb
 have HDL:=Lib.hid hD
 have hll:l.length≤65536:=by have h2:=ho.hq;have h3:=ho.fin;have h4:=ho.size;omega
 have SG:=Lib.hid (sget_calls s ch bi sz fr hd tl l p1 p2 p3 p5 q w ho)
 clear hT hds hb hD ho
 go_enter Tryz.func13,Tryz.ntmps13
 go_wp2_with fail
 refine SG.out.mono ?_
 rintro e w1 ⟨v0,rfl,hr,hb⟩
 obtain ⟨As,cs_,he,hcs,_⟩:=Kd.R_reads hr
 subst he
 have HS:=Z_ hr
 have YW:=Z_ hb
 clear hr hb
 go_wp2_with (first | (refine X_ 4 #[.int .i64 0,.int .i64 0,.int .i64 0,.int .i64 0,.string ⟨#[]⟩,.string ⟨#[]⟩,.slice none 0 0] 49 ?_;intro gt hg wk_ hbox hb;have HGT0:Aside0 (w.heap.size≤gt):=⟨by rw [hg];exact YW.out.size⟩;have HG_:=Z_ hg;have HB_:=Z_ hb;have YT:=Z_ hbox;clear hbox hb hg) | ((with_reducible refine gate_store (t:=49) (p:=4) rfl ?_);refine wpList_store_mid rfl 49 _ _ rfl gt 0 #[.int .i64 ch,.int .i64 bi,.int .i64 sz,.int .i64 fr,.string hd,.string tl,.slice As l.length cs_] rfl rfl (there_blk (vs:= [.int .i64 0,.int .i64 0,.int .i64 0,.int .i64 0,.string ⟨#[]⟩,.string ⟨#[]⟩,.slice none 0 0]) YT.out 0 7 (by decide)) (by kernel_rfl) (by simp [Value.oneCell']) ?_;have nc_:=Z_ (setCells_all (vs:= [.int .i64 ch,.int .i64 bi,.int .i64 sz,.int .i64 fr,.string hd,.string tl,.slice As l.length cs_]) (old:= [.int .i64 0,.int .i64 0,.int .i64 0,.int .i64 0,.string ⟨#[]⟩,.string ⟨#[]⟩,.slice none 0 0]) YT.out rfl);have hb:=below_setCells HB_.out (Nat.le_of_eq HG_.out.symm) [.int .i64 ch,.int .i64 bi,.int .i64 sz,.int .i64 fr,.string hd,.string tl,.slice As l.length cs_] 0;replace HS:=Z_ (Kd.R_below HS.out hb);replace YW:=Z_ (below_step YW.out hb);clear hb HB_ HG_ YT;have YT:=nc_;clear nc_;generalize World.setCells _ _ _ _=wk_ at HS YW YT ⊢) | (refine X_ 6 #[.pointer none,.slice none 0 0] 66 ?_;intro gb hg wk_ hbox hb;have HGT:Aside0 (gt<gb):=⟨by rw [hg];exact blk_lt YT.out⟩;have HGB:Aside0 (w.heap.size≤gb):=⟨by rw [hg];exact YW.out.size⟩;have n9_:=Z_ (Kd.R_mono (Kd.R_bound HS.out) (ok':=fun k=>k<gb) (fun k hk=>by rw [hg];exact hk.2.2.1));clear HS;have HS:=n9_;clear n9_;replace HS:=Z_ (Kd.R_below HS.out hb);replace YW:=Z_ (below_step YW.out hb);replace YT:=Z_ (blk_below YT.out hb);have YBX:=Z_ hbox;clear hbox hb hg;have r6:=blk_cell YT.out 6;simp at r6))
 have YB:=Z_ (bldF_new YBX.out)
 have HGB2:=Z_ (Nat.le_of_lt (blk_lt YBX.out))
 clear YBX
 go_loopg [21] l.length (fun d v21 wr=>∃i:Nat,v21= .int .i64 i∧i+d=l.length∧Aside0 (wr.heap[gt]?=some (.cells #[.int .i64 ch,.int .i64 bi,.int .i64 sz,.int .i64 fr,.string hd,.string tl,.slice As l.length cs_] 49 (0,0)))∧Aside0 (Below w.heap.size w wr)∧Aside0 (Lib.IsBuilderF 66 5 gb gb (Lib.byteCells (flat (D.take i))) wr)∧Aside0 (gb≤wr.heap.size)∧Aside0 (Kd.R Kd.string 9 wr w.heap.size (fun k=>k<gb) (.slice As l.length cs_) l))
 case atStart=>exact ⟨0,rfl,by omega,YT,YW,⟨by rw [List.take_zero];exact YB.out⟩,HGB2,HS⟩
 case round=>
  clear YT YW YB HGB2 HS r6
  obtain ⟨i,rfl,hi,YT,YW,YB,HGB2,HS⟩:=hrel
  cases gk with
  | zero=>
   obtain rfl:l.length=i:=by omega
   have e1:D.take l.length=D:=List.take_of_length_le (by rw [HDL.out];exact Nat.le_refl _)
   rw [e1] at YB
   obtain ⟨LL,hL⟩:∃L,flat D=L:=⟨_,rfl⟩
   rw [hL] at YB HBD
   clear hL e1
   go_wp2
   replace YT:=Z_ (blk_drew YT.out)
   replace YW:=Z_ (below_drew1 YW.out)
   replace YB:=Z_ (bldF_below YB.out (below_drew (Below.refl _ _)))
   replace HGB2:=Z_ (size_drew HGB2.out)
   replace HS:=Z_ (Kd.R_drew HS.out)
   refine start_ (n:=14) (S:=fun w'=>w'.heap[gt]?=some (.cells #[.int .i64 ch,.int .i64 bi,.int .i64 sz,.int .i64 fr,.string hd,.string tl,.slice As l.length cs_] 49 (0,0))) (ds:= []) #[false,false,false,false,false,false,false,false,false,false,false,false,false,false] (by kernel_rfl) rfl rfl YT.out (fun hHeld=>?_);refine with_tabW dec.tab13 dec.bits13 (fun HT_ HW_=>?_)
   generalize World.drew _=wk_ at YT YW YB HGB2 HS hHeld ⊢
   refine P_ 0 36 ?_
   refine P_ 2 38 ?_
   refine P_ 5 41 ?_
   refine T_ 1 37 (y:=by rintro w' s0;have r0:=blk_cell s0 0;have r1:=blk_cell s0 1;have r2:=blk_cell s0 2;have r3:=blk_cell s0 3;have r4:=blk_cell s0 4;have r5:=blk_cell s0 5;simp at r0 r1 r2 r3 r4 r5;go_simp;with_reducible rfl) (h:=?_)
   refine T_ 3 39 (y:=by rintro w' s0;have r0:=blk_cell s0 0;have r1:=blk_cell s0 1;have r2:=blk_cell s0 2;have r3:=blk_cell s0 3;have r4:=blk_cell s0 4;have r5:=blk_cell s0 5;simp at r0 r1 r2 r3 r4 r5;go_simp;with_reducible rfl) (h:=?_)
   refine T_ 6 42 (y:=by rintro w' s0;have r0:=blk_cell s0 0;have r1:=blk_cell s0 1;have r2:=blk_cell s0 2;have r3:=blk_cell s0 3;have r4:=blk_cell s0 4;have r5:=blk_cell s0 5;simp at r0 r1 r2 r3 r4 r5;go_simp;with_reducible rfl) (h:=?_)
   refine O_ 4 40 fun K hK=>?_
   refine g_ Tryz.func34 #[.pointer (some ⟨gb,0,none⟩)] ?_
   refine (str_calls gb LL _ YB.out HGB2.out).mono ?_
   rintro e wk_ ⟨rfl,hbb,hbw⟩
   refine ⟨_,rfl,?_⟩
   replace YT:=Z_ ((hbw.block gt HGT.out).trans YT.out)
   replace YW:=Z_ (YW.out.trans (hbw.mono HGB.out))
   replace YB:=Z_ hbb
   replace HGB2:=Z_ (Nat.le_trans HGB2.out hbw.size)
   replace HS:=Z_ (Kd.R_step HS.out (fun k_ hk_ _=>hbw.block k_ hk_))
   clear hbw hbb
   refine hK.out _ _ YT.out (fun hHeld=>?_)
   clear hK K
   refine Nm_ 40 ?_
   refine P_ 7 43 ?_
   refine O_ 8 44 fun K hK=>?_
   refine g_ Tryz.func33 #[.agg #[.int .i64 ch,.int .i64 bi,.string hd,.string ⟨LL.toArray⟩,.string tl]] ?_
   refine (wave_Build.calls k2 ch bi hd ⟨LL.toArray⟩ tl _ _ _ HBD.out).mono ?_
   rintro e wk_ ⟨rfl,hb⟩
   refine ⟨_,rfl,?_⟩
   replace HS:=Z_ (Kd.R_below HS.out hb)
   replace YW:=Z_ (below_step YW.out hb)
   replace YT:=Z_ (blk_below YT.out hb)
   replace YB:=Z_ (bldF_below YB.out hb)
   replace HGB2:=Z_ (Nat.le_trans HGB2.out hb.size)
   clear hb
   refine hK.out _ _ YT.out (fun hHeld=>?_)
   clear hK K
   refine Nm_ 44 ?_
   refine P_ 9 35 ?_
   refine P_ 10 45 ?_
   refine P_ 11 46 ?_
   refine P_ 12 10 ?_
   refine P_ 13 5 ?_
   refine done_ (done_of HT_.out (by kernel_rfl)) ?_
   go_wp2
   go_ret2
   exact ⟨rfl,YW.out⟩
  | succ d=>
   have hlt:i<l.length:=by omega
   have hlt':(i:Int)<l.length:=by omega
   have hi0:(0:Int)≤i:=by omega
   have HF:=Lib.hid (HDS.out i hlt)
   have hst:=flat_at D i (by rw [HDL.out];exact hlt)
   have hsn:D.take (i+1)=D.take i++ [D.getD i ByteArray.empty]:=by
    have h9:i<D.length:=by rw [HDL.out];exact hlt
    rw [List.take_succ_eq_append_getElem h9,List.getD_eq_getElem?_getD,List.getElem?_eq_getElem h9];rfl
   have hfl:flat (D.take (i+1))=flat (D.take i)++(D.getD i ByteArray.empty).data.toList:=by
    rw [hsn]
    unfold flat
    rw [List.map_append,List.flatten_append]
    simp
   have hle:=tot_le D (i+1)
   rw [←flat_len (D.take (i+1)),hfl,List.length_append,data_length] at hle
   obtain ⟨x,hx⟩:∃x,D.getD i ByteArray.empty=x:=⟨_,rfl⟩
   rw [hx] at HF hfl hle
   obtain ⟨L,hL⟩:∃L,flat (D.take i)=L:=⟨_,rfl⟩
   rw [hL] at YB hfl hle
   have HFL:=Lib.hid hfl
   have hbd:L.length+x.size≤140737488355328:=by omega
   clear hst hsn hfl hle hx hL
   go_wp2_with (first | ((with_reducible refine gate_dst (N:=25) rfl ?_);refine wpList_load_mid rfl 49 _ rfl gt 0 rfl [.int .i64 ch,.int .i64 bi,.int .i64 sz,.int .i64 fr,.string hd,.string tl,.slice As l.length cs_] _ (range_all YT.out) Tryz.underlying49 rfl (by kernel_rfl) ?_))
   refine (file_Data.calls k ch bi sz fr hd tl As cs_ l i _ _ _ (Kd.R_reads' HS.out).2.2 hcs HF.out (Tabs.below HT.out YW.out)).mono ?_
   rintro e wk_ ⟨rfl,hb⟩
   replace HS:=Z_ (Kd.R_below HS.out hb)
   replace YW:=Z_ (below_step YW.out hb)
   replace YT:=Z_ (blk_below YT.out hb)
   replace YB:=Z_ (bldF_below YB.out hb)
   replace HGB2:=Z_ (Nat.le_trans HGB2.out hb.size)
   clear hb
   go_wp2_with fail
   refine (wstr_calls gb L x _ YB.out hbd HGB2.out).mono ?_
   rintro e wk_ ⟨rfl,hbb,hbw⟩
   replace YT:=Z_ ((hbw.block gt HGT.out).trans YT.out)
   replace YW:=Z_ (YW.out.trans (hbw.mono HGB.out))
   replace YB:=Z_ hbb
   replace HGB2:=Z_ (Nat.le_trans HGB2.out hbw.size)
   replace HS:=Z_ (Kd.R_step HS.out (fun k_ hk_ _=>hbw.block k_ hk_))
   clear hbw hbb
   go_wp2
   go_roundg d
   case measure=>omega
   case rel=>exact ⟨i+1,by go_num,by omega,YT,YW,⟨by rw [HFL.out];exact YB.out⟩,HGB2,HS⟩
def rng.T17:Bool×List (List Nat×List Nat):=(true,[([],[]),([0],[0]),([1],[1]),([],[]),([],[]),([4],[4]),([3,5],[3,5]),([2,2,0,1,2],[2]),([6,7,0,1,2,3,4,5,6,7],[6])])
def rng.B17:List Nat:= [0,1,3,0,0,16,56,7,255]
theorem rng.tab17:rtab .any (opsOf Tryz.f19 17)=rng.T17:=by kernel_rfl
theorem rng.bits17:waitsOk rng.T17.2 rng.B17=true:=by kernel_rfl
theorem w_sub (a u x:Nat) (h:u≤a) (hb:a≤4096) (e:a - u=x):wrap64 ((a:Int) - u)=(x:Int):=by unfold wrap64;omega
theorem w_mul (x y z:Nat) (e:x*y=z) (hb:z≤9223372036854775807):wrap64 ((x:Int)*(y:Int))=(z:Int):=by
 rw [←Int.natCast_mul,e]
 unfold wrap64
 omega
theorem w_succ (i:Nat) (h:i≤65536):wrap64 ((i:Int)+1)=((i+1:Nat):Int):=by unfold wrap64;omega
theorem w_id (x:Nat) (hb:x≤9223372036854775807):wrap64 (x:Int)=(x:Int):=by unfold wrap64;omega
theorem range_calls (k:Nat) (s:ByteArray) (ch bi sz fr:Nat) (hd tl:ByteArray) (l D:List ByteArray) (p1 p2 p3 p5 q:Nat) (a b f0 e0 fs_:Nat) (w:World) (hT:Tabs w) (ho:StrOk s ch bi sz fr hd tl l p1 p2 p3 p5 q) (hab:a<b) (hb:b≤fr) (hf0:a / sz=f0) (he0:∀i:Nat,i<e0↔i*sz<b) (hel:e0≤l.length) (hfe:f0≤e0) (hds:∀i,f0≤i→i<e0→file_whole_data.f k ch bi sz fr hd tl l (i:Int)=some (D.getD i ByteArray.empty,true)) (hD:D.length=l.length) (hdt:tot D≤140737488355328) (hfr:pcm_Frame.f ch bi=some (fs_:Int)) (hfs:fs_≤4) (hlen:(b - f0*sz)*fs_≤tot ((D.drop f0).take (e0 - f0))):
  Calls Tryz.prog 19 #[.string s,.int .i64 a,.int .i64 b] w fun e w'=>e= .returned (.tuple #[.string ((⟨(flat ((D.drop f0).take (e0 - f0))).toArray⟩:ByteArray).extract ((a - f0*sz)*fs_) ((b - f0*sz)*fs_)),.int .i64 0])∧Below w.heap.size w w':=by
 have hu49:=Tryz.underlying49
 have hu23:=Tryz.underlying23
 have HT:=Z_ hT
 have HDS:=Z_ hds
 have HFR:=Lib.hid hfr
 have HDL:=Lib.hid hD
 have HE0:=Z_ he0
 have hll:l.length≤65536:=by have h2:=ho.hq;have h3:=ho.fin;have h4:=ho.size;omega
 have hok:=ho.ok
 obtain ⟨_,_,hz1,hz2,_,hz3,_,_⟩:=hok
 have SG:=Lib.hid (sget_calls s ch bi sz fr hd tl l p1 p2 p3 p5 q w ho)
 clear hT hds hfr hD ho
 have b1:¬((a:Int)<0):=by omega
 have b2:¬((b:Int)<a):=by omega
 have b3:¬((fr:Int)<b):=by omega
 have b4:¬((a:Int)=b):=by omega
 have b5:¬((sz:Int)=0):=by omega
 have b6:Int.tdiv (a:Int) (sz:Int)=(f0:Int):=by rw [←hf0];rfl
 have b7:=w_id f0 (by omega)
 have hu:f0*sz≤a:=by rw [←hf0];exact Nat.div_mul_le_self a sz
 have hzb:∀i:Nat,i≤e0→i*sz≤65536*64:=fun i hi=>Nat.mul_le_mul (by omega) (by omega)
 have HZB:=Z_ hzb
 have hx2:(b - f0*sz)*fs_≤4096*4:=Nat.mul_le_mul (by omega) hfs
 have hx1:(a - f0*sz)*fs_≤(b - f0*sz)*fs_:=Nat.mul_le_mul_right _ (by omega)
 obtain ⟨res,hres⟩:∃r,(⟨(flat ((D.drop f0).take (e0 - f0))).toArray⟩:ByteArray).extract ((a - f0*sz)*fs_) ((b - f0*sz)*fs_)=r:=⟨_,rfl⟩
 rw [hres]
 obtain ⟨u1,hu1⟩:∃u,f0*sz=u:=⟨_,rfl⟩
 rw [hu1] at hu hx2 hx1 hlen hres
 have hb4:b≤4096:=by clear hlen hdt hx1 hx2;omega
 have ha4:a≤4096:=Nat.le_trans (Nat.le_of_lt hab) hb4
 have g1:=w_mul f0 sz u1 hu1 (Nat.le_trans hu (Nat.le_trans ha4 (by decide)))
 obtain ⟨x1,hx1e⟩:∃u,a - u1=u:=⟨_,rfl⟩
 obtain ⟨x2,hx2e⟩:∃u,b - u1=u:=⟨_,rfl⟩
 have g2:=w_sub a u1 x1 hu ha4 hx1e
 have g3:=w_sub b u1 x2 (Nat.le_trans hu (Nat.le_of_lt hab)) hb4 hx2e
 rw [hx1e] at hx1 hres
 rw [hx2e] at hx2 hx1 hlen hres
 obtain ⟨y1,hy1⟩:∃u,x1*fs_=u:=⟨_,rfl⟩
 obtain ⟨y2,hy2⟩:∃u,x2*fs_=u:=⟨_,rfl⟩
 rw [hy1] at hx1 hres
 rw [hy2] at hx2 hx1 hlen hres
 have g4:=w_mul x1 fs_ y1 hy1 (Nat.le_trans hx1 (Nat.le_trans hx2 (by decide)))
 have g5:=w_mul x2 fs_ y2 hy2 (Nat.le_trans hx2 (by decide))
 have RES:=Lib.hid hres
 have HLEN:=Z_ hlen
 have G1:=Lib.hid g1
 have G2:=Lib.hid g2
 have G3:=Lib.hid g3
 have G4:=Lib.hid g4
 have G5:=Lib.hid g5
 have HX1:=Z_ hx1
 have HX2:=Z_ hx2
 clear g1 g2 g3 g4 g5 hx1 hx2 ha4 hb4
 clear hres hlen hu1 hx1e hx2e hy1 hy2 hzb hu
 have HDT:=Z_ hdt
 have HLL0:=Z_ hll
 clear he0 hf0 hfs hdt hz3 hll
 go_enter Tryz.func19,Tryz.ntmps19
 go_wp2_with fail
 refine SG.out.mono ?_
 rintro e w1 ⟨v0,rfl,hr,hb⟩
 obtain ⟨As,cs_,he,hcs,_⟩:=Kd.R_reads hr
 subst he
 have HS:=Z_ hr
 have YW:=Z_ hb
 clear hr hb
 go_wp2_with (first | (refine X_ 8 #[.int .i64 0,.int .i64 0,.int .i64 0,.int .i64 0,.string ⟨#[]⟩,.string ⟨#[]⟩,.slice none 0 0] 49 ?_;intro gt hg wk_ hbox hb;have HGT0:Aside0 (w.heap.size≤gt):=⟨by rw [hg];exact YW.out.size⟩;have HG_:=Z_ hg;have HB_:=Z_ hb;have YT:=Z_ hbox;clear hbox hb hg) | ((with_reducible refine gate_store (t:=49) (p:=8) rfl ?_);refine wpList_store_mid rfl 49 _ _ rfl gt 0 #[.int .i64 ch,.int .i64 bi,.int .i64 sz,.int .i64 fr,.string hd,.string tl,.slice As l.length cs_] rfl rfl (there_blk (vs:= [.int .i64 0,.int .i64 0,.int .i64 0,.int .i64 0,.string ⟨#[]⟩,.string ⟨#[]⟩,.slice none 0 0]) YT.out 0 7 (by decide)) (by kernel_rfl) (by simp [Value.oneCell']) ?_;have nc_:=Z_ (setCells_all (vs:= [.int .i64 ch,.int .i64 bi,.int .i64 sz,.int .i64 fr,.string hd,.string tl,.slice As l.length cs_]) (old:= [.int .i64 0,.int .i64 0,.int .i64 0,.int .i64 0,.string ⟨#[]⟩,.string ⟨#[]⟩,.slice none 0 0]) YT.out rfl);have hb:=below_setCells HB_.out (Nat.le_of_eq HG_.out.symm) [.int .i64 ch,.int .i64 bi,.int .i64 sz,.int .i64 fr,.string hd,.string tl,.slice As l.length cs_] 0;replace HS:=Z_ (Kd.R_below HS.out hb);replace YW:=Z_ (below_step YW.out hb);clear hb HB_ HG_ YT;have YT:=nc_;clear nc_;generalize World.setCells _ _ _ _=wk_ at HS YW YT ⊢;have r2:=blk_cell YT.out 2;have r3:=blk_cell YT.out 3;simp at r2 r3) | (refine X_ 11 #[.pointer none,.slice none 0 0] 66 ?_;intro gb hg wk_ hbox hb;have HGT:Aside0 (gt<gb):=⟨by rw [hg];exact blk_lt YT.out⟩;have HGB:Aside0 (w.heap.size≤gb):=⟨by rw [hg];exact YW.out.size⟩;have n9_:=Z_ (Kd.R_mono (Kd.R_bound HS.out) (ok':=fun k=>k<gb) (fun k hk=>by rw [hg];exact hk.2.2.1));clear HS;have HS:=n9_;clear n9_;replace HS:=Z_ (Kd.R_below HS.out hb);replace YW:=Z_ (below_step YW.out hb);replace YT:=Z_ (blk_below YT.out hb);have YBX:=Z_ hbox;clear hbox hb hg;have r1:=blk_cell YT.out 2;simp at r1))
 have YB:=Z_ (bldF_new YBX.out)
 have HGB2:=Z_ (Nat.le_of_lt (blk_lt YBX.out))
 clear YBX
 go_loopg [12] (e0 - f0) (fun d v12 wr=>∃i:Nat,v12= .int .i64 i∧i+d=e0∧f0≤i∧Aside0 (wr.heap[gt]?=some (.cells #[.int .i64 ch,.int .i64 bi,.int .i64 sz,.int .i64 fr,.string hd,.string tl,.slice As l.length cs_] 49 (0,0)))∧Aside0 (Below w.heap.size w wr)∧Aside0 (Lib.IsBuilderF 66 5 gb gb (Lib.byteCells (flat ((D.drop f0).take (i - f0)))) wr)∧Aside0 (gb≤wr.heap.size)∧Aside0 (Kd.R Kd.string 9 wr w.heap.size (fun k=>k<gb) (.slice As l.length cs_) l))
 case atStart=>exact ⟨f0,rfl,Nat.add_sub_cancel' hfe,Nat.le_refl _,YT,YW,⟨by rw [Nat.sub_self,List.take_zero];exact YB.out⟩,HGB2,HS⟩
 case round=>
  clear YT YW YB HGB2 HS r1 r2 r3
  obtain ⟨i,rfl,hi,hi2,YT,YW,YB,HGB2,HS⟩:=hrel
  have r2:=blk_cell YT.out 2
  simp at r2
  have hib:=HZB.out i (hi▸Nat.le_add_right i _)
  have hlz:=HE0.out i
  obtain ⟨z,hz⟩:∃z,i*sz=z:=⟨_,rfl⟩
  rw [hz] at hib hlz
  have g6:=w_mul i sz z hz (Nat.le_trans hib (by decide))
  clear hz
  cases gk with
  | zero=>
   obtain rfl:e0=i:=(show i=e0 from hi).symm
   have g7:¬((z:Int)<b):=by
    intro h
    exact absurd (hlz.2 (Int.ofNat_lt.1 h)) (Nat.lt_irrefl _)
   have g1:=G1.out
   have g2:=G2.out
   have g3:=G3.out
   have g4:=G4.out
   have g5:=G5.out
   have hx1:=HX1.out
   have hx2:=HX2.out
   have h8:=flat_len ((D.drop f0).take (e0 - f0))
   have h9:=HLEN.out
   rw [←h8] at h9
   obtain ⟨LL,hL⟩:∃L,flat ((D.drop f0).take (e0 - f0))=L:=⟨_,rfl⟩
   rw [hL] at YB h9
   have HLL:=Lib.hid hL
   clear hL h8 hlz
   have c1:((y2:Nat):Int)≤((⟨LL.toArray⟩:ByteArray).size:Int):=Int.ofNat_le.2 (by
    have:(⟨LL.toArray⟩:ByteArray).size=LL.length:=List.size_toArray
    rw [this]
    exact h9)
   have c2:(y1:Int)≤(y2:Int):=Int.ofNat_le.2 hx1
   have c3:(0:Int)≤(y1:Int):=Int.natCast_nonneg _
   obtain ⟨t,ht⟩:∃t:ByteArray,⟨LL.toArray⟩=t:=⟨_,rfl⟩
   rw [ht] at c1
   have CS:=Lib.hid (fun W h1 h2=>str_calls gb LL W h1 h2)
   rw [ht] at CS
   have HTT:=Lib.hid ht
   clear ht
   go_wp2
   replace YT:=Z_ (blk_drew YT.out)
   replace YW:=Z_ (below_drew1 YW.out)
   replace YB:=Z_ (bldF_below YB.out (below_drew (Below.refl _ _)))
   replace HGB2:=Z_ (size_drew HGB2.out)
   replace HS:=Z_ (Kd.R_drew HS.out)
   refine start_ (n:=9) (S:=fun w'=>w'.heap[gt]?=some (.cells #[.int .i64 ch,.int .i64 bi,.int .i64 sz,.int .i64 fr,.string hd,.string tl,.slice As l.length cs_] 49 (0,0))) (ds:= []) #[false,false,false,false,false,false,false,false,false] (by kernel_rfl) rfl rfl YT.out (fun hHeld=>?_);refine with_tabW rng.tab17 rng.bits17 (fun HT_ HW_=>?_)
   generalize World.drew _=wk_ at YT YW YB HGB2 HS hHeld ⊢
   refine P_ 0 66 ?_
   refine P_ 3 69 ?_
   refine P_ 4 70 ?_
   refine T_ 1 67 (y:=by rintro w' s0;have r0:=blk_cell s0 0;have r1:=blk_cell s0 1;have r2:=blk_cell s0 2;have r3:=blk_cell s0 3;have r4:=blk_cell s0 4;have r5:=blk_cell s0 5;simp at r0 r1 r2 r3 r4 r5;go_simp;with_reducible rfl) (h:=?_)
   refine T_ 5 71 (y:=by rintro w' s0;have r0:=blk_cell s0 0;have r1:=blk_cell s0 1;have r2:=blk_cell s0 2;have r3:=blk_cell s0 3;have r4:=blk_cell s0 4;have r5:=blk_cell s0 5;simp at r0 r1 r2 r3 r4 r5;go_simp;with_reducible rfl) (h:=?_)
   refine P_ 6 72 ?_
   refine O_ 2 68 fun K hK=>?_
   refine g_ Tryz.func29 #[.agg #[.int .i64 ch,.int .i64 bi]] ?_
   refine (pcm_Frame.calls ch bi fs_ _ HFR.out).mono ?_
   rintro e wk_ ⟨rfl,hb⟩
   refine ⟨_,rfl,?_⟩
   replace HS:=Z_ (Kd.R_below HS.out hb)
   replace YW:=Z_ (below_step YW.out hb)
   replace YT:=Z_ (blk_below YT.out hb)
   replace YB:=Z_ (bldF_below YB.out hb)
   replace HGB2:=Z_ (Nat.le_trans HGB2.out hb.size)
   clear hb
   refine hK.out _ _ YT.out (fun hHeld=>?_)
   clear hK K
   refine Nm_ 68 ?_
   refine P_ 7 15 ?_
   refine P_ 8 16 ?_
   refine done_ (done_of HT_.out (by kernel_rfl)) ?_
   go_wp2_with fail
   refine (CS.out _ YB.out HGB2.out).mono ?_
   rintro e wk_ ⟨rfl,hbb,hbw⟩
   replace YT:=Z_ ((hbw.block gt HGT.out).trans YT.out)
   replace YW:=Z_ (YW.out.trans (hbw.mono HGB.out))
   replace YB:=Z_ hbb
   replace HGB2:=Z_ (Nat.le_trans HGB2.out hbw.size)
   replace HS:=Z_ (Kd.R_step HS.out (fun k_ hk_ _=>hbw.block k_ hk_))
   clear hbw hbb
   go_wp2
   go_ret2
   exact ⟨by rw [←RES.out,HLL.out,HTT.out];rfl,YW.out⟩
  | succ d=>
   have g7:(z:Int)<b:=by
    have hie:i<e0:=by rw [←hi];exact Nat.lt_add_of_pos_right (Nat.succ_pos d)
    exact Int.ofNat_lt.2 (hlz.1 hie)
   have hie:i<e0:=by rw [←hi];exact Nat.lt_add_of_pos_right (Nat.succ_pos d)
   clear hlz
   have hlt:i<l.length:=Nat.lt_of_lt_of_le hie hel
   have hlt':(i:Int)<l.length:=Int.ofNat_lt.2 hlt
   have hi0:(0:Int)≤i:=Int.natCast_nonneg _
   have HF:=Lib.hid (HDS.out i hi2 hie)
   have hsn:(D.drop f0).take (i+1 - f0)=(D.drop f0).take (i - f0)++ [D.getD i ByteArray.empty]:=by
    have h9:i - f0<(D.drop f0).length:=by rw [List.length_drop,HDL.out];exact Nat.sub_lt_sub_right hi2 hlt
    have e9:i+1 - f0=i - f0+1:=Nat.sub_add_comm hi2
    rw [e9,List.take_succ_eq_append_getElem h9,List.getElem_drop]
    congr 2
    have e8:f0+(i - f0)=i:=Nat.add_sub_cancel' hi2
    rw [List.getD_eq_getElem?_getD,List.getElem?_eq_getElem (by rw [HDL.out];exact hlt)]
    simp only [e8]
    rfl
   have hfl:flat ((D.drop f0).take (i+1 - f0))=flat ((D.drop f0).take (i - f0))++(D.getD i ByteArray.empty).data.toList:=by
    rw [hsn]
    unfold flat
    rw [List.map_append,List.flatten_append]
    simp
   have hle:=tot_le (D.drop f0) (i+1 - f0)
   rw [←flat_len ((D.drop f0).take (i+1 - f0)),hfl,List.length_append,data_length] at hle
   have hle2:tot (D.drop f0)≤tot D:=by
    have:tot D=tot (D.take f0)+tot (D.drop f0):=by
     unfold tot
     rw [←List.sum_append,←List.map_append,List.take_append_drop]
    rw [this]
    exact Nat.le_add_left _ _
   obtain ⟨x,hx⟩:∃x,D.getD i ByteArray.empty=x:=⟨_,rfl⟩
   rw [hx] at HF hfl hle
   obtain ⟨L,hL⟩:∃L,flat ((D.drop f0).take (i - f0))=L:=⟨_,rfl⟩
   rw [hL] at YB hfl hle
   have HFL:=Lib.hid hfl
   have hbd:L.length+x.size≤140737488355328:=Nat.le_trans hle (Nat.le_trans hle2 HDT.out)
   clear hsn hfl hle hle2 hx hL
   go_wp2_with (first | ((with_reducible refine gate_dst (N:=57) rfl ?_);refine wpList_load_mid rfl 49 _ rfl gt 0 rfl [.int .i64 ch,.int .i64 bi,.int .i64 sz,.int .i64 fr,.string hd,.string tl,.slice As l.length cs_] _ (range_all YT.out) Tryz.underlying49 rfl (by kernel_rfl) ?_))
   clear r2
   refine (file_Data.calls k ch bi sz fr hd tl As cs_ l i _ _ _ (Kd.R_reads' HS.out).2.2 hcs HF.out (Tabs.below HT.out YW.out)).mono ?_
   rintro e wk_ ⟨rfl,hb⟩
   replace HS:=Z_ (Kd.R_below HS.out hb)
   replace YW:=Z_ (below_step YW.out hb)
   replace YT:=Z_ (blk_below YT.out hb)
   replace YB:=Z_ (bldF_below YB.out hb)
   replace HGB2:=Z_ (Nat.le_trans HGB2.out hb.size)
   clear hb
   go_wp2_with fail
   refine (wstr_calls gb L x _ YB.out hbd HGB2.out).mono ?_
   rintro e wk_ ⟨rfl,hbb,hbw⟩
   replace YT:=Z_ ((hbw.block gt HGT.out).trans YT.out)
   replace YW:=Z_ (YW.out.trans (hbw.mono HGB.out))
   replace YB:=Z_ hbb
   replace HGB2:=Z_ (Nat.le_trans HGB2.out hbw.size)
   replace HS:=Z_ (Kd.R_step HS.out (fun k_ hk_ _=>hbw.block k_ hk_))
   clear hbw hbb
   go_wp2
   go_roundg d
   case measure=>clear hlt' hi0 g7 g6;omega
   case rel=>
    have hll:=HLL0.out
    have hws:=w_succ i (Nat.le_trans (Nat.le_of_lt hlt) hll)
    clear b1 b2 b3 b4 b5 b6 b7 g6 g7
    exact ⟨i+1,by first | (rw [hws]) | (simp only [hws]) | go_num,by rw [←hi,Nat.add_assoc,Nat.add_comm 1 d],Nat.le_succ_of_le hi2,YT,YW,⟨by rw [HFL.out];exact YB.out⟩,HGB2,HS⟩
end Go.Proofs.YtfghldonnffldaaGreatDoor
