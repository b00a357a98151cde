/- Walks of the program's functions, and the laws of what they compute, for TopSizes: one file of several. -/
import Derived.Test.YtfghldonnffldaaGreatDoorProg
import Derived.Below
import Derived.Deep.Draws
import Derived.Deep.AppendLies
import Derived.Maps.AppendAt
import Derived.OwnWalk
import Derived.Laws.BytesArg
import Derived.Laws.MakeOwn
import Derived.Laws.OwnMore
import Derived.Deep.OwnRows
import Derived.Tactics
import Derived.Lib.ConvBytes
import Derived.Laws.Slices
import Derived.WalkKit
import Derived.KernelRfl
import Derived.RowKit3
import Derived.Deep.LoopGhost
import Derived.Deep.QuietTactic
import Derived.BigQuiet
import Derived.WideLaws
import Derived.Deep.DeepCutAuto
import Derived.Deep.CutBlock
import Derived.Deep.RegionHeld3
import Derived.Laws.Rows
import Derived.Lib.AppendStr
import Derived.ArgAppend
import Derived.Laws.IdiomCopy
import Derived.OrdersHeld
import Derived.Laws.BitsLemmas
import Derived.RowKit
import Derived.Test.YtfghldonnffldaaGreatDoorSiz4
set_option linter.unusedVariables false
set_option linter.unusedSimpArgs false
set_option maxRecDepth 100000
set_option maxHeartbeats 8000000
namespace Go.Proofs.YtfghldonnffldaaGreatDoor.ZFiv
open Go.RowKit TBase UOne VTwo XThr YFou YtfghldonnffldaaGreatDoorW.PrintWords YtfghldonnffldaaGreatDoorW.PrintLast YtfghldonnffldaaGreatDoorW.PrintMore
attribute [local go_sem] max2_int min2_int max_two min_two max_three min_three max_four min_four
def wave_Parse.j0:Nat→ByteArray→List (S116)→Int→Int→Bool→Option (Int×Int×ByteArray×ByteArray×ByteArray×Int)
 |0,_,_,_,_,_=>none
 |k+1,x0,x4,x6,x8,x51=>if x51=true then(some (0,0,(⟨#[]⟩:ByteArray),(⟨#[]⟩:ByteArray),(⟨#[]⟩:ByteArray),2100)) else(if 0≤x6 then(if x6<(x4.length:Int) then(if 0≤((rd_T116 x4 x6).f1) then(if((rd_T116 x4 x6).f1)≤(wrap64 (((rd_T116 x4 x6).f1)+16)) then(if(wrap64 (((rd_T116 x4 x6).f1)+16))≤(x0.size:Int) then((wave_format.f k (x0.extract (((rd_T116 x4 x6).f1):Int).toNat ((wrap64 (((rd_T116 x4 x6).f1)+16)):Int).toNat)).bind fun bt113=>(if 0≤x8 then(if x8<(x4.length:Int) then(if 0≤((rd_T116 x4 x8).f1) then(if((rd_T116 x4 x8).f1)≤(wrap64 (((rd_T116 x4 x8).f1)+((rd_T116 x4 x8).f2))) then(if(wrap64 (((rd_T116 x4 x8).f1)+((rd_T116 x4 x8).f2)))≤(x0.size:Int) then(if bt113.2.2=true then((pcm_Frames.f (x0.extract (((rd_T116 x4 x8).f1):Int).toNat ((wrap64 (((rd_T116 x4 x8).f1)+((rd_T116 x4 x8).f2))):Int).toNat) bt113.1 bt113.2.1).bind fun t119=>(if t119=true then(if((rd_T116 x4 x8).f1)≤(x0.size:Int) then(if 0≤(wrap64 (((rd_T116 x4 x8).f1)+((x0.extract (((rd_T116 x4 x8).f1):Int).toNat ((wrap64 (((rd_T116 x4 x8).f1)+((rd_T116 x4 x8).f2))):Int).toNat).size:Int))) then(if(wrap64 (((rd_T116 x4 x8).f1)+((x0.extract (((rd_T116 x4 x8).f1):Int).toNat ((wrap64 (((rd_T116 x4 x8).f1)+((rd_T116 x4 x8).f2))):Int).toNat).size:Int)))≤(x0.size:Int) then(some (bt113.1,bt113.2.1,x0.extract 0 (((rd_T116 x4 x8).f1):Int).toNat,x0.extract (((rd_T116 x4 x8).f1):Int).toNat ((wrap64 (((rd_T116 x4 x8).f1)+((rd_T116 x4 x8).f2))):Int).toNat,x0.extract ((wrap64 (((rd_T116 x4 x8).f1)+((x0.extract (((rd_T116 x4 x8).f1):Int).toNat ((wrap64 (((rd_T116 x4 x8).f1)+((rd_T116 x4 x8).f2))):Int).toNat).size:Int))):Int).toNat x0.size,0)) else(none)) else(none)) else(none)) else(some (0,0,(⟨#[]⟩:ByteArray),(⟨#[]⟩:ByteArray),(⟨#[]⟩:ByteArray),2100)))) else(some (0,0,(⟨#[]⟩:ByteArray),(⟨#[]⟩:ByteArray),(⟨#[]⟩:ByteArray),2100))) else(none)) else(none)) else(none)) else(none)) else(none))) else(none)) else(none)) else(none)) else(none)) else(none))
def wave_Parse.f(k:Nat)(a0:ByteArray):Option (Int×Int×ByteArray×ByteArray×ByteArray×Int):=(riff_Chunks.f k a0).bind fun bt102=>((wave_one.f bt102.1 (⟨#[102,109,116,32]⟩:ByteArray)).bind fun bt106=>((wave_one.f bt102.1 (⟨#[100,97,116,97]⟩:ByteArray)).bind fun bt108=>(if bt102.2=0 then(if bt106.2=true then(if bt108.2=true then(if bt108.1<bt106.1 then(wave_Parse.j0 k a0 bt102.1 bt106.1 bt108.1 true) else(if 0≤bt106.1 then(if bt106.1<(bt102.1.length:Int) then(wave_Parse.j0 k a0 bt102.1 bt106.1 bt108.1 (((rd_T116 bt102.1 bt106.1).f2) !=16)) else(none)) else(none))) else(wave_Parse.j0 k a0 bt102.1 bt106.1 bt108.1 true)) else(wave_Parse.j0 k a0 bt102.1 bt106.1 bt108.1 true)) else(wave_Parse.j0 k a0 bt102.1 bt106.1 bt108.1 true))))
def wave_Parse.T6:Bool×List (List Nat×List Nat):=(true,[([],[]),([],[]),([],[]),([1,2],[1,2]),([3],[3]),([4],[4]),([],[]),([],[]),([6,7],[6,7]),([8],[8]),([9],[9]),([10],[10]),([0,5,11],[0,5,11]),([12],[12]),([13],[13]),([14],[14]),([14],[14]),([],[]),([17,15,13,0,1,2,3,4,5,6,7,8,9,10,11,12,13,14,15,17],[15,17]),([16,18,0,1,2,3,4,5,6,7,8,9,10,11,12,13,14,15,16,17,18],[16])])
def wave_Parse.B6:List Nat:= [0,0,0,6,14,30,0,0,192,448,960,1984,4095,8191,16383,32767,32767,0,196607,524287]
theorem wave_Parse.tab6:rtab .any (opsOf Tryz.f24 6)=wave_Parse.T6:=by kernel_rfl
theorem wave_Parse.bits6:waitsOk wave_Parse.T6.2 wave_Parse.B6=true:=by kernel_rfl
def wave_Parse.T11:Bool×List (List Nat×List Nat):=(true,[([],[]),([],[]),([],[]),([1,2],[1,2]),([],[]),([],[]),([],[]),([],[]),([7],[7]),([6,8],[6,8]),([5,9],[5,9]),([0,3,4,10],[0,3,4,10]),([11,0,1,2,3,4,5,6,7,8,9,10,11],[11]),([12,0,1,2,3,4,5,6,7,8,9,10,11,12],[])])
def wave_Parse.B11:List Nat:= [0,0,0,6,0,0,0,0,128,448,992,2047,4095,8191]
theorem wave_Parse.tab11:rtab .any (opsOf Tryz.f24 11)=wave_Parse.T11:=by kernel_rfl
theorem wave_Parse.bits11:waitsOk wave_Parse.T11.2 wave_Parse.B11=true:=by kernel_rfl
theorem wave_Parse.calls(k:Nat)(a0:ByteArray)(r1:Int)(r2:Int)(r3:ByteArray)(r4:ByteArray)(r5:ByteArray)(r6:Int)(w:World)(h:wave_Parse.f k a0=some (r1,r2,r3,r4,r5,r6)):
  Calls Tryz.prog 24 #[.string a0] w fun e w'=>e= .returned (.tuple #[.agg #[.int .i64 r1,.int .i64 r2,.string r3,.string r4,.string r5],.int .i64 r6])∧Below w.heap.size w w':=by
 have hu57:=Tryz.underlying57;have hu23:=Tryz.underlying23;have HB:=Z_ (Below.refl w.heap.size w);have H:((riff_Chunks.f k a0).bind fun bt102=>((wave_one.f bt102.1 (⟨#[102,109,116,32]⟩:ByteArray)).bind fun bt106=>((wave_one.f bt102.1 (⟨#[100,97,116,97]⟩:ByteArray)).bind fun bt108=>(if bt102.2=0 then(if bt106.2=true then(if bt108.2=true then(if bt108.1<bt106.1 then(wave_Parse.j0 k a0 bt102.1 bt106.1 bt108.1 true) else(if 0≤bt106.1 then(if bt106.1<(bt102.1.length:Int) then(wave_Parse.j0 k a0 bt102.1 bt106.1 bt108.1 (((rd_T116 bt102.1 bt106.1).f2) !=16)) else(none)) else(none))) else(wave_Parse.j0 k a0 bt102.1 bt106.1 bt108.1 true)) else(wave_Parse.j0 k a0 bt102.1 bt106.1 bt108.1 true)) else(wave_Parse.j0 k a0 bt102.1 bt106.1 bt108.1 true)))))=some (r1,r2,r3,r4,r5,r6):=h;clear h;replace H:=Ob_ H;obtain⟨⟨t102,t103⟩,A20,H⟩:=H;(try dsimp only at H);have A2:=Z_ A20;clear A20;replace H:=Ob_ H;obtain⟨⟨t106,t107⟩,A30,H⟩:=H;(try dsimp only at H);have A3:=Z_ A30;clear A30;replace H:=Ob_ H;obtain⟨⟨t108,t109⟩,A40,H⟩:=H;(try dsimp only at H);have A4:=Z_ A40;clear A40;have HC5:=Z_ H;clear H
 go_enter Tryz.func24,Tryz.ntmps24
 go_upto_region 4 with (first|(refine X_ 2 #[.int .i64 0,.int .i64 0,.string (⟨#[]⟩:ByteArray),.string (⟨#[]⟩:ByteArray),.string (⟨#[]⟩:ByteArray)] 57 ?_;intro gb101 hg w6 hbox hb;have BK101:=Z_ (hbox);have GW101:=Z_ (G2_ hg:w.heap.size≤_);have GE101:=GW101;replace HB:=Hb_ hb;clear hb hbox hg)|(refine G_ 16 Tryz.func58 #[.string a0] ?_;refine(riff_Chunks.calls k a0 t102 t103 _ A2.out).mono ?_;rintro e w7 ⟨v104,rfl,ho0,hb⟩;refine⟨_,rfl,?_⟩;have HO105:=Z_ (Kd.R_lower ho0 (below_size B_));replace BK101:=Z_ (blk_below (K_ BK101) hb);replace HB:=Hb_ hb;(try clear hb);(try clear ho0);obtain⟨Ao8,co8,eo8⟩:=Kd.R_slice HO105.out;subst eo8)|(refine G_ 21 Tryz.func59 #[.slice Ao8 t102.length co8,.string (⟨#[102,109,116,32]⟩:ByteArray)] ?_;refine(wave_one.calls _ _ t102 (⟨#[102,109,116,32]⟩:ByteArray) t106 t107 _ (C_ (Kd.R_reads' HO105.out).2.2) ((Kd.R_reads' HO105.out).2.1) A3.out).mono ?_;rintro e w9 ⟨rfl,hb⟩;refine⟨_,rfl,?_⟩;replace HO105:=Z_ (Kd.R_below (R_ HO105) hb);replace BK101:=Z_ (blk_below (K_ BK101) hb);replace HB:=Hb_ hb;(try clear hb))|(refine G_ 26 Tryz.func59 #[.slice Ao8 t102.length co8,.string (⟨#[100,97,116,97]⟩:ByteArray)] ?_;refine(wave_one.calls _ _ t102 (⟨#[100,97,116,97]⟩:ByteArray) t108 t109 _ (C_ (Kd.R_reads' HO105.out).2.2) ((Kd.R_reads' HO105.out).2.1) A4.out).mono ?_;rintro e w10 ⟨rfl,hb⟩;refine⟨_,rfl,?_⟩;replace HO105:=Z_ (Kd.R_below (R_ HO105) hb);replace BK101:=Z_ (blk_below (K_ BK101) hb);replace HB:=Hb_ hb;(try clear hb)))
 (try simp only[Act.put,List.setIfInBounds_toArray,List.set_cons_zero,List.set_cons_succ])
 go_cut [51] (fun v51 wc=>∃(kq:Nat) (x51_4:Bool),v51= .bool x51_4∧Aside0 (wave_Parse.j0 kq a0 t102 t106 t108 x51_4=some (r1,r2,r3,r4,r5,r6))∧Aside0 (kq≤k)∧Aside0 (Kd.R k116 116 wc w.heap.size (fun _=>True) (.slice Ao8 t102.length co8) t102)∧Aside0 (wc.heap[gb101]?=some (.cells #[.int .i64 0,.int .i64 0,.string (⟨#[]⟩:ByteArray),.string (⟨#[]⟩:ByteArray),.string (⟨#[]⟩:ByteArray)] 57 (0,0)))∧Aside0 (Below w.heap.size w wc))
 case first=>
  have H:=HC5.out;clear HC5
  by_cases c11:t103=0
  ·rw[if_pos c11] at H;have c11b0:(t103==0)=true:=beq_iff_eq.mpr c11;have c11b1:(t103 !=0)=false:=bne_eq_false_iff_eq.mpr c11;clear c11;(first|rw[c11b0]|(simp only[i64_w,i32_w];rw[c11b0])|skip)
   by_cases c12:t107=true
   ·subst c12;rw[if_pos rfl] at H
    by_cases c13:t109=true
    ·subst c13;rw[if_pos rfl] at H
     by_cases c14:t108<t106
     ·rw[if_pos c14] at H;have c14b0:=dt_ c14;clear c14;have H':=Z_ H;clear H;go_wp2;go_meet
      case rel=>exact⟨_,(true),(E1_),H',⟨L_⟩,⟨R_ HO105⟩,⟨by(with_reducible repeat (first|refine blk_drewN ?_ _|refine blk_drew ?_|refine blk_alloc ?_ _));exact BK101.out⟩,⟨B_⟩⟩
     ·rw[if_neg c14] at H;have c14b0:=df_ c14;clear c14
      by_cases c15:0≤t106
      ·rw[if_pos c15] at H;have c15b0:=dt_ c15;clear c15
       by_cases c16:t106<(t102.length:Int)
       ·rw[if_pos c16] at H;have c16b0:=dt_ c16;clear c16;have H':=Z_ H;clear H;have p110:0≤(t106:Int):=od_ A_;have q110:t106<(t102.length:Int):=od_ A_;obtain⟨ad110,e110,hx110_0,hx110_1,hx110_2⟩:=at_T116 (Kd.R_reads' HO105.out).2.2 t106 p110 q110
        cases e110
        replace p110:=eq_true p110;replace q110:=eq_true q110;go_wp2;go_meet
        case rel=>exact⟨_,((((rd_T116 t102 t106).f2) !=16)),(E1_),H',⟨L_⟩,⟨R_ HO105⟩,⟨by(with_reducible repeat (first|refine blk_drewN ?_ _|refine blk_drew ?_|refine blk_alloc ?_ _));exact BK101.out⟩,⟨B_⟩⟩
       ·rw[if_neg c16] at H;exact absurd H (by simp)
      ·rw[if_neg c15] at H;exact absurd H (by simp)
    ·replace c13:=Bool.eq_false_iff.mpr c13;subst c13;rw[if_neg (show ¬(false=true) by decide)] at H;have H':=Z_ H;clear H;go_wp2;go_meet
     case rel=>exact⟨_,(true),(E1_),H',⟨L_⟩,⟨R_ HO105⟩,⟨by(with_reducible repeat (first|refine blk_drewN ?_ _|refine blk_drew ?_|refine blk_alloc ?_ _));exact BK101.out⟩,⟨B_⟩⟩
   ·replace c12:=Bool.eq_false_iff.mpr c12;subst c12;rw[if_neg (show ¬(false=true) by decide)] at H;have H':=Z_ H;clear H;go_wp2;go_meet
    case rel=>exact⟨_,(true),(E1_),H',⟨L_⟩,⟨R_ HO105⟩,⟨by(with_reducible repeat (first|refine blk_drewN ?_ _|refine blk_drew ?_|refine blk_alloc ?_ _));exact BK101.out⟩,⟨B_⟩⟩
  ·rw[if_neg c11] at H;have c11b0:(t103==0)=false:=beq_eq_false_iff_ne.mpr c11;have c11b1:(t103 !=0)=true:=bne_iff_ne.mpr c11;(first|rw[c11b0]|(simp only[i64_w,i32_w];rw[c11b0])|skip);have H':=Z_ H;clear H;go_wp2;go_meet
   case rel=>exact⟨_,(true),(E1_),H',⟨L_⟩,⟨R_ HO105⟩,⟨by(with_reducible repeat (first|refine blk_drewN ?_ _|refine blk_drew ?_|refine blk_alloc ?_ _));exact BK101.out⟩,⟨B_⟩⟩
 case rest=>
  clear HC5
  try clear c1
  try clear p1
  try clear q1
  try clear hx1
  try clear c2
  try clear p2
  try clear c5
  try clear c11
  try clear c11b0
  try clear c11b1
  try clear p11
  try clear q11
  try clear hx11
  try clear c12
  try clear c13
  try clear c14
  try clear c14b0
  try clear c15
  try clear c15b0
  try clear c16
  try clear c16b0
  try clear hx110_0
  try clear hx110_1
  try clear hx110_2
  try clear p110
  try clear q110
  obtain⟨kq,x51_4,rfl,HA,HJ4,HO_4,BK101,HB⟩:=hcut
  cases kq with
  |zero=>exact absurd HA.out (by simp[wave_Parse.j0])
  |succ kj4=>
   have H:=HA.out;clear HA;simp only[wave_Parse.j0] at H
   by_cases c17:x51_4=true
   ·subst c17;rw[if_pos rfl] at H;simp only[Option.some.injEq,Prod.mk.injEq] at H;obtain⟨rfl,rfl,rfl,rfl,rfl,rfl⟩:=H;have hcz18_0:=cz_ BK101 0;have hcz18_1:=cz_ BK101 1;have hcz18_2:=cz_ BK101 2;have hcz18_3:=cz_ BK101 3;have hcz18_4:=cz_ BK101 4;have hfz18_0:=fz_ BK101 0;have hfz18_1:=fz_ BK101 1;have hfz18_2:=fz_ BK101 2;have hfz18_3:=fz_ BK101 3;have hfz18_4:=fz_ BK101 4;go_wp2;refine bodyPost_ret (results_ct rfl _ _ gb101 57 #[.int .i64 0,.int .i64 0,.string (⟨#[]⟩:ByteArray),.string (⟨#[]⟩:ByteArray),.string (⟨#[]⟩:ByteArray)] (0,0) _ rfl (by(with_reducible repeat (first|refine blk_drewN ?_ _|refine blk_drew ?_|refine blk_alloc ?_ _));refine blk_put (cs:= #[.int .i64 0,.int .i64 0,.string (⟨#[]⟩:ByteArray),.string (⟨#[]⟩:ByteArray),.string (⟨#[]⟩:ByteArray)]) ?_ 4 _ rfl;(with_reducible repeat (first|refine blk_drewN ?_ _|refine blk_drew ?_|refine blk_alloc ?_ _));refine blk_put (cs:= #[.int .i64 0,.int .i64 0,.string (⟨#[]⟩:ByteArray),.string (⟨#[]⟩:ByteArray),.string (⟨#[]⟩:ByteArray)]) ?_ 3 _ rfl;(with_reducible repeat (first|refine blk_drewN ?_ _|refine blk_drew ?_|refine blk_alloc ?_ _));refine blk_put (cs:= #[.int .i64 0,.int .i64 0,.string (⟨#[]⟩:ByteArray),.string (⟨#[]⟩:ByteArray),.string (⟨#[]⟩:ByteArray)]) ?_ 2 _ rfl;(with_reducible repeat (first|refine blk_drewN ?_ _|refine blk_drew ?_|refine blk_alloc ?_ _));refine blk_put (cs:= #[.int .i64 0,.int .i64 0,.string (⟨#[]⟩:ByteArray),.string (⟨#[]⟩:ByteArray),.string (⟨#[]⟩:ByteArray)]) ?_ 1 _ rfl;(with_reducible repeat (first|refine blk_drewN ?_ _|refine blk_drew ?_|refine blk_alloc ?_ _));refine blk_put (cs:= #[.int .i64 0,.int .i64 0,.string (⟨#[]⟩:ByteArray),.string (⟨#[]⟩:ByteArray),.string (⟨#[]⟩:ByteArray)]) ?_ 0 _ rfl;(with_reducible repeat (first|refine blk_drewN ?_ _|refine blk_drew ?_|refine blk_alloc ?_ _));exact BK101.out) Tryz.underlying57 rfl (by kernel_rfl)) rfl ?_;exact⟨E_,B_⟩
   ·replace c17:=Bool.eq_false_iff.mpr c17;subst c17;rw[if_neg (show ¬(false=true) by decide)] at H
    by_cases c19:0≤t106
    ·rw[if_pos c19] at H;have c19b0:=dt_ c19;clear c19
     by_cases c20:t106<(t102.length:Int)
     ·rw[if_pos c20] at H;have c20b0:=dt_ c20;clear c20
      by_cases c21:0≤((rd_T116 t102 t106).f1)
      ·rw[if_pos c21] at H;have c21b0:=eq_true c21;have c21b1:=dt_ c21;clear c21
       by_cases c22:((rd_T116 t102 t106).f1)≤(wrap64 (((rd_T116 t102 t106).f1)+16))
       ·rw[if_pos c22] at H;have c22b0:=eq_true c22;have c22b1:=dt_ c22
        by_cases c23:(wrap64 (((rd_T116 t102 t106).f1)+16))≤(a0.size:Int)
        ·rw[if_pos c23] at H;have c23b0:=eq_true c23;have c23b1:=dt_ c23;replace H:=Ob_ H;obtain⟨⟨t113,t114,t115⟩,A240,H⟩:=H;(try dsimp only at H);have A24:=Z_ A240;clear A240
         by_cases c25:0≤t108
         ·rw[if_pos c25] at H;have c25b0:=dt_ c25;clear c25
          by_cases c26:t108<(t102.length:Int)
          ·rw[if_pos c26] at H;have c26b0:=dt_ c26;clear c26
           by_cases c27:0≤((rd_T116 t102 t108).f1)
           ·rw[if_pos c27] at H;have c27b0:=eq_true c27;have c27b1:=dt_ c27;clear c27
            by_cases c28:((rd_T116 t102 t108).f1)≤(wrap64 (((rd_T116 t102 t108).f1)+((rd_T116 t102 t108).f2)))
            ·rw[if_pos c28] at H;have c28b0:=eq_true c28;have c28b1:=dt_ c28
             by_cases c29:(wrap64 (((rd_T116 t102 t108).f1)+((rd_T116 t102 t108).f2)))≤(a0.size:Int)
             ·rw[if_pos c29] at H;have c29b0:=eq_true c29;have c29b1:=dt_ c29
              by_cases c30:t115=true
              ·subst c30;rw[if_pos rfl] at H;replace H:=Ob_ H;obtain⟨t119,A310,H⟩:=H;(try dsimp only at H);have A31:=Z_ A310;clear A310
               by_cases c32:t119=true
               ·subst c32;rw[if_pos rfl] at H;have c33b0:=eq_true (od_ A_:0≤((rd_T116 t102 t108).f1))
                by_cases c34:((rd_T116 t102 t108).f1)≤(a0.size:Int)
                ·rw[if_pos c34] at H;have c34b0:=eq_true c34;have c34b1:=dt_ c34;clear c34;obtain⟨ji35,hji35⟩:∃j_:Int,(wrap64 (((rd_T116 t102 t108).f1)+((a0.extract (((rd_T116 t102 t108).f1):Int).toNat ((wrap64 (((rd_T116 t102 t108).f1)+((rd_T116 t102 t108).f2))):Int).toNat).size:Int)))=j_:=⟨_,rfl⟩;(first|rw[hji35] at H|simp only[hji35] at H);(try rw[hji35] at A24);(try rw[hji35] at A31);have hji35w:(IntKind.i64.wrap (((rd_T116 t102 t108).f1)+((a0.extract (((rd_T116 t102 t108).f1):Int).toNat ((wrap64 (((rd_T116 t102 t108).f1)+((rd_T116 t102 t108).f2))):Int).toNat).size:Int)))=ji35:=(i64_w _).trans hji35
                 by_cases c36:0≤(ji35)
                 ·rw[if_pos c36] at H;have c36b0:=eq_true c36;have c36b1:=dt_ c36;clear c36
                  by_cases c37:(ji35)≤(a0.size:Int)
                  ·rw[if_pos c37] at H;have c37b0:=eq_true c37;have c37b1:=dt_ c37;clear c37;simp only[Option.some.injEq,Prod.mk.injEq] at H;obtain⟨rfl,rfl,rfl,rfl,rfl,rfl⟩:=H
                   try go_wp2
                   replace HO_4:=Z_ (Kd.R_drew HO_4.out);replace BK101:=Z_ (blk_drew BK101.out);replace HB:=Z_ (below_drew1 HB.out);have p111:0≤(t106:Int):=od_ A_;have q111:t106<(t102.length:Int):=od_ A_;obtain⟨ad111,e111,hx111_0,hx111_1,hx111_2⟩:=at_T116 (Kd.R_reads' HO_4.out).2.2 t106 p111 q111
                   cases e111
                   replace p111:=eq_true p111;replace q111:=eq_true q111;have p112:0≤(t106:Int):=od_ A_;have q112:t106<(t102.length:Int):=od_ A_;obtain⟨ad112,e112,hx112_0,hx112_1,hx112_2⟩:=at_T116 (Kd.R_reads' HO_4.out).2.2 t106 p112 q112;obtain rfl:ad111=ad112:=(by injection e112);replace p112:=eq_true p112;replace q112:=eq_true q112;refine start_ (n:=20) (S:=fun w'=>w'.cell? (ad111.add ((t106).toNat*3))=some (.string ((rd_T116 t102 t106).f0))∧w'.cell? ⟨(ad111.add ((t106).toNat*3)).block,(ad111.add ((t106).toNat*3)).off+1,none⟩=some (.int .i64 ((rd_T116 t102 t106).f1))∧w'.cell? ⟨(ad111.add ((t106).toNat*3)).block,(ad111.add ((t106).toNat*3)).off+2,none⟩=some (.int .i64 ((rd_T116 t102 t106).f2))∧w'.cell? (ad111.add ((t106).toNat*3))=some (.string ((rd_T116 t102 t106).f0))∧w'.cell? ⟨(ad111.add ((t106).toNat*3)).block,(ad111.add ((t106).toNat*3)).off+1,none⟩=some (.int .i64 ((rd_T116 t102 t106).f1))∧w'.cell? ⟨(ad111.add ((t106).toNat*3)).block,(ad111.add ((t106).toNat*3)).off+2,none⟩=some (.int .i64 ((rd_T116 t102 t106).f2))) (ds:= []) #[false,false,false,false,false,false,false,false,false,false,false,false,false,false,false,false,false,false,false,false] (by kernel_rfl) rfl rfl ⟨hx111_0,hx111_1,hx111_2,hx112_0,hx112_1,hx112_2⟩ (fun hHeld=>?_);refine with_tabW wave_Parse.tab6 wave_Parse.bits6 (fun HT_ HW_=>?_);generalize wc.drew=w38 at HO_4 BK101 HB hx111_0 hx111_1 hx111_2 hx112_0 hx112_1 hx112_2 hHeld ⊢;refine P_ 0 54 ?_;refine P_ 1 55 ?_;refine P_ 2 56 ?_;refine P_ 3 57 ?_;refine P_ 4 58 ?_;refine P_ 6 60 ?_;refine P_ 7 61 ?_;refine P_ 8 62 ?_;refine P_ 9 63 ?_;refine T_ 5 59 (y:=by rintro w' ⟨s0,s1,s2,s3,s4,s5⟩;go_simp;with_reducible rfl) (h:=?_);refine T_ 10 64 (y:=by rintro w' ⟨s0,s1,s2,s3,s4,s5⟩;go_simp;with_reducible rfl) (h:=?_);refine P_ 11 65 ?_;refine P_ 12 66 ?_;refine join_ (σ:=Nat) 2 #[true,true,true,true,true,true,true,true,true,true,true,true,true,true,true,true,true,true,false,false] (fun s_=> [(67,.tuple #[.agg #[.int .i64 t113,.int .i64 t114],.bool true]),(10,.pointer (some ⟨s_,0,none⟩)),(53,.tuple #[.agg #[.int .i64 t113,.int .i64 t114],.bool true]),(68,.agg #[.int .i64 t113,.int .i64 t114]),(69,.bool true)]) (fun s_ w'=>(w'.cell? (ad111.add ((t106).toNat*3))=some (.string ((rd_T116 t102 t106).f0))∧w'.cell? ⟨(ad111.add ((t106).toNat*3)).block,(ad111.add ((t106).toNat*3)).off+1,none⟩=some (.int .i64 ((rd_T116 t102 t106).f1))∧w'.cell? ⟨(ad111.add ((t106).toNat*3)).block,(ad111.add ((t106).toNat*3)).off+2,none⟩=some (.int .i64 ((rd_T116 t102 t106).f2))∧w'.cell? (ad111.add ((t106).toNat*3))=some (.string ((rd_T116 t102 t106).f0))∧w'.cell? ⟨(ad111.add ((t106).toNat*3)).block,(ad111.add ((t106).toNat*3)).off+1,none⟩=some (.int .i64 ((rd_T116 t102 t106).f1))∧w'.cell? ⟨(ad111.add ((t106).toNat*3)).block,(ad111.add ((t106).toNat*3)).off+2,none⟩=some (.int .i64 ((rd_T116 t102 t106).f2)))∧(Kd.R k116 116 w' w.heap.size (fun _=>True) (.slice (some ad111) t102.length co8) t102)∧(w'.heap[gb101]?=some (.cells #[.int .i64 0,.int .i64 0,.string (⟨#[]⟩:ByteArray),.string (⟨#[]⟩:ByteArray),.string (⟨#[]⟩:ByteArray)] 57 (0,0)))∧(w'.heap[s_]?=some (.cells #[.int .i64 0,.int .i64 0] 23 (0,0)))∧(w.heap.size≤s_)∧(w.heap.size≤s_)∧(gb101≠s_)∧(s_≠gb101)∧(Below w.heap.size w w')) ?_ ?_;rotate_left
                   ·intro hCont;refine two_ (i:=13) (j:=17) (Ni:=some 67) (Nj:=some 10) #[true,true,true,true,true,true,true,true,true,true,true,true,true,true,false,false,false,false,false,false] #[true,true,true,true,true,true,true,true,true,true,true,true,true,false,false,false,false,true,false,false] rfl rfl rfl rfl (two_of HT_.out (by kernel_rfl)) (by decide) (by decide) (fun K hK=>?_) (fun K hK=>?_)
                    ·skip
                     refine g_ Tryz.func60 #[.string (a0.extract (((rd_T116 t102 t106).f1):Int).toNat ((wrap64 (((rd_T116 t102 t106).f1)+16)):Int).toNat)] ?_
                     with_reducible refine(wave_format.calls kj4 (a0.extract (((rd_T116 t102 t106).f1):Int).toNat ((wrap64 (((rd_T116 t102 t106).f1)+16)):Int).toNat) t113 t114 true _ A24.out).mono ?_
                     rintro e w39 ⟨rfl,hb⟩;have HS0_:=Hc_ hb hHeld.1;have HS1_:=Hc_ hb hHeld.2.1;have HS2_:=Hc_ hb hHeld.2.2.1;have HS3_:=Hc_ hb hHeld.2.2.2.1;have HS4_:=Hc_ hb hHeld.2.2.2.2.1;have HS5_:=Hc_ hb hHeld.2.2.2.2.2;refine⟨_,rfl,?_⟩;replace HO_4:=Z_ (Kd.R_below (R_ HO_4) hb);replace BK101:=Z_ (blk_below (K_ BK101) hb);replace HB:=Hb_ hb;(try clear hb);(try clear hb2);(try clear hk);(try clear hi);refine hK.out _ _ ⟨HS0_,HS1_,HS2_,HS3_,HS4_,HS5_⟩ (fun hHeld=>?_);clear hK K;refine Nm_ 67 ?_;refine P_ 14 53 ?_;refine P_ 15 68 ?_;refine P_ 16 69 ?_;refine O_ 17 10 fun K hK=>?_
                     refine box_step ?hg (N:=10) ?hd (cs:= #[.int .i64 0,.int .i64 0]) (t:=23) ?hr ?_;(case hd=>rfl);(case hg=>rfl);(case hr=>first|(go_simp;done)|(go_simp;rfl));intro gb116 hg w40 hbox hb;have HS0_:=Hc_ hb hHeld.1;have HS1_:=Hc_ hb hHeld.2.1;have HS2_:=Hc_ hb hHeld.2.2.1;have HS3_:=Hc_ hb hHeld.2.2.2.1;have HS4_:=Hc_ hb hHeld.2.2.2.2.1;have HS5_:=Hc_ hb hHeld.2.2.2.2.2;replace HO_4:=Z_ (Kd.R_below (R_ HO_4) hb);have BK116:=Z_ (hbox);have GW116:=Z_ ((G2_ hg:w.heap.size≤_));have GE116:=Z_ ((G2_ hg:w.heap.size≤_));replace HB:=Hb_ hb;have NB101_116:=Z_ ((by rw[hg];exact Nat.ne_of_lt (blk_lt (g:=gb101) (o:= .cells #[.int .i64 0,.int .i64 0,.string (⟨#[]⟩:ByteArray),.string (⟨#[]⟩:ByteArray),.string (⟨#[]⟩:ByteArray)] 57 (0,0)) (K_ BK101)):gb101≠gb116));have NB116_101:=Z_ ((by rw[hg];exact Nat.ne_of_gt (blk_lt (g:=gb101) (o:= .cells #[.int .i64 0,.int .i64 0,.string (⟨#[]⟩:ByteArray),.string (⟨#[]⟩:ByteArray),.string (⟨#[]⟩:ByteArray)] 57 (0,0)) (K_ BK101)):gb116≠gb101));replace BK101:=Z_ (blk_below (K_ BK101) hb);clear hb hbox hg;refine hK.out _ _ ⟨HS0_,HS1_,HS2_,HS3_,HS4_,HS5_⟩ (fun hHeld=>?_);clear hK K;refine Nm_ 10 ?_;exact norm_ (by simp only[putAll,Act.put,List.setIfInBounds_toArray,List.set_cons_zero,List.set_cons_succ]) (hCont (gb116) _ ⟨hHeld,(R_ HO_4),(K_ BK101),(K_ BK116),GW116.out,GE116.out,NB101_116.out,NB116_101.out,B_⟩)
                    ·skip
                     refine box_step ?hg (N:=10) ?hd (cs:= #[.int .i64 0,.int .i64 0]) (t:=23) ?hr ?_;(case hd=>rfl);(case hg=>rfl);(case hr=>first|(go_simp;done)|(go_simp;rfl));intro gb116 hg w39 hbox hb;have HS0_:=Hc_ hb hHeld.1;have HS1_:=Hc_ hb hHeld.2.1;have HS2_:=Hc_ hb hHeld.2.2.1;have HS3_:=Hc_ hb hHeld.2.2.2.1;have HS4_:=Hc_ hb hHeld.2.2.2.2.1;have HS5_:=Hc_ hb hHeld.2.2.2.2.2;replace HO_4:=Z_ (Kd.R_below (R_ HO_4) hb);have BK116:=Z_ (hbox);have GW116:=Z_ ((G2_ hg:w.heap.size≤_));have GE116:=Z_ ((G2_ hg:w.heap.size≤_));replace HB:=Hb_ hb;have NB101_116:=Z_ ((by rw[hg];exact Nat.ne_of_lt (blk_lt (g:=gb101) (o:= .cells #[.int .i64 0,.int .i64 0,.string (⟨#[]⟩:ByteArray),.string (⟨#[]⟩:ByteArray),.string (⟨#[]⟩:ByteArray)] 57 (0,0)) (K_ BK101)):gb101≠gb116));have NB116_101:=Z_ ((by rw[hg];exact Nat.ne_of_gt (blk_lt (g:=gb101) (o:= .cells #[.int .i64 0,.int .i64 0,.string (⟨#[]⟩:ByteArray),.string (⟨#[]⟩:ByteArray),.string (⟨#[]⟩:ByteArray)] 57 (0,0)) (K_ BK101)):gb116≠gb101));replace BK101:=Z_ (blk_below (K_ BK101) hb);clear hb hbox hg;refine hK.out _ _ ⟨HS0_,HS1_,HS2_,HS3_,HS4_,HS5_⟩ (fun hHeld=>?_);clear hK K;refine Nm_ 10 ?_;refine O_ 13 67 fun K hK=>?_
                     refine g_ Tryz.func60 #[.string (a0.extract (((rd_T116 t102 t106).f1):Int).toNat ((wrap64 (((rd_T116 t102 t106).f1)+16)):Int).toNat)] ?_
                     with_reducible refine(wave_format.calls kj4 (a0.extract (((rd_T116 t102 t106).f1):Int).toNat ((wrap64 (((rd_T116 t102 t106).f1)+16)):Int).toNat) t113 t114 true _ A24.out).mono ?_
                     rintro e w40 ⟨rfl,hb⟩;have HS0_:=Hc_ hb hHeld.1;have HS1_:=Hc_ hb hHeld.2.1;have HS2_:=Hc_ hb hHeld.2.2.1;have HS3_:=Hc_ hb hHeld.2.2.2.1;have HS4_:=Hc_ hb hHeld.2.2.2.2.1;have HS5_:=Hc_ hb hHeld.2.2.2.2.2;refine⟨_,rfl,?_⟩;replace HO_4:=Z_ (Kd.R_below (R_ HO_4) hb);replace BK101:=Z_ (blk_below (K_ BK101) hb);replace BK116:=Z_ (blk_below (K_ BK116) hb);replace HB:=Hb_ hb;(try clear hb);(try clear hb2);(try clear hk);(try clear hi);refine hK.out _ _ ⟨HS0_,HS1_,HS2_,HS3_,HS4_,HS5_⟩ (fun hHeld=>?_);clear hK K;refine Nm_ 67 ?_;refine P_ 14 53 ?_;refine P_ 15 68 ?_;refine P_ 16 69 ?_;exact norm_ (by simp only[putAll,Act.put,List.setIfInBounds_toArray,List.set_cons_zero,List.set_cons_succ]) (hCont (gb116) _ ⟨hHeld,(R_ HO_4),(K_ BK101),(K_ BK116),GW116.out,GE116.out,NB101_116.out,NB116_101.out,B_⟩)
                   rintro gb116 w41 ⟨hS_,h0_,h1_,h2_,h3_,h4_,h5_,h6_,h7_⟩;have n0_:Aside0 (Kd.R k116 116 w41 w.heap.size (fun _=>True) (.slice (some ad111) t102.length co8) t102):=⟨h0_⟩;have n1_:Aside0 (w41.heap[gb101]?=some (.cells #[.int .i64 0,.int .i64 0,.string (⟨#[]⟩:ByteArray),.string (⟨#[]⟩:ByteArray),.string (⟨#[]⟩:ByteArray)] 57 (0,0))):=⟨h1_⟩;have n2_:Aside0 (w41.heap[gb116]?=some (.cells #[.int .i64 0,.int .i64 0] 23 (0,0))):=⟨h2_⟩;have n3_:Aside0 (w.heap.size≤gb116):=⟨h3_⟩;have n4_:Aside0 (w.heap.size≤gb116):=⟨h4_⟩;have n5_:Aside0 (gb101≠gb116):=⟨h5_⟩;have n6_:Aside0 (gb116≠gb101):=⟨h6_⟩;have n7_:Aside0 (Below w.heap.size w w41):=⟨h7_⟩;clear HO_4;clear BK101;clear HB;clear h0_ h1_ h2_ h3_ h4_ h5_ h6_ h7_;have HO_4:=n0_;have BK101:=n1_;have BK116:=n2_;have GW116:=n3_;have GE116:=n4_;have NB101_116:=n5_;have NB116_101:=n6_;have HB:=n7_;clear n0_ n1_ n2_ n3_ n4_ n5_ n6_ n7_;have hHeld:w41.cell? (ad111.add ((t106).toNat*3))=some (.string ((rd_T116 t102 t106).f0))∧w41.cell? ⟨(ad111.add ((t106).toNat*3)).block,(ad111.add ((t106).toNat*3)).off+1,none⟩=some (.int .i64 ((rd_T116 t102 t106).f1))∧w41.cell? ⟨(ad111.add ((t106).toNat*3)).block,(ad111.add ((t106).toNat*3)).off+2,none⟩=some (.int .i64 ((rd_T116 t102 t106).f2))∧w41.cell? (ad111.add ((t106).toNat*3))=some (.string ((rd_T116 t102 t106).f0))∧w41.cell? ⟨(ad111.add ((t106).toNat*3)).block,(ad111.add ((t106).toNat*3)).off+1,none⟩=some (.int .i64 ((rd_T116 t102 t106).f1))∧w41.cell? ⟨(ad111.add ((t106).toNat*3)).block,(ad111.add ((t106).toNat*3)).off+2,none⟩=some (.int .i64 ((rd_T116 t102 t106).f2)):=hS_;refine norm_ (a':=?_) ?_ ?_;rotate_left
                   ·simp only[putAll,Act.put,List.setIfInBounds_toArray,List.set_cons_zero,List.set_cons_succ];rfl
                   refine one_ (i:=18) (N:=none) #[true,true,true,true,true,true,true,true,true,true,true,true,true,true,true,true,true,true,true,false] rfl rfl (one_of HT_.out (by kernel_rfl)) (by decide) (fun K hK=>?_);have hs42:w41.cell? ⟨gb116,0,none⟩=some (.int .i64 0):=(blk_cell BK116.out 0).trans rfl;have hfs42:=blk_frozen BK116.out 0;have hns42_0:=NB101_116.out;have hms42_0:=NB116_101.out;have hs43:w41.cell? ⟨gb116,1,none⟩=some (.int .i64 0):=(blk_cell BK116.out 1).trans rfl;have hfs43:=blk_frozen BK116.out 1;have hns43_0:=NB101_116.out;have hms43_0:=NB116_101.out;refine skip_ (w1:=?_) (by rfl) rfl ?_ ?_;rotate_left
                   ·go_simp
                    rfl
                   refine hK.out _ _ ⟨((cell_far (p:=⟨gb116,_,none⟩) (by exact Wb_ (Kd.own_blk (Kd.R_ne HO_4.out BK116.out (by decide)))) _).trans (((cell_far (p:=⟨gb116,_,none⟩) (by exact Wb_ (Kd.own_blk (Kd.R_ne HO_4.out BK116.out (by decide)))) _).trans (hHeld.1)))),((cell_far (p:=⟨gb116,_,none⟩) (by exact Wb_ (Kd.own_blk (Kd.R_ne HO_4.out BK116.out (by decide)))) _).trans (((cell_far (p:=⟨gb116,_,none⟩) (by exact Wb_ (Kd.own_blk (Kd.R_ne HO_4.out BK116.out (by decide)))) _).trans (hHeld.2.1)))),((cell_far (p:=⟨gb116,_,none⟩) (by exact Wb_ (Kd.own_blk (Kd.R_ne HO_4.out BK116.out (by decide)))) _).trans (((cell_far (p:=⟨gb116,_,none⟩) (by exact Wb_ (Kd.own_blk (Kd.R_ne HO_4.out BK116.out (by decide)))) _).trans (hHeld.2.2.1)))),((cell_far (p:=⟨gb116,_,none⟩) (by exact Wb_ (Kd.own_blk (Kd.R_ne HO_4.out BK116.out (by decide)))) _).trans (((cell_far (p:=⟨gb116,_,none⟩) (by exact Wb_ (Kd.own_blk (Kd.R_ne HO_4.out BK116.out (by decide)))) _).trans (hHeld.2.2.2.1)))),((cell_far (p:=⟨gb116,_,none⟩) (by exact Wb_ (Kd.own_blk (Kd.R_ne HO_4.out BK116.out (by decide)))) _).trans (((cell_far (p:=⟨gb116,_,none⟩) (by exact Wb_ (Kd.own_blk (Kd.R_ne HO_4.out BK116.out (by decide)))) _).trans (hHeld.2.2.2.2.1)))),((cell_far (p:=⟨gb116,_,none⟩) (by exact Wb_ (Kd.own_blk (Kd.R_ne HO_4.out BK116.out (by decide)))) _).trans (((cell_far (p:=⟨gb116,_,none⟩) (by exact Wb_ (Kd.own_blk (Kd.R_ne HO_4.out BK116.out (by decide)))) _).trans (hHeld.2.2.2.2.2))))⟩ (fun hHeld=>?_);clear hK K;refine P_ 19 11 ?_;refine done_ (done_of HT_.out (by kernel_rfl)) ?_;have p117:0≤(t108:Int):=od_ A_;have q117:t108<(t102.length:Int):=od_ A_;obtain⟨ad117,e117,hx117_0,hx117_1,hx117_2⟩:=at_T116 (Kd.R_reads' HO_4.out).2.2 t108 p117 q117;obtain rfl:ad111=ad117:=(by injection e117);have hn117_0:ad111.block≠gb116:=Kd.own_blk (Kd.R_ne HO_4.out BK116.out (by decide));have hn117_1:ad111.block≠gb116:=Kd.own_blk (Kd.R_ne HO_4.out BK116.out (by decide));replace hx117_0:=Cf_ gb116 0 (.int .i64 t113) hx117_0 (Wb_ hn117_0);replace hx117_1:=Cf_ gb116 0 (.int .i64 t113) hx117_1 (Wb_ hn117_0);replace hx117_2:=Cf_ gb116 0 (.int .i64 t113) hx117_2 (Wb_ hn117_0);replace hx117_0:=Cf_ gb116 1 (.int .i64 t114) hx117_0 (Wb_ hn117_1);replace hx117_1:=Cf_ gb116 1 (.int .i64 t114) hx117_1 (Wb_ hn117_1);replace hx117_2:=Cf_ gb116 1 (.int .i64 t114) hx117_2 (Wb_ hn117_1);clear hn117_0;clear hn117_1;replace p117:=eq_true p117;replace q117:=eq_true q117;have p118:0≤(t108:Int):=od_ A_;have q118:t108<(t102.length:Int):=od_ A_;obtain⟨ad118,e118,hx118_0,hx118_1,hx118_2⟩:=at_T116 (Kd.R_reads' HO_4.out).2.2 t108 p118 q118;obtain rfl:ad111=ad118:=(by injection e118);have hn118_0:ad111.block≠gb116:=Kd.own_blk (Kd.R_ne HO_4.out BK116.out (by decide));have hn118_1:ad111.block≠gb116:=Kd.own_blk (Kd.R_ne HO_4.out BK116.out (by decide));replace hx118_0:=Cf_ gb116 0 (.int .i64 t113) hx118_0 (Wb_ hn118_0);replace hx118_1:=Cf_ gb116 0 (.int .i64 t113) hx118_1 (Wb_ hn118_0);replace hx118_2:=Cf_ gb116 0 (.int .i64 t113) hx118_2 (Wb_ hn118_0);replace hx118_0:=Cf_ gb116 1 (.int .i64 t114) hx118_0 (Wb_ hn118_1);replace hx118_1:=Cf_ gb116 1 (.int .i64 t114) hx118_1 (Wb_ hn118_1);replace hx118_2:=Cf_ gb116 1 (.int .i64 t114) hx118_2 (Wb_ hn118_1);clear hn118_0;clear hn118_1;replace p118:=eq_true p118;replace q118:=eq_true q118;have hnb44:=NB116_101.out;have hnc44:=NB101_116.out;have hcz45_0:=cz_ BK116 0;have hcz45_1:=cz_ BK116 1;have hfz45_0:=fz_ BK116 0;have hfz45_1:=fz_ BK116 1
                   try go_wp2_with (first|(go_at_call 61;refine(pcm_Frames.calls (a0.extract (((rd_T116 t102 t108).f1):Int).toNat ((wrap64 (((rd_T116 t102 t108).f1)+((rd_T116 t102 t108).f2))):Int).toNat) t113 t114 true _ A31.out).mono ?_;rintro e w46 ⟨rfl,hb⟩;replace HO_4:=Z_ (Kd.R_below (by(with_reducible repeat (first|apply Kd.R_alloc|apply Kd.R_drewN|apply Kd.R_drew));exact(Kd.R_mono (Kd.R_far (p:=⟨gb116,1,none⟩) (Kd.R_far (p:=⟨gb116,0,none⟩) (Kd.R_types HO_4.out BK116.out (by decide)) (fun _ hk=>hk.2) (.int .i64 t113)) (fun _ hk=>hk.2) (.int .i64 t114)) (fun _ h_=>h_.1))) hb);replace BK101:=Z_ (blk_below (g:=gb101) (o:= .cells #[.int .i64 0,.int .i64 0,.string (⟨#[]⟩:ByteArray),.string (⟨#[]⟩:ByteArray),.string (⟨#[]⟩:ByteArray)] 57 (0,0)) (by(with_reducible repeat (first|refine blk_drewN ?_ _|refine blk_drew ?_|refine blk_alloc ?_ _));refine blk_far ?_ NB101_116.out _;(with_reducible repeat (first|refine blk_drewN ?_ _|refine blk_drew ?_|refine blk_alloc ?_ _));refine blk_far ?_ NB101_116.out _;(with_reducible repeat (first|refine blk_drewN ?_ _|refine blk_drew ?_|refine blk_alloc ?_ _));exact BK101.out) hb);replace BK116:=Z_ (blk_below (g:=gb116) (o:= .cells #[.int .i64 t113,.int .i64 t114] 23 (0,0)) (by(with_reducible repeat (first|refine blk_drewN ?_ _|refine blk_drew ?_|refine blk_alloc ?_ _));refine blk_put (cs:= #[.int .i64 t113,.int .i64 0]) ?_ 1 _ rfl;(with_reducible repeat (first|refine blk_drewN ?_ _|refine blk_drew ?_|refine blk_alloc ?_ _));refine blk_put (cs:= #[.int .i64 0,.int .i64 0]) ?_ 0 _ rfl;(with_reducible repeat (first|refine blk_drewN ?_ _|refine blk_drew ?_|refine blk_alloc ?_ _));exact BK116.out) hb);replace HB:=Hb_ hb;(try clear hb)))
                   obtain⟨D8,hD8⟩:∃D:ByteArray,(a0.extract (((rd_T116 t102 t108).f1):Int).toNat ((wrap64 (((rd_T116 t102 t108).f1)+((rd_T116 t102 t108).f2))):Int).toNat)=D:=⟨_,rfl⟩;rw[hD8] at hji35 hji35w ⊢;replace HO_4:=Z_ (Kd.R_drew HO_4.out);replace BK101:=Z_ (blk_drew BK101.out);replace BK116:=Z_ (blk_drew BK116.out);replace HB:=Z_ (below_drew1 HB.out);refine start_ (n:=14) (S:=fun w'=>w'.cell? ⟨gb116,0,none⟩=some (.int .i64 t113)∧w'.cell? ⟨gb116,1,none⟩=some (.int .i64 t114)) (ds:= []) #[false,false,false,false,false,false,false,false,false,false,false,false,false,false] (by kernel_rfl) rfl rfl ⟨(blk_cell BK116.out 0).trans rfl,(blk_cell BK116.out 1).trans rfl⟩ (fun hHeld=>?_);refine with_tabW wave_Parse.tab11 wave_Parse.bits11 (fun HT_ HW_=>?_);generalize w46.drew=w47 at HO_4 BK101 BK116 HB hHeld ⊢;refine P_ 1 95 ?_;refine P_ 2 96 ?_;refine P_ 3 97 ?_;refine P_ 4 98 ?_;refine P_ 5 99 ?_;refine P_ 6 100 ?_;refine P_ 7 101 ?_;refine P_ 8 102 ?_;refine P_ 9 103 ?_;refine P_ 10 104 ?_;refine T_ 0 94 (y:=by rintro w' ⟨s0,s1⟩;go_simp;with_reducible rfl) (h:=?_);refine P_ 11 105 ?_;refine one_ (i:=12) (N:=none) #[true,true,true,true,true,true,true,true,true,true,true,true,true,false] rfl rfl (one_of HT_.out (by kernel_rfl)) (by decide) (fun K hK=>?_);have hs48:w47.cell? ⟨gb101,0,none⟩=some (.int .i64 0):=(blk_cell BK101.out 0).trans rfl;have hfs48:=blk_frozen BK101.out 0;have hns48_1:=NB116_101.out;have hms48_1:=NB101_116.out;have hs49:w47.cell? ⟨gb101,1,none⟩=some (.int .i64 0):=(blk_cell BK101.out 1).trans rfl;have hfs49:=blk_frozen BK101.out 1;have hns49_1:=NB116_101.out;have hms49_1:=NB101_116.out;have hs50:w47.cell? ⟨gb101,2,none⟩=some (.string (⟨#[]⟩:ByteArray)):=(blk_cell BK101.out 2).trans rfl;have hfs50:=blk_frozen BK101.out 2;have hns50_1:=NB116_101.out;have hms50_1:=NB101_116.out;have hs51:w47.cell? ⟨gb101,3,none⟩=some (.string (⟨#[]⟩:ByteArray)):=(blk_cell BK101.out 3).trans rfl;have hfs51:=blk_frozen BK101.out 3;have hns51_1:=NB116_101.out;have hms51_1:=NB101_116.out;have hs52:w47.cell? ⟨gb101,4,none⟩=some (.string (⟨#[]⟩:ByteArray)):=(blk_cell BK101.out 4).trans rfl;have hfs52:=blk_frozen BK101.out 4;have hns52_1:=NB116_101.out;have hms52_1:=NB101_116.out;refine skip_ (w1:=?_) (by rfl) rfl ?_ ?_;rotate_left
                   ·go_simp
                    rfl
                   refine hK.out _ _ ⟨((cell_far (p:=⟨gb101,_,none⟩) NB116_101.out _).trans (((cell_far (p:=⟨gb101,_,none⟩) NB116_101.out _).trans (((cell_far (p:=⟨gb101,_,none⟩) NB116_101.out _).trans (((cell_far (p:=⟨gb101,_,none⟩) NB116_101.out _).trans (((cell_far (p:=⟨gb101,_,none⟩) NB116_101.out _).trans (hHeld.1)))))))))),((cell_far (p:=⟨gb101,_,none⟩) NB116_101.out _).trans (((cell_far (p:=⟨gb101,_,none⟩) NB116_101.out _).trans (((cell_far (p:=⟨gb101,_,none⟩) NB116_101.out _).trans (((cell_far (p:=⟨gb101,_,none⟩) NB116_101.out _).trans (((cell_far (p:=⟨gb101,_,none⟩) NB116_101.out _).trans (hHeld.2))))))))))⟩ (fun hHeld=>?_);clear hK K;refine P_ 13 3 ?_;refine done_ (done_of HT_.out (by kernel_rfl)) ?_
                   try go_wp2
                   refine bodyPost_ret (results_ct rfl _ _ gb101 57 #[.int .i64 t113,.int .i64 t114,.string (a0.extract 0 (((rd_T116 t102 t108).f1):Int).toNat),.string D8,.string (a0.extract ((ji35):Int).toNat a0.size)] (0,0) _ rfl (by(with_reducible repeat (first|refine blk_drewN ?_ _|refine blk_drew ?_|refine blk_alloc ?_ _));refine blk_put (cs:= #[.int .i64 t113,.int .i64 t114,.string (a0.extract 0 (((rd_T116 t102 t108).f1):Int).toNat),.string D8,.string (⟨#[]⟩:ByteArray)]) ?_ 4 _ rfl;(with_reducible repeat (first|refine blk_drewN ?_ _|refine blk_drew ?_|refine blk_alloc ?_ _));refine blk_put (cs:= #[.int .i64 t113,.int .i64 t114,.string (a0.extract 0 (((rd_T116 t102 t108).f1):Int).toNat),.string (⟨#[]⟩:ByteArray),.string (⟨#[]⟩:ByteArray)]) ?_ 3 _ rfl;(with_reducible repeat (first|refine blk_drewN ?_ _|refine blk_drew ?_|refine blk_alloc ?_ _));refine blk_put (cs:= #[.int .i64 t113,.int .i64 t114,.string (⟨#[]⟩:ByteArray),.string (⟨#[]⟩:ByteArray),.string (⟨#[]⟩:ByteArray)]) ?_ 2 _ rfl;(with_reducible repeat (first|refine blk_drewN ?_ _|refine blk_drew ?_|refine blk_alloc ?_ _));refine blk_put (cs:= #[.int .i64 t113,.int .i64 0,.string (⟨#[]⟩:ByteArray),.string (⟨#[]⟩:ByteArray),.string (⟨#[]⟩:ByteArray)]) ?_ 1 _ rfl;(with_reducible repeat (first|refine blk_drewN ?_ _|refine blk_drew ?_|refine blk_alloc ?_ _));refine blk_put (cs:= #[.int .i64 0,.int .i64 0,.string (⟨#[]⟩:ByteArray),.string (⟨#[]⟩:ByteArray),.string (⟨#[]⟩:ByteArray)]) ?_ 0 _ rfl;(with_reducible repeat (first|refine blk_drewN ?_ _|refine blk_drew ?_|refine blk_alloc ?_ _));exact BK101.out) Tryz.underlying57 rfl (by kernel_rfl)) rfl ?_;exact⟨by first|(rw[hD8];rfl)|rfl|(simp[errW_none,errW_some]<;>rfl)|(simp only[←hji35];first|rfl|(simp[errW_none,errW_some]<;>rfl))|(simp[*,errW_none,errW_some]<;>rfl),B_⟩
                  ·rw[if_neg c37] at H;exact absurd H (by simp)
                 ·rw[if_neg c36] at H;exact absurd H (by simp)
                ·rw[if_neg c34] at H;exact absurd H (by simp)
               ·replace c32:=Bool.eq_false_iff.mpr c32;subst c32;rw[if_neg (show ¬(false=true) by decide)] at H;simp only[Option.some.injEq,Prod.mk.injEq] at H;obtain⟨rfl,rfl,rfl,rfl,rfl,rfl⟩:=H
                try go_wp2
                replace HO_4:=Z_ (Kd.R_drew HO_4.out);replace BK101:=Z_ (blk_drew BK101.out);replace HB:=Z_ (below_drew1 HB.out);have p111:0≤(t106:Int):=od_ A_;have q111:t106<(t102.length:Int):=od_ A_;obtain⟨ad111,e111,hx111_0,hx111_1,hx111_2⟩:=at_T116 (Kd.R_reads' HO_4.out).2.2 t106 p111 q111
                cases e111
                replace p111:=eq_true p111;replace q111:=eq_true q111;have p112:0≤(t106:Int):=od_ A_;have q112:t106<(t102.length:Int):=od_ A_;obtain⟨ad112,e112,hx112_0,hx112_1,hx112_2⟩:=at_T116 (Kd.R_reads' HO_4.out).2.2 t106 p112 q112;obtain rfl:ad111=ad112:=(by injection e112);replace p112:=eq_true p112;replace q112:=eq_true q112;refine start_ (n:=20) (S:=fun w'=>w'.cell? (ad111.add ((t106).toNat*3))=some (.string ((rd_T116 t102 t106).f0))∧w'.cell? ⟨(ad111.add ((t106).toNat*3)).block,(ad111.add ((t106).toNat*3)).off+1,none⟩=some (.int .i64 ((rd_T116 t102 t106).f1))∧w'.cell? ⟨(ad111.add ((t106).toNat*3)).block,(ad111.add ((t106).toNat*3)).off+2,none⟩=some (.int .i64 ((rd_T116 t102 t106).f2))∧w'.cell? (ad111.add ((t106).toNat*3))=some (.string ((rd_T116 t102 t106).f0))∧w'.cell? ⟨(ad111.add ((t106).toNat*3)).block,(ad111.add ((t106).toNat*3)).off+1,none⟩=some (.int .i64 ((rd_T116 t102 t106).f1))∧w'.cell? ⟨(ad111.add ((t106).toNat*3)).block,(ad111.add ((t106).toNat*3)).off+2,none⟩=some (.int .i64 ((rd_T116 t102 t106).f2))) (ds:= []) #[false,false,false,false,false,false,false,false,false,false,false,false,false,false,false,false,false,false,false,false] (by kernel_rfl) rfl rfl ⟨hx111_0,hx111_1,hx111_2,hx112_0,hx112_1,hx112_2⟩ (fun hHeld=>?_);refine with_tabW wave_Parse.tab6 wave_Parse.bits6 (fun HT_ HW_=>?_);generalize wc.drew=w53 at HO_4 BK101 HB hx111_0 hx111_1 hx111_2 hx112_0 hx112_1 hx112_2 hHeld ⊢;refine P_ 0 54 ?_;refine P_ 1 55 ?_;refine P_ 2 56 ?_;refine P_ 3 57 ?_;refine P_ 4 58 ?_;refine P_ 6 60 ?_;refine P_ 7 61 ?_;refine P_ 8 62 ?_;refine P_ 9 63 ?_;refine T_ 5 59 (y:=by rintro w' ⟨s0,s1,s2,s3,s4,s5⟩;go_simp;with_reducible rfl) (h:=?_);refine T_ 10 64 (y:=by rintro w' ⟨s0,s1,s2,s3,s4,s5⟩;go_simp;with_reducible rfl) (h:=?_);refine P_ 11 65 ?_;refine P_ 12 66 ?_;refine join_ (σ:=Nat) 2 #[true,true,true,true,true,true,true,true,true,true,true,true,true,true,true,true,true,true,false,false] (fun s_=> [(67,.tuple #[.agg #[.int .i64 t113,.int .i64 t114],.bool true]),(10,.pointer (some ⟨s_,0,none⟩)),(53,.tuple #[.agg #[.int .i64 t113,.int .i64 t114],.bool true]),(68,.agg #[.int .i64 t113,.int .i64 t114]),(69,.bool true)]) (fun s_ w'=>(w'.cell? (ad111.add ((t106).toNat*3))=some (.string ((rd_T116 t102 t106).f0))∧w'.cell? ⟨(ad111.add ((t106).toNat*3)).block,(ad111.add ((t106).toNat*3)).off+1,none⟩=some (.int .i64 ((rd_T116 t102 t106).f1))∧w'.cell? ⟨(ad111.add ((t106).toNat*3)).block,(ad111.add ((t106).toNat*3)).off+2,none⟩=some (.int .i64 ((rd_T116 t102 t106).f2))∧w'.cell? (ad111.add ((t106).toNat*3))=some (.string ((rd_T116 t102 t106).f0))∧w'.cell? ⟨(ad111.add ((t106).toNat*3)).block,(ad111.add ((t106).toNat*3)).off+1,none⟩=some (.int .i64 ((rd_T116 t102 t106).f1))∧w'.cell? ⟨(ad111.add ((t106).toNat*3)).block,(ad111.add ((t106).toNat*3)).off+2,none⟩=some (.int .i64 ((rd_T116 t102 t106).f2)))∧(Kd.R k116 116 w' w.heap.size (fun _=>True) (.slice (some ad111) t102.length co8) t102)∧(w'.heap[gb101]?=some (.cells #[.int .i64 0,.int .i64 0,.string (⟨#[]⟩:ByteArray),.string (⟨#[]⟩:ByteArray),.string (⟨#[]⟩:ByteArray)] 57 (0,0)))∧(w'.heap[s_]?=some (.cells #[.int .i64 0,.int .i64 0] 23 (0,0)))∧(w.heap.size≤s_)∧(w.heap.size≤s_)∧(gb101≠s_)∧(s_≠gb101)∧(Below w.heap.size w w')) ?_ ?_;rotate_left
                ·intro hCont;refine two_ (i:=13) (j:=17) (Ni:=some 67) (Nj:=some 10) #[true,true,true,true,true,true,true,true,true,true,true,true,true,true,false,false,false,false,false,false] #[true,true,true,true,true,true,true,true,true,true,true,true,true,false,false,false,false,true,false,false] rfl rfl rfl rfl (two_of HT_.out (by kernel_rfl)) (by decide) (by decide) (fun K hK=>?_) (fun K hK=>?_)
                 ·skip
                  refine g_ Tryz.func60 #[.string (a0.extract (((rd_T116 t102 t106).f1):Int).toNat ((wrap64 (((rd_T116 t102 t106).f1)+16)):Int).toNat)] ?_
                  with_reducible refine(wave_format.calls kj4 (a0.extract (((rd_T116 t102 t106).f1):Int).toNat ((wrap64 (((rd_T116 t102 t106).f1)+16)):Int).toNat) t113 t114 true _ A24.out).mono ?_
                  rintro e w54 ⟨rfl,hb⟩;have HS0_:=Hc_ hb hHeld.1;have HS1_:=Hc_ hb hHeld.2.1;have HS2_:=Hc_ hb hHeld.2.2.1;have HS3_:=Hc_ hb hHeld.2.2.2.1;have HS4_:=Hc_ hb hHeld.2.2.2.2.1;have HS5_:=Hc_ hb hHeld.2.2.2.2.2;refine⟨_,rfl,?_⟩;replace HO_4:=Z_ (Kd.R_below (R_ HO_4) hb);replace BK101:=Z_ (blk_below (K_ BK101) hb);replace HB:=Hb_ hb;(try clear hb);(try clear hb2);(try clear hk);(try clear hi);refine hK.out _ _ ⟨HS0_,HS1_,HS2_,HS3_,HS4_,HS5_⟩ (fun hHeld=>?_);clear hK K;refine Nm_ 67 ?_;refine P_ 14 53 ?_;refine P_ 15 68 ?_;refine P_ 16 69 ?_;refine O_ 17 10 fun K hK=>?_
                  refine box_step ?hg (N:=10) ?hd (cs:= #[.int .i64 0,.int .i64 0]) (t:=23) ?hr ?_;(case hd=>rfl);(case hg=>rfl);(case hr=>first|(go_simp;done)|(go_simp;rfl));intro gb116 hg w55 hbox hb;have HS0_:=Hc_ hb hHeld.1;have HS1_:=Hc_ hb hHeld.2.1;have HS2_:=Hc_ hb hHeld.2.2.1;have HS3_:=Hc_ hb hHeld.2.2.2.1;have HS4_:=Hc_ hb hHeld.2.2.2.2.1;have HS5_:=Hc_ hb hHeld.2.2.2.2.2;replace HO_4:=Z_ (Kd.R_below (R_ HO_4) hb);have BK116:=Z_ (hbox);have GW116:=Z_ ((G2_ hg:w.heap.size≤_));have GE116:=Z_ ((G2_ hg:w.heap.size≤_));replace HB:=Hb_ hb;have NB101_116:=Z_ ((by rw[hg];exact Nat.ne_of_lt (blk_lt (g:=gb101) (o:= .cells #[.int .i64 0,.int .i64 0,.string (⟨#[]⟩:ByteArray),.string (⟨#[]⟩:ByteArray),.string (⟨#[]⟩:ByteArray)] 57 (0,0)) (K_ BK101)):gb101≠gb116));have NB116_101:=Z_ ((by rw[hg];exact Nat.ne_of_gt (blk_lt (g:=gb101) (o:= .cells #[.int .i64 0,.int .i64 0,.string (⟨#[]⟩:ByteArray),.string (⟨#[]⟩:ByteArray),.string (⟨#[]⟩:ByteArray)] 57 (0,0)) (K_ BK101)):gb116≠gb101));replace BK101:=Z_ (blk_below (K_ BK101) hb);clear hb hbox hg;refine hK.out _ _ ⟨HS0_,HS1_,HS2_,HS3_,HS4_,HS5_⟩ (fun hHeld=>?_);clear hK K;refine Nm_ 10 ?_;exact norm_ (by simp only[putAll,Act.put,List.setIfInBounds_toArray,List.set_cons_zero,List.set_cons_succ]) (hCont (gb116) _ ⟨hHeld,(R_ HO_4),(K_ BK101),(K_ BK116),GW116.out,GE116.out,NB101_116.out,NB116_101.out,B_⟩)
                 ·skip
                  refine box_step ?hg (N:=10) ?hd (cs:= #[.int .i64 0,.int .i64 0]) (t:=23) ?hr ?_;(case hd=>rfl);(case hg=>rfl);(case hr=>first|(go_simp;done)|(go_simp;rfl));intro gb116 hg w54 hbox hb;have HS0_:=Hc_ hb hHeld.1;have HS1_:=Hc_ hb hHeld.2.1;have HS2_:=Hc_ hb hHeld.2.2.1;have HS3_:=Hc_ hb hHeld.2.2.2.1;have HS4_:=Hc_ hb hHeld.2.2.2.2.1;have HS5_:=Hc_ hb hHeld.2.2.2.2.2;replace HO_4:=Z_ (Kd.R_below (R_ HO_4) hb);have BK116:=Z_ (hbox);have GW116:=Z_ ((G2_ hg:w.heap.size≤_));have GE116:=Z_ ((G2_ hg:w.heap.size≤_));replace HB:=Hb_ hb;have NB101_116:=Z_ ((by rw[hg];exact Nat.ne_of_lt (blk_lt (g:=gb101) (o:= .cells #[.int .i64 0,.int .i64 0,.string (⟨#[]⟩:ByteArray),.string (⟨#[]⟩:ByteArray),.string (⟨#[]⟩:ByteArray)] 57 (0,0)) (K_ BK101)):gb101≠gb116));have NB116_101:=Z_ ((by rw[hg];exact Nat.ne_of_gt (blk_lt (g:=gb101) (o:= .cells #[.int .i64 0,.int .i64 0,.string (⟨#[]⟩:ByteArray),.string (⟨#[]⟩:ByteArray),.string (⟨#[]⟩:ByteArray)] 57 (0,0)) (K_ BK101)):gb116≠gb101));replace BK101:=Z_ (blk_below (K_ BK101) hb);clear hb hbox hg;refine hK.out _ _ ⟨HS0_,HS1_,HS2_,HS3_,HS4_,HS5_⟩ (fun hHeld=>?_);clear hK K;refine Nm_ 10 ?_;refine O_ 13 67 fun K hK=>?_
                  refine g_ Tryz.func60 #[.string (a0.extract (((rd_T116 t102 t106).f1):Int).toNat ((wrap64 (((rd_T116 t102 t106).f1)+16)):Int).toNat)] ?_
                  with_reducible refine(wave_format.calls kj4 (a0.extract (((rd_T116 t102 t106).f1):Int).toNat ((wrap64 (((rd_T116 t102 t106).f1)+16)):Int).toNat) t113 t114 true _ A24.out).mono ?_
                  rintro e w55 ⟨rfl,hb⟩;have HS0_:=Hc_ hb hHeld.1;have HS1_:=Hc_ hb hHeld.2.1;have HS2_:=Hc_ hb hHeld.2.2.1;have HS3_:=Hc_ hb hHeld.2.2.2.1;have HS4_:=Hc_ hb hHeld.2.2.2.2.1;have HS5_:=Hc_ hb hHeld.2.2.2.2.2;refine⟨_,rfl,?_⟩;replace HO_4:=Z_ (Kd.R_below (R_ HO_4) hb);replace BK101:=Z_ (blk_below (K_ BK101) hb);replace BK116:=Z_ (blk_below (K_ BK116) hb);replace HB:=Hb_ hb;(try clear hb);(try clear hb2);(try clear hk);(try clear hi);refine hK.out _ _ ⟨HS0_,HS1_,HS2_,HS3_,HS4_,HS5_⟩ (fun hHeld=>?_);clear hK K;refine Nm_ 67 ?_;refine P_ 14 53 ?_;refine P_ 15 68 ?_;refine P_ 16 69 ?_;exact norm_ (by simp only[putAll,Act.put,List.setIfInBounds_toArray,List.set_cons_zero,List.set_cons_succ]) (hCont (gb116) _ ⟨hHeld,(R_ HO_4),(K_ BK101),(K_ BK116),GW116.out,GE116.out,NB101_116.out,NB116_101.out,B_⟩)
                rintro gb116 w56 ⟨hS_,h0_,h1_,h2_,h3_,h4_,h5_,h6_,h7_⟩;have n0_:Aside0 (Kd.R k116 116 w56 w.heap.size (fun _=>True) (.slice (some ad111) t102.length co8) t102):=⟨h0_⟩;have n1_:Aside0 (w56.heap[gb101]?=some (.cells #[.int .i64 0,.int .i64 0,.string (⟨#[]⟩:ByteArray),.string (⟨#[]⟩:ByteArray),.string (⟨#[]⟩:ByteArray)] 57 (0,0))):=⟨h1_⟩;have n2_:Aside0 (w56.heap[gb116]?=some (.cells #[.int .i64 0,.int .i64 0] 23 (0,0))):=⟨h2_⟩;have n3_:Aside0 (w.heap.size≤gb116):=⟨h3_⟩;have n4_:Aside0 (w.heap.size≤gb116):=⟨h4_⟩;have n5_:Aside0 (gb101≠gb116):=⟨h5_⟩;have n6_:Aside0 (gb116≠gb101):=⟨h6_⟩;have n7_:Aside0 (Below w.heap.size w w56):=⟨h7_⟩;clear HO_4;clear BK101;clear HB;clear h0_ h1_ h2_ h3_ h4_ h5_ h6_ h7_;have HO_4:=n0_;have BK101:=n1_;have BK116:=n2_;have GW116:=n3_;have GE116:=n4_;have NB101_116:=n5_;have NB116_101:=n6_;have HB:=n7_;clear n0_ n1_ n2_ n3_ n4_ n5_ n6_ n7_;have hHeld:w56.cell? (ad111.add ((t106).toNat*3))=some (.string ((rd_T116 t102 t106).f0))∧w56.cell? ⟨(ad111.add ((t106).toNat*3)).block,(ad111.add ((t106).toNat*3)).off+1,none⟩=some (.int .i64 ((rd_T116 t102 t106).f1))∧w56.cell? ⟨(ad111.add ((t106).toNat*3)).block,(ad111.add ((t106).toNat*3)).off+2,none⟩=some (.int .i64 ((rd_T116 t102 t106).f2))∧w56.cell? (ad111.add ((t106).toNat*3))=some (.string ((rd_T116 t102 t106).f0))∧w56.cell? ⟨(ad111.add ((t106).toNat*3)).block,(ad111.add ((t106).toNat*3)).off+1,none⟩=some (.int .i64 ((rd_T116 t102 t106).f1))∧w56.cell? ⟨(ad111.add ((t106).toNat*3)).block,(ad111.add ((t106).toNat*3)).off+2,none⟩=some (.int .i64 ((rd_T116 t102 t106).f2)):=hS_;refine norm_ (a':=?_) ?_ ?_;rotate_left
                ·simp only[putAll,Act.put,List.setIfInBounds_toArray,List.set_cons_zero,List.set_cons_succ];rfl
                refine one_ (i:=18) (N:=none) #[true,true,true,true,true,true,true,true,true,true,true,true,true,true,true,true,true,true,true,false] rfl rfl (one_of HT_.out (by kernel_rfl)) (by decide) (fun K hK=>?_);have hs57:w56.cell? ⟨gb116,0,none⟩=some (.int .i64 0):=(blk_cell BK116.out 0).trans rfl;have hfs57:=blk_frozen BK116.out 0;have hns57_0:=NB101_116.out;have hms57_0:=NB116_101.out;have hs58:w56.cell? ⟨gb116,1,none⟩=some (.int .i64 0):=(blk_cell BK116.out 1).trans rfl;have hfs58:=blk_frozen BK116.out 1;have hns58_0:=NB101_116.out;have hms58_0:=NB116_101.out;refine skip_ (w1:=?_) (by rfl) rfl ?_ ?_;rotate_left
                ·go_simp
                 rfl
                refine hK.out _ _ ⟨((cell_far (p:=⟨gb116,_,none⟩) (by exact Wb_ (Kd.own_blk (Kd.R_ne HO_4.out BK116.out (by decide)))) _).trans (((cell_far (p:=⟨gb116,_,none⟩) (by exact Wb_ (Kd.own_blk (Kd.R_ne HO_4.out BK116.out (by decide)))) _).trans (hHeld.1)))),((cell_far (p:=⟨gb116,_,none⟩) (by exact Wb_ (Kd.own_blk (Kd.R_ne HO_4.out BK116.out (by decide)))) _).trans (((cell_far (p:=⟨gb116,_,none⟩) (by exact Wb_ (Kd.own_blk (Kd.R_ne HO_4.out BK116.out (by decide)))) _).trans (hHeld.2.1)))),((cell_far (p:=⟨gb116,_,none⟩) (by exact Wb_ (Kd.own_blk (Kd.R_ne HO_4.out BK116.out (by decide)))) _).trans (((cell_far (p:=⟨gb116,_,none⟩) (by exact Wb_ (Kd.own_blk (Kd.R_ne HO_4.out BK116.out (by decide)))) _).trans (hHeld.2.2.1)))),((cell_far (p:=⟨gb116,_,none⟩) (by exact Wb_ (Kd.own_blk (Kd.R_ne HO_4.out BK116.out (by decide)))) _).trans (((cell_far (p:=⟨gb116,_,none⟩) (by exact Wb_ (Kd.own_blk (Kd.R_ne HO_4.out BK116.out (by decide)))) _).trans (hHeld.2.2.2.1)))),((cell_far (p:=⟨gb116,_,none⟩) (by exact Wb_ (Kd.own_blk (Kd.R_ne HO_4.out BK116.out (by decide)))) _).trans (((cell_far (p:=⟨gb116,_,none⟩) (by exact Wb_ (Kd.own_blk (Kd.R_ne HO_4.out BK116.out (by decide)))) _).trans (hHeld.2.2.2.2.1)))),((cell_far (p:=⟨gb116,_,none⟩) (by exact Wb_ (Kd.own_blk (Kd.R_ne HO_4.out BK116.out (by decide)))) _).trans (((cell_far (p:=⟨gb116,_,none⟩) (by exact Wb_ (Kd.own_blk (Kd.R_ne HO_4.out BK116.out (by decide)))) _).trans (hHeld.2.2.2.2.2))))⟩ (fun hHeld=>?_);clear hK K;refine P_ 19 11 ?_;refine done_ (done_of HT_.out (by kernel_rfl)) ?_;have p117:0≤(t108:Int):=od_ A_;have q117:t108<(t102.length:Int):=od_ A_;obtain⟨ad117,e117,hx117_0,hx117_1,hx117_2⟩:=at_T116 (Kd.R_reads' HO_4.out).2.2 t108 p117 q117;obtain rfl:ad111=ad117:=(by injection e117);have hn117_0:ad111.block≠gb116:=Kd.own_blk (Kd.R_ne HO_4.out BK116.out (by decide));have hn117_1:ad111.block≠gb116:=Kd.own_blk (Kd.R_ne HO_4.out BK116.out (by decide));replace hx117_0:=Cf_ gb116 0 (.int .i64 t113) hx117_0 (Wb_ hn117_0);replace hx117_1:=Cf_ gb116 0 (.int .i64 t113) hx117_1 (Wb_ hn117_0);replace hx117_2:=Cf_ gb116 0 (.int .i64 t113) hx117_2 (Wb_ hn117_0);replace hx117_0:=Cf_ gb116 1 (.int .i64 t114) hx117_0 (Wb_ hn117_1);replace hx117_1:=Cf_ gb116 1 (.int .i64 t114) hx117_1 (Wb_ hn117_1);replace hx117_2:=Cf_ gb116 1 (.int .i64 t114) hx117_2 (Wb_ hn117_1);clear hn117_0;clear hn117_1;replace p117:=eq_true p117;replace q117:=eq_true q117;have p118:0≤(t108:Int):=od_ A_;have q118:t108<(t102.length:Int):=od_ A_;obtain⟨ad118,e118,hx118_0,hx118_1,hx118_2⟩:=at_T116 (Kd.R_reads' HO_4.out).2.2 t108 p118 q118;obtain rfl:ad111=ad118:=(by injection e118);have hn118_0:ad111.block≠gb116:=Kd.own_blk (Kd.R_ne HO_4.out BK116.out (by decide));have hn118_1:ad111.block≠gb116:=Kd.own_blk (Kd.R_ne HO_4.out BK116.out (by decide));replace hx118_0:=Cf_ gb116 0 (.int .i64 t113) hx118_0 (Wb_ hn118_0);replace hx118_1:=Cf_ gb116 0 (.int .i64 t113) hx118_1 (Wb_ hn118_0);replace hx118_2:=Cf_ gb116 0 (.int .i64 t113) hx118_2 (Wb_ hn118_0);replace hx118_0:=Cf_ gb116 1 (.int .i64 t114) hx118_0 (Wb_ hn118_1);replace hx118_1:=Cf_ gb116 1 (.int .i64 t114) hx118_1 (Wb_ hn118_1);replace hx118_2:=Cf_ gb116 1 (.int .i64 t114) hx118_2 (Wb_ hn118_1);clear hn118_0;clear hn118_1;replace p118:=eq_true p118;replace q118:=eq_true q118;have hnb59:=NB116_101.out;have hnc59:=NB101_116.out;have hcz60_0:=cz_ BK116 0;have hcz60_1:=cz_ BK116 1;have hfz60_0:=fz_ BK116 0;have hfz60_1:=fz_ BK116 1
                try go_wp2_with (first|(go_at_call 61;refine(pcm_Frames.calls (a0.extract (((rd_T116 t102 t108).f1):Int).toNat ((wrap64 (((rd_T116 t102 t108).f1)+((rd_T116 t102 t108).f2))):Int).toNat) t113 t114 false _ A31.out).mono ?_;rintro e w61 ⟨rfl,hb⟩;replace HO_4:=Z_ (Kd.R_below (by(with_reducible repeat (first|apply Kd.R_alloc|apply Kd.R_drewN|apply Kd.R_drew));exact(Kd.R_mono (Kd.R_far (p:=⟨gb116,1,none⟩) (Kd.R_far (p:=⟨gb116,0,none⟩) (Kd.R_types HO_4.out BK116.out (by decide)) (fun _ hk=>hk.2) (.int .i64 t113)) (fun _ hk=>hk.2) (.int .i64 t114)) (fun _ h_=>h_.1))) hb);replace BK101:=Z_ (blk_below (g:=gb101) (o:= .cells #[.int .i64 0,.int .i64 0,.string (⟨#[]⟩:ByteArray),.string (⟨#[]⟩:ByteArray),.string (⟨#[]⟩:ByteArray)] 57 (0,0)) (by(with_reducible repeat (first|refine blk_drewN ?_ _|refine blk_drew ?_|refine blk_alloc ?_ _));refine blk_far ?_ NB101_116.out _;(with_reducible repeat (first|refine blk_drewN ?_ _|refine blk_drew ?_|refine blk_alloc ?_ _));refine blk_far ?_ NB101_116.out _;(with_reducible repeat (first|refine blk_drewN ?_ _|refine blk_drew ?_|refine blk_alloc ?_ _));exact BK101.out) hb);replace BK116:=Z_ (blk_below (g:=gb116) (o:= .cells #[.int .i64 t113,.int .i64 t114] 23 (0,0)) (by(with_reducible repeat (first|refine blk_drewN ?_ _|refine blk_drew ?_|refine blk_alloc ?_ _));refine blk_put (cs:= #[.int .i64 t113,.int .i64 0]) ?_ 1 _ rfl;(with_reducible repeat (first|refine blk_drewN ?_ _|refine blk_drew ?_|refine blk_alloc ?_ _));refine blk_put (cs:= #[.int .i64 0,.int .i64 0]) ?_ 0 _ rfl;(with_reducible repeat (first|refine blk_drewN ?_ _|refine blk_drew ?_|refine blk_alloc ?_ _));exact BK116.out) hb);replace HB:=Hb_ hb;(try clear hb);have hcz62_0:=cz_ BK101 0;have hcz62_1:=cz_ BK101 1;have hcz62_2:=cz_ BK101 2;have hcz62_3:=cz_ BK101 3;have hcz62_4:=cz_ BK101 4;have hfz62_0:=fz_ BK101 0;have hfz62_1:=fz_ BK101 1;have hfz62_2:=fz_ BK101 2;have hfz62_3:=fz_ BK101 3;have hfz62_4:=fz_ BK101 4))
                refine bodyPost_ret (results_ct rfl _ _ gb101 57 #[.int .i64 0,.int .i64 0,.string (⟨#[]⟩:ByteArray),.string (⟨#[]⟩:ByteArray),.string (⟨#[]⟩:ByteArray)] (0,0) _ rfl (by(with_reducible repeat (first|refine blk_drewN ?_ _|refine blk_drew ?_|refine blk_alloc ?_ _));refine blk_put (cs:= #[.int .i64 0,.int .i64 0,.string (⟨#[]⟩:ByteArray),.string (⟨#[]⟩:ByteArray),.string (⟨#[]⟩:ByteArray)]) ?_ 4 _ rfl;(with_reducible repeat (first|refine blk_drewN ?_ _|refine blk_drew ?_|refine blk_alloc ?_ _));refine blk_put (cs:= #[.int .i64 0,.int .i64 0,.string (⟨#[]⟩:ByteArray),.string (⟨#[]⟩:ByteArray),.string (⟨#[]⟩:ByteArray)]) ?_ 3 _ rfl;(with_reducible repeat (first|refine blk_drewN ?_ _|refine blk_drew ?_|refine blk_alloc ?_ _));refine blk_put (cs:= #[.int .i64 0,.int .i64 0,.string (⟨#[]⟩:ByteArray),.string (⟨#[]⟩:ByteArray),.string (⟨#[]⟩:ByteArray)]) ?_ 2 _ rfl;(with_reducible repeat (first|refine blk_drewN ?_ _|refine blk_drew ?_|refine blk_alloc ?_ _));refine blk_put (cs:= #[.int .i64 0,.int .i64 0,.string (⟨#[]⟩:ByteArray),.string (⟨#[]⟩:ByteArray),.string (⟨#[]⟩:ByteArray)]) ?_ 1 _ rfl;(with_reducible repeat (first|refine blk_drewN ?_ _|refine blk_drew ?_|refine blk_alloc ?_ _));refine blk_put (cs:= #[.int .i64 0,.int .i64 0,.string (⟨#[]⟩:ByteArray),.string (⟨#[]⟩:ByteArray),.string (⟨#[]⟩:ByteArray)]) ?_ 0 _ rfl;(with_reducible repeat (first|refine blk_drewN ?_ _|refine blk_drew ?_|refine blk_alloc ?_ _));exact BK101.out) Tryz.underlying57 rfl (by kernel_rfl)) rfl ?_;exact⟨E_,B_⟩
              ·replace c30:=Bool.eq_false_iff.mpr c30;subst c30;rw[if_neg (show ¬(false=true) by decide)] at H;simp only[Option.some.injEq,Prod.mk.injEq] at H;obtain⟨rfl,rfl,rfl,rfl,rfl,rfl⟩:=H
               try go_wp2
               replace HO_4:=Z_ (Kd.R_drew HO_4.out);replace BK101:=Z_ (blk_drew BK101.out);replace HB:=Z_ (below_drew1 HB.out);have p111:0≤(t106:Int):=od_ A_;have q111:t106<(t102.length:Int):=od_ A_;obtain⟨ad111,e111,hx111_0,hx111_1,hx111_2⟩:=at_T116 (Kd.R_reads' HO_4.out).2.2 t106 p111 q111
               cases e111
               replace p111:=eq_true p111;replace q111:=eq_true q111;have p112:0≤(t106:Int):=od_ A_;have q112:t106<(t102.length:Int):=od_ A_;obtain⟨ad112,e112,hx112_0,hx112_1,hx112_2⟩:=at_T116 (Kd.R_reads' HO_4.out).2.2 t106 p112 q112;obtain rfl:ad111=ad112:=(by injection e112);replace p112:=eq_true p112;replace q112:=eq_true q112;refine start_ (n:=20) (S:=fun w'=>w'.cell? (ad111.add ((t106).toNat*3))=some (.string ((rd_T116 t102 t106).f0))∧w'.cell? ⟨(ad111.add ((t106).toNat*3)).block,(ad111.add ((t106).toNat*3)).off+1,none⟩=some (.int .i64 ((rd_T116 t102 t106).f1))∧w'.cell? ⟨(ad111.add ((t106).toNat*3)).block,(ad111.add ((t106).toNat*3)).off+2,none⟩=some (.int .i64 ((rd_T116 t102 t106).f2))∧w'.cell? (ad111.add ((t106).toNat*3))=some (.string ((rd_T116 t102 t106).f0))∧w'.cell? ⟨(ad111.add ((t106).toNat*3)).block,(ad111.add ((t106).toNat*3)).off+1,none⟩=some (.int .i64 ((rd_T116 t102 t106).f1))∧w'.cell? ⟨(ad111.add ((t106).toNat*3)).block,(ad111.add ((t106).toNat*3)).off+2,none⟩=some (.int .i64 ((rd_T116 t102 t106).f2))) (ds:= []) #[false,false,false,false,false,false,false,false,false,false,false,false,false,false,false,false,false,false,false,false] (by kernel_rfl) rfl rfl ⟨hx111_0,hx111_1,hx111_2,hx112_0,hx112_1,hx112_2⟩ (fun hHeld=>?_);refine with_tabW wave_Parse.tab6 wave_Parse.bits6 (fun HT_ HW_=>?_);generalize wc.drew=w63 at HO_4 BK101 HB hx111_0 hx111_1 hx111_2 hx112_0 hx112_1 hx112_2 hHeld ⊢;refine P_ 0 54 ?_;refine P_ 1 55 ?_;refine P_ 2 56 ?_;refine P_ 3 57 ?_;refine P_ 4 58 ?_;refine P_ 6 60 ?_;refine P_ 7 61 ?_;refine P_ 8 62 ?_;refine P_ 9 63 ?_;refine T_ 5 59 (y:=by rintro w' ⟨s0,s1,s2,s3,s4,s5⟩;go_simp;with_reducible rfl) (h:=?_);refine T_ 10 64 (y:=by rintro w' ⟨s0,s1,s2,s3,s4,s5⟩;go_simp;with_reducible rfl) (h:=?_);refine P_ 11 65 ?_;refine P_ 12 66 ?_;refine join_ (σ:=Nat) 2 #[true,true,true,true,true,true,true,true,true,true,true,true,true,true,true,true,true,true,false,false] (fun s_=> [(67,.tuple #[.agg #[.int .i64 t113,.int .i64 t114],.bool false]),(10,.pointer (some ⟨s_,0,none⟩)),(53,.tuple #[.agg #[.int .i64 t113,.int .i64 t114],.bool false]),(68,.agg #[.int .i64 t113,.int .i64 t114]),(69,.bool false)]) (fun s_ w'=>(w'.cell? (ad111.add ((t106).toNat*3))=some (.string ((rd_T116 t102 t106).f0))∧w'.cell? ⟨(ad111.add ((t106).toNat*3)).block,(ad111.add ((t106).toNat*3)).off+1,none⟩=some (.int .i64 ((rd_T116 t102 t106).f1))∧w'.cell? ⟨(ad111.add ((t106).toNat*3)).block,(ad111.add ((t106).toNat*3)).off+2,none⟩=some (.int .i64 ((rd_T116 t102 t106).f2))∧w'.cell? (ad111.add ((t106).toNat*3))=some (.string ((rd_T116 t102 t106).f0))∧w'.cell? ⟨(ad111.add ((t106).toNat*3)).block,(ad111.add ((t106).toNat*3)).off+1,none⟩=some (.int .i64 ((rd_T116 t102 t106).f1))∧w'.cell? ⟨(ad111.add ((t106).toNat*3)).block,(ad111.add ((t106).toNat*3)).off+2,none⟩=some (.int .i64 ((rd_T116 t102 t106).f2)))∧(Kd.R k116 116 w' w.heap.size (fun _=>True) (.slice (some ad111) t102.length co8) t102)∧(w'.heap[gb101]?=some (.cells #[.int .i64 0,.int .i64 0,.string (⟨#[]⟩:ByteArray),.string (⟨#[]⟩:ByteArray),.string (⟨#[]⟩:ByteArray)] 57 (0,0)))∧(w'.heap[s_]?=some (.cells #[.int .i64 0,.int .i64 0] 23 (0,0)))∧(w.heap.size≤s_)∧(w.heap.size≤s_)∧(gb101≠s_)∧(s_≠gb101)∧(Below w.heap.size w w')) ?_ ?_;rotate_left
               ·intro hCont;refine two_ (i:=13) (j:=17) (Ni:=some 67) (Nj:=some 10) #[true,true,true,true,true,true,true,true,true,true,true,true,true,true,false,false,false,false,false,false] #[true,true,true,true,true,true,true,true,true,true,true,true,true,false,false,false,false,true,false,false] rfl rfl rfl rfl (two_of HT_.out (by kernel_rfl)) (by decide) (by decide) (fun K hK=>?_) (fun K hK=>?_)
                ·skip
                 refine g_ Tryz.func60 #[.string (a0.extract (((rd_T116 t102 t106).f1):Int).toNat ((wrap64 (((rd_T116 t102 t106).f1)+16)):Int).toNat)] ?_
                 with_reducible refine(wave_format.calls kj4 (a0.extract (((rd_T116 t102 t106).f1):Int).toNat ((wrap64 (((rd_T116 t102 t106).f1)+16)):Int).toNat) t113 t114 false _ A24.out).mono ?_
                 rintro e w64 ⟨rfl,hb⟩;have HS0_:=Hc_ hb hHeld.1;have HS1_:=Hc_ hb hHeld.2.1;have HS2_:=Hc_ hb hHeld.2.2.1;have HS3_:=Hc_ hb hHeld.2.2.2.1;have HS4_:=Hc_ hb hHeld.2.2.2.2.1;have HS5_:=Hc_ hb hHeld.2.2.2.2.2;refine⟨_,rfl,?_⟩;replace HO_4:=Z_ (Kd.R_below (R_ HO_4) hb);replace BK101:=Z_ (blk_below (K_ BK101) hb);replace HB:=Hb_ hb;(try clear hb);(try clear hb2);(try clear hk);(try clear hi);refine hK.out _ _ ⟨HS0_,HS1_,HS2_,HS3_,HS4_,HS5_⟩ (fun hHeld=>?_);clear hK K;refine Nm_ 67 ?_;refine P_ 14 53 ?_;refine P_ 15 68 ?_;refine P_ 16 69 ?_;refine O_ 17 10 fun K hK=>?_
                 refine box_step ?hg (N:=10) ?hd (cs:= #[.int .i64 0,.int .i64 0]) (t:=23) ?hr ?_;(case hd=>rfl);(case hg=>rfl);(case hr=>first|(go_simp;done)|(go_simp;rfl));intro gb116 hg w65 hbox hb;have HS0_:=Hc_ hb hHeld.1;have HS1_:=Hc_ hb hHeld.2.1;have HS2_:=Hc_ hb hHeld.2.2.1;have HS3_:=Hc_ hb hHeld.2.2.2.1;have HS4_:=Hc_ hb hHeld.2.2.2.2.1;have HS5_:=Hc_ hb hHeld.2.2.2.2.2;replace HO_4:=Z_ (Kd.R_below (R_ HO_4) hb);have BK116:=Z_ (hbox);have GW116:=Z_ ((G2_ hg:w.heap.size≤_));have GE116:=Z_ ((G2_ hg:w.heap.size≤_));replace HB:=Hb_ hb;have NB101_116:=Z_ ((by rw[hg];exact Nat.ne_of_lt (blk_lt (g:=gb101) (o:= .cells #[.int .i64 0,.int .i64 0,.string (⟨#[]⟩:ByteArray),.string (⟨#[]⟩:ByteArray),.string (⟨#[]⟩:ByteArray)] 57 (0,0)) (K_ BK101)):gb101≠gb116));have NB116_101:=Z_ ((by rw[hg];exact Nat.ne_of_gt (blk_lt (g:=gb101) (o:= .cells #[.int .i64 0,.int .i64 0,.string (⟨#[]⟩:ByteArray),.string (⟨#[]⟩:ByteArray),.string (⟨#[]⟩:ByteArray)] 57 (0,0)) (K_ BK101)):gb116≠gb101));replace BK101:=Z_ (blk_below (K_ BK101) hb);clear hb hbox hg;refine hK.out _ _ ⟨HS0_,HS1_,HS2_,HS3_,HS4_,HS5_⟩ (fun hHeld=>?_);clear hK K;refine Nm_ 10 ?_;exact norm_ (by simp only[putAll,Act.put,List.setIfInBounds_toArray,List.set_cons_zero,List.set_cons_succ]) (hCont (gb116) _ ⟨hHeld,(R_ HO_4),(K_ BK101),(K_ BK116),GW116.out,GE116.out,NB101_116.out,NB116_101.out,B_⟩)
                ·skip
                 refine box_step ?hg (N:=10) ?hd (cs:= #[.int .i64 0,.int .i64 0]) (t:=23) ?hr ?_;(case hd=>rfl);(case hg=>rfl);(case hr=>first|(go_simp;done)|(go_simp;rfl));intro gb116 hg w64 hbox hb;have HS0_:=Hc_ hb hHeld.1;have HS1_:=Hc_ hb hHeld.2.1;have HS2_:=Hc_ hb hHeld.2.2.1;have HS3_:=Hc_ hb hHeld.2.2.2.1;have HS4_:=Hc_ hb hHeld.2.2.2.2.1;have HS5_:=Hc_ hb hHeld.2.2.2.2.2;replace HO_4:=Z_ (Kd.R_below (R_ HO_4) hb);have BK116:=Z_ (hbox);have GW116:=Z_ ((G2_ hg:w.heap.size≤_));have GE116:=Z_ ((G2_ hg:w.heap.size≤_));replace HB:=Hb_ hb;have NB101_116:=Z_ ((by rw[hg];exact Nat.ne_of_lt (blk_lt (g:=gb101) (o:= .cells #[.int .i64 0,.int .i64 0,.string (⟨#[]⟩:ByteArray),.string (⟨#[]⟩:ByteArray),.string (⟨#[]⟩:ByteArray)] 57 (0,0)) (K_ BK101)):gb101≠gb116));have NB116_101:=Z_ ((by rw[hg];exact Nat.ne_of_gt (blk_lt (g:=gb101) (o:= .cells #[.int .i64 0,.int .i64 0,.string (⟨#[]⟩:ByteArray),.string (⟨#[]⟩:ByteArray),.string (⟨#[]⟩:ByteArray)] 57 (0,0)) (K_ BK101)):gb116≠gb101));replace BK101:=Z_ (blk_below (K_ BK101) hb);clear hb hbox hg;refine hK.out _ _ ⟨HS0_,HS1_,HS2_,HS3_,HS4_,HS5_⟩ (fun hHeld=>?_);clear hK K;refine Nm_ 10 ?_;refine O_ 13 67 fun K hK=>?_
                 refine g_ Tryz.func60 #[.string (a0.extract (((rd_T116 t102 t106).f1):Int).toNat ((wrap64 (((rd_T116 t102 t106).f1)+16)):Int).toNat)] ?_
                 with_reducible refine(wave_format.calls kj4 (a0.extract (((rd_T116 t102 t106).f1):Int).toNat ((wrap64 (((rd_T116 t102 t106).f1)+16)):Int).toNat) t113 t114 false _ A24.out).mono ?_
                 rintro e w65 ⟨rfl,hb⟩;have HS0_:=Hc_ hb hHeld.1;have HS1_:=Hc_ hb hHeld.2.1;have HS2_:=Hc_ hb hHeld.2.2.1;have HS3_:=Hc_ hb hHeld.2.2.2.1;have HS4_:=Hc_ hb hHeld.2.2.2.2.1;have HS5_:=Hc_ hb hHeld.2.2.2.2.2;refine⟨_,rfl,?_⟩;replace HO_4:=Z_ (Kd.R_below (R_ HO_4) hb);replace BK101:=Z_ (blk_below (K_ BK101) hb);replace BK116:=Z_ (blk_below (K_ BK116) hb);replace HB:=Hb_ hb;(try clear hb);(try clear hb2);(try clear hk);(try clear hi);refine hK.out _ _ ⟨HS0_,HS1_,HS2_,HS3_,HS4_,HS5_⟩ (fun hHeld=>?_);clear hK K;refine Nm_ 67 ?_;refine P_ 14 53 ?_;refine P_ 15 68 ?_;refine P_ 16 69 ?_;exact norm_ (by simp only[putAll,Act.put,List.setIfInBounds_toArray,List.set_cons_zero,List.set_cons_succ]) (hCont (gb116) _ ⟨hHeld,(R_ HO_4),(K_ BK101),(K_ BK116),GW116.out,GE116.out,NB101_116.out,NB116_101.out,B_⟩)
               rintro gb116 w66 ⟨hS_,h0_,h1_,h2_,h3_,h4_,h5_,h6_,h7_⟩;have n0_:Aside0 (Kd.R k116 116 w66 w.heap.size (fun _=>True) (.slice (some ad111) t102.length co8) t102):=⟨h0_⟩;have n1_:Aside0 (w66.heap[gb101]?=some (.cells #[.int .i64 0,.int .i64 0,.string (⟨#[]⟩:ByteArray),.string (⟨#[]⟩:ByteArray),.string (⟨#[]⟩:ByteArray)] 57 (0,0))):=⟨h1_⟩;have n2_:Aside0 (w66.heap[gb116]?=some (.cells #[.int .i64 0,.int .i64 0] 23 (0,0))):=⟨h2_⟩;have n3_:Aside0 (w.heap.size≤gb116):=⟨h3_⟩;have n4_:Aside0 (w.heap.size≤gb116):=⟨h4_⟩;have n5_:Aside0 (gb101≠gb116):=⟨h5_⟩;have n6_:Aside0 (gb116≠gb101):=⟨h6_⟩;have n7_:Aside0 (Below w.heap.size w w66):=⟨h7_⟩;clear HO_4;clear BK101;clear HB;clear h0_ h1_ h2_ h3_ h4_ h5_ h6_ h7_;have HO_4:=n0_;have BK101:=n1_;have BK116:=n2_;have GW116:=n3_;have GE116:=n4_;have NB101_116:=n5_;have NB116_101:=n6_;have HB:=n7_;clear n0_ n1_ n2_ n3_ n4_ n5_ n6_ n7_;have hHeld:w66.cell? (ad111.add ((t106).toNat*3))=some (.string ((rd_T116 t102 t106).f0))∧w66.cell? ⟨(ad111.add ((t106).toNat*3)).block,(ad111.add ((t106).toNat*3)).off+1,none⟩=some (.int .i64 ((rd_T116 t102 t106).f1))∧w66.cell? ⟨(ad111.add ((t106).toNat*3)).block,(ad111.add ((t106).toNat*3)).off+2,none⟩=some (.int .i64 ((rd_T116 t102 t106).f2))∧w66.cell? (ad111.add ((t106).toNat*3))=some (.string ((rd_T116 t102 t106).f0))∧w66.cell? ⟨(ad111.add ((t106).toNat*3)).block,(ad111.add ((t106).toNat*3)).off+1,none⟩=some (.int .i64 ((rd_T116 t102 t106).f1))∧w66.cell? ⟨(ad111.add ((t106).toNat*3)).block,(ad111.add ((t106).toNat*3)).off+2,none⟩=some (.int .i64 ((rd_T116 t102 t106).f2)):=hS_;refine norm_ (a':=?_) ?_ ?_;rotate_left
               ·simp only[putAll,Act.put,List.setIfInBounds_toArray,List.set_cons_zero,List.set_cons_succ];rfl
               refine one_ (i:=18) (N:=none) #[true,true,true,true,true,true,true,true,true,true,true,true,true,true,true,true,true,true,true,false] rfl rfl (one_of HT_.out (by kernel_rfl)) (by decide) (fun K hK=>?_);have hs67:w66.cell? ⟨gb116,0,none⟩=some (.int .i64 0):=(blk_cell BK116.out 0).trans rfl;have hfs67:=blk_frozen BK116.out 0;have hns67_0:=NB101_116.out;have hms67_0:=NB116_101.out;have hs68:w66.cell? ⟨gb116,1,none⟩=some (.int .i64 0):=(blk_cell BK116.out 1).trans rfl;have hfs68:=blk_frozen BK116.out 1;have hns68_0:=NB101_116.out;have hms68_0:=NB116_101.out;refine skip_ (w1:=?_) (by rfl) rfl ?_ ?_;rotate_left
               ·go_simp
                rfl
               refine hK.out _ _ ⟨((cell_far (p:=⟨gb116,_,none⟩) (by exact Wb_ (Kd.own_blk (Kd.R_ne HO_4.out BK116.out (by decide)))) _).trans (((cell_far (p:=⟨gb116,_,none⟩) (by exact Wb_ (Kd.own_blk (Kd.R_ne HO_4.out BK116.out (by decide)))) _).trans (hHeld.1)))),((cell_far (p:=⟨gb116,_,none⟩) (by exact Wb_ (Kd.own_blk (Kd.R_ne HO_4.out BK116.out (by decide)))) _).trans (((cell_far (p:=⟨gb116,_,none⟩) (by exact Wb_ (Kd.own_blk (Kd.R_ne HO_4.out BK116.out (by decide)))) _).trans (hHeld.2.1)))),((cell_far (p:=⟨gb116,_,none⟩) (by exact Wb_ (Kd.own_blk (Kd.R_ne HO_4.out BK116.out (by decide)))) _).trans (((cell_far (p:=⟨gb116,_,none⟩) (by exact Wb_ (Kd.own_blk (Kd.R_ne HO_4.out BK116.out (by decide)))) _).trans (hHeld.2.2.1)))),((cell_far (p:=⟨gb116,_,none⟩) (by exact Wb_ (Kd.own_blk (Kd.R_ne HO_4.out BK116.out (by decide)))) _).trans (((cell_far (p:=⟨gb116,_,none⟩) (by exact Wb_ (Kd.own_blk (Kd.R_ne HO_4.out BK116.out (by decide)))) _).trans (hHeld.2.2.2.1)))),((cell_far (p:=⟨gb116,_,none⟩) (by exact Wb_ (Kd.own_blk (Kd.R_ne HO_4.out BK116.out (by decide)))) _).trans (((cell_far (p:=⟨gb116,_,none⟩) (by exact Wb_ (Kd.own_blk (Kd.R_ne HO_4.out BK116.out (by decide)))) _).trans (hHeld.2.2.2.2.1)))),((cell_far (p:=⟨gb116,_,none⟩) (by exact Wb_ (Kd.own_blk (Kd.R_ne HO_4.out BK116.out (by decide)))) _).trans (((cell_far (p:=⟨gb116,_,none⟩) (by exact Wb_ (Kd.own_blk (Kd.R_ne HO_4.out BK116.out (by decide)))) _).trans (hHeld.2.2.2.2.2))))⟩ (fun hHeld=>?_);clear hK K;refine P_ 19 11 ?_;refine done_ (done_of HT_.out (by kernel_rfl)) ?_;have p117:0≤(t108:Int):=od_ A_;have q117:t108<(t102.length:Int):=od_ A_;obtain⟨ad117,e117,hx117_0,hx117_1,hx117_2⟩:=at_T116 (Kd.R_reads' HO_4.out).2.2 t108 p117 q117;obtain rfl:ad111=ad117:=(by injection e117);have hn117_0:ad111.block≠gb116:=Kd.own_blk (Kd.R_ne HO_4.out BK116.out (by decide));have hn117_1:ad111.block≠gb116:=Kd.own_blk (Kd.R_ne HO_4.out BK116.out (by decide));replace hx117_0:=Cf_ gb116 0 (.int .i64 t113) hx117_0 (Wb_ hn117_0);replace hx117_1:=Cf_ gb116 0 (.int .i64 t113) hx117_1 (Wb_ hn117_0);replace hx117_2:=Cf_ gb116 0 (.int .i64 t113) hx117_2 (Wb_ hn117_0);replace hx117_0:=Cf_ gb116 1 (.int .i64 t114) hx117_0 (Wb_ hn117_1);replace hx117_1:=Cf_ gb116 1 (.int .i64 t114) hx117_1 (Wb_ hn117_1);replace hx117_2:=Cf_ gb116 1 (.int .i64 t114) hx117_2 (Wb_ hn117_1);clear hn117_0;clear hn117_1;replace p117:=eq_true p117;replace q117:=eq_true q117;have p118:0≤(t108:Int):=od_ A_;have q118:t108<(t102.length:Int):=od_ A_;obtain⟨ad118,e118,hx118_0,hx118_1,hx118_2⟩:=at_T116 (Kd.R_reads' HO_4.out).2.2 t108 p118 q118;obtain rfl:ad111=ad118:=(by injection e118);have hn118_0:ad111.block≠gb116:=Kd.own_blk (Kd.R_ne HO_4.out BK116.out (by decide));have hn118_1:ad111.block≠gb116:=Kd.own_blk (Kd.R_ne HO_4.out BK116.out (by decide));replace hx118_0:=Cf_ gb116 0 (.int .i64 t113) hx118_0 (Wb_ hn118_0);replace hx118_1:=Cf_ gb116 0 (.int .i64 t113) hx118_1 (Wb_ hn118_0);replace hx118_2:=Cf_ gb116 0 (.int .i64 t113) hx118_2 (Wb_ hn118_0);replace hx118_0:=Cf_ gb116 1 (.int .i64 t114) hx118_0 (Wb_ hn118_1);replace hx118_1:=Cf_ gb116 1 (.int .i64 t114) hx118_1 (Wb_ hn118_1);replace hx118_2:=Cf_ gb116 1 (.int .i64 t114) hx118_2 (Wb_ hn118_1);clear hn118_0;clear hn118_1;replace p118:=eq_true p118;replace q118:=eq_true q118;have hnb69:=NB101_116.out;have hnc69:=NB116_101.out;have hcz70_0:=cz_ BK101 0;have hcz70_1:=cz_ BK101 1;have hcz70_2:=cz_ BK101 2;have hcz70_3:=cz_ BK101 3;have hcz70_4:=cz_ BK101 4;have hfz70_0:=fz_ BK101 0;have hfz70_1:=fz_ BK101 1;have hfz70_2:=fz_ BK101 2;have hfz70_3:=fz_ BK101 3;have hfz70_4:=fz_ BK101 4
               try go_wp2
               refine bodyPost_ret (results_ct rfl _ _ gb101 57 #[.int .i64 0,.int .i64 0,.string (⟨#[]⟩:ByteArray),.string (⟨#[]⟩:ByteArray),.string (⟨#[]⟩:ByteArray)] (0,0) _ rfl (by(with_reducible repeat (first|refine blk_drewN ?_ _|refine blk_drew ?_|refine blk_alloc ?_ _));refine blk_put (cs:= #[.int .i64 0,.int .i64 0,.string (⟨#[]⟩:ByteArray),.string (⟨#[]⟩:ByteArray),.string (⟨#[]⟩:ByteArray)]) ?_ 4 _ rfl;(with_reducible repeat (first|refine blk_drewN ?_ _|refine blk_drew ?_|refine blk_alloc ?_ _));refine blk_put (cs:= #[.int .i64 0,.int .i64 0,.string (⟨#[]⟩:ByteArray),.string (⟨#[]⟩:ByteArray),.string (⟨#[]⟩:ByteArray)]) ?_ 3 _ rfl;(with_reducible repeat (first|refine blk_drewN ?_ _|refine blk_drew ?_|refine blk_alloc ?_ _));refine blk_put (cs:= #[.int .i64 0,.int .i64 0,.string (⟨#[]⟩:ByteArray),.string (⟨#[]⟩:ByteArray),.string (⟨#[]⟩:ByteArray)]) ?_ 2 _ rfl;(with_reducible repeat (first|refine blk_drewN ?_ _|refine blk_drew ?_|refine blk_alloc ?_ _));refine blk_put (cs:= #[.int .i64 0,.int .i64 0,.string (⟨#[]⟩:ByteArray),.string (⟨#[]⟩:ByteArray),.string (⟨#[]⟩:ByteArray)]) ?_ 1 _ rfl;(with_reducible repeat (first|refine blk_drewN ?_ _|refine blk_drew ?_|refine blk_alloc ?_ _));refine blk_put (cs:= #[.int .i64 0,.int .i64 0,.string (⟨#[]⟩:ByteArray),.string (⟨#[]⟩:ByteArray),.string (⟨#[]⟩:ByteArray)]) ?_ 0 _ rfl;(with_reducible repeat (first|refine blk_drewN ?_ _|refine blk_drew ?_|refine blk_alloc ?_ _));refine blk_far ?_ NB101_116.out _;(with_reducible repeat (first|refine blk_drewN ?_ _|refine blk_drew ?_|refine blk_alloc ?_ _));refine blk_far ?_ NB101_116.out _;(with_reducible repeat (first|refine blk_drewN ?_ _|refine blk_drew ?_|refine blk_alloc ?_ _));exact BK101.out) Tryz.underlying57 rfl (by kernel_rfl)) rfl ?_;exact⟨E_,B_⟩
             ·rw[if_neg c29] at H;exact absurd H (by simp)
            ·rw[if_neg c28] at H;exact absurd H (by simp)
           ·rw[if_neg c27] at H;exact absurd H (by simp)
          ·rw[if_neg c26] at H;exact absurd H (by simp)
         ·rw[if_neg c25] at H;exact absurd H (by simp)
        ·rw[if_neg c23] at H;exact absurd H (by simp)
       ·rw[if_neg c22] at H;exact absurd H (by simp)
      ·rw[if_neg c21] at H;exact absurd H (by simp)
     ·rw[if_neg c20] at H;exact absurd H (by simp)
    ·rw[if_neg c19] at H;exact absurd H (by simp)
end Go.Proofs.YtfghldonnffldaaGreatDoor.ZFiv
namespace Go.Proofs.YtfghldonnffldaaGreatDoor.ZFiv
open Go.RowKit TBase UOne VTwo XThr YFou YtfghldonnffldaaGreatDoorW.PrintWords YtfghldonnffldaaGreatDoorW.PrintLast YtfghldonnffldaaGreatDoorW.PrintMore
attribute [local go_sem] max2_int min2_int max_two min_two max_three min_three max_four min_four
attribute [local go_sem high] eqA57
def wave_Build.j0:Nat→Bool→Int→Int→ByteArray→ByteArray→ByteArray→Option (ByteArray×Int)
 |0,_,_,_,_,_,_=>none
 |k+1,x22,x121000,x121001,x121002,x121003,x121004=>if x22=true then(some ((⟨#[]⟩:ByteArray),2100)) else(if x121002.size+x121003.size≤9223372036854775807 then(if(x121002++x121003).size+x121004.size≤9223372036854775807 then((wave_Parse.f k ((x121002++x121003)++x121004)).bind fun bt121=>(if bt121.2.2.2.2.2=0 then(if((!(bt121.1==x121000) || (!(bt121.2.1==x121001))) || (!(bt121.2.2.1.toList==x121002.toList) || (!(bt121.2.2.2.1.toList==x121003.toList) || (!(bt121.2.2.2.2.1.toList==x121004.toList)))))=true then(some ((⟨#[]⟩:ByteArray),2100)) else(some ((x121002++x121003)++x121004,0))) else(some ((⟨#[]⟩:ByteArray),2100)))) else(none)) else(none))
def wave_Build.f(k:Nat)(a0_0:Int)(a0_1:Int)(a0_2:ByteArray)(a0_3:ByteArray)(a0_4:ByteArray):Option (ByteArray×Int):=if(a0_2.size:Int)>4096 then(wave_Build.j0 k true a0_0 a0_1 a0_2 a0_3 a0_4) else(if(a0_3.size:Int)>4096 then(wave_Build.j0 k true a0_0 a0_1 a0_2 a0_3 a0_4) else(wave_Build.j0 k (decide ((a0_4.size:Int)>4096)) a0_0 a0_1 a0_2 a0_3 a0_4))
theorem wave_Build.calls(k:Nat)(a0_0:Int)(a0_1:Int)(a0_2:ByteArray)(a0_3:ByteArray)(a0_4:ByteArray)(r1:ByteArray)(r2:Int)(w:World)(h:wave_Build.f k a0_0 a0_1 a0_2 a0_3 a0_4=some (r1,r2)):
  Calls Tryz.prog 33 #[.agg #[.int .i64 a0_0,.int .i64 a0_1,.string a0_2,.string a0_3,.string a0_4]] w fun e w'=>e= .returned (.tuple #[.string r1,.int .i64 r2])∧Below w.heap.size w w':=by
 have hu57:=Tryz.underlying57;have HB:=Z_ (Below.refl w.heap.size w);have H:(if(a0_2.size:Int)>4096 then(wave_Build.j0 k true a0_0 a0_1 a0_2 a0_3 a0_4) else(if(a0_3.size:Int)>4096 then(wave_Build.j0 k true a0_0 a0_1 a0_2 a0_3 a0_4) else(wave_Build.j0 k (decide ((a0_4.size:Int)>4096)) a0_0 a0_1 a0_2 a0_3 a0_4)))=some (r1,r2):=h;clear h;have HC2:=Z_ H;clear H
 go_enter Tryz.func33,Tryz.ntmps33
 go_upto_region 1 with (first|((try (refine gate_guard (by rfl) ?_;dsimp only));refine X_ 1 #[.int .i64 a0_0,.int .i64 a0_1,.string a0_2,.string a0_3,.string a0_4] 57 ?_;intro gb120 hg w3 hbox hb;have BK120:=Z_ (hbox);have GW120:=Z_ (G2_ hg:w.heap.size≤_);have GE120:=GW120;replace HB:=Hb_ hb;clear hb hbox hg))
 (try simp only[Act.put,List.setIfInBounds_toArray,List.set_cons_zero,List.set_cons_succ])
 go_cut [22] (fun v22 wc=>∃(kq:Nat) (x22_1:Bool),v22= .bool x22_1∧Aside0 (wave_Build.j0 kq x22_1 a0_0 a0_1 a0_2 a0_3 a0_4=some (r1,r2))∧Aside0 (kq≤k)∧Aside0 (wc.heap[gb120]?=some (.cells #[.int .i64 a0_0,.int .i64 a0_1,.string a0_2,.string a0_3,.string a0_4] 57 (0,0)))∧Aside0 (Below w.heap.size w wc))
 case first=>
  have H:=HC2.out;clear HC2
  by_cases c4:(a0_2.size:Int)>4096
  ·rw[if_pos c4] at H;have c4b0:decide (4096<(a0_2.size:Int))=true:=dt_ c4;have c4b1:decide (4096<a0_2.size)=true:=dt_ (by omega);clear c4;(first|rw[c4b0]|(simp only[i64_w,i32_w];rw[c4b0])|skip);have H':=Z_ H;clear H;have hcz5_0:=cz_ BK120 0;have hcz5_1:=cz_ BK120 1;have hcz5_2:=cz_ BK120 2;have hcz5_3:=cz_ BK120 3;have hcz5_4:=cz_ BK120 4;have hfz5_0:=fz_ BK120 0;have hfz5_1:=fz_ BK120 1;have hfz5_2:=fz_ BK120 2;have hfz5_3:=fz_ BK120 3;have hfz5_4:=fz_ BK120 4;go_wp2;go_meet
   case rel=>exact⟨_,(true),(E1_),H',⟨L_⟩,⟨(K_ BK120)⟩,⟨B_⟩⟩
  ·rw[if_neg c4] at H;have c4b0:decide (4096<(a0_2.size:Int))=false:=df_ c4;have c4b1:decide (4096<a0_2.size)=false:=df_ (by omega);clear c4;(first|rw[c4b0]|(simp only[i64_w,i32_w];rw[c4b0])|skip)
   by_cases c6:(a0_3.size:Int)>4096
   ·rw[if_pos c6] at H;have c6b0:decide (4096<(a0_3.size:Int))=true:=dt_ c6;have c6b1:decide (4096<a0_3.size)=true:=dt_ (by omega);clear c6;have H':=Z_ H;clear H;have hcz7_0:=cz_ BK120 0;have hcz7_1:=cz_ BK120 1;have hcz7_2:=cz_ BK120 2;have hcz7_3:=cz_ BK120 3;have hcz7_4:=cz_ BK120 4;have hfz7_0:=fz_ BK120 0;have hfz7_1:=fz_ BK120 1;have hfz7_2:=fz_ BK120 2;have hfz7_3:=fz_ BK120 3;have hfz7_4:=fz_ BK120 4;go_wp2;go_meet
    case rel=>exact⟨_,(true),(E1_),H',⟨L_⟩,⟨(K_ BK120)⟩,⟨B_⟩⟩
   ·rw[if_neg c6] at H;have c6b0:decide (4096<(a0_3.size:Int))=false:=df_ c6;have c6b1:decide (4096<a0_3.size)=false:=df_ (by omega);clear c6;have H':=Z_ H;clear H;have hcz8_0:=cz_ BK120 0;have hcz8_1:=cz_ BK120 1;have hcz8_2:=cz_ BK120 2;have hcz8_3:=cz_ BK120 3;have hcz8_4:=cz_ BK120 4;have hfz8_0:=fz_ BK120 0;have hfz8_1:=fz_ BK120 1;have hfz8_2:=fz_ BK120 2;have hfz8_3:=fz_ BK120 3;have hfz8_4:=fz_ BK120 4;go_wp2;go_meet
    case rel=>exact⟨_,(decide ((a0_4.size:Int)>4096)),(E1_),H',⟨L_⟩,⟨(K_ BK120)⟩,⟨B_⟩⟩
 case rest=>
  clear HC2
  try clear p2
  try clear c3
  try clear c4
  try clear c4b0
  try clear c4b1
  try clear c6
  try clear c6b0
  try clear c6b1
  try clear hcz5_0
  try clear hcz5_1
  try clear hcz5_2
  try clear hcz5_3
  try clear hcz5_4
  try clear hcz7_0
  try clear hcz7_1
  try clear hcz7_2
  try clear hcz7_3
  try clear hcz7_4
  try clear hcz8_0
  try clear hcz8_1
  try clear hcz8_2
  try clear hcz8_3
  try clear hcz8_4
  try clear hfz5_0
  try clear hfz5_1
  try clear hfz5_2
  try clear hfz5_3
  try clear hfz5_4
  try clear hfz7_0
  try clear hfz7_1
  try clear hfz7_2
  try clear hfz7_3
  try clear hfz7_4
  try clear hfz8_0
  try clear hfz8_1
  try clear hfz8_2
  try clear hfz8_3
  try clear hfz8_4
  obtain⟨kq,x22_1,rfl,HA,HJ1,BK120,HB⟩:=hcut
  cases kq with
  |zero=>exact absurd HA.out (by simp[wave_Build.j0])
  |succ kj1=>
   have H:=HA.out;clear HA;simp only[wave_Build.j0] at H
   by_cases c9:x22_1=true
   ·subst c9;rw[if_pos rfl] at H;simp only[Option.some.injEq,Prod.mk.injEq] at H;obtain⟨rfl,rfl⟩:=H;go_wp2;go_ret2;exact⟨E_,B_⟩
   ·replace c9:=Bool.eq_false_iff.mpr c9;subst c9;rw[if_neg (show ¬(false=true) by decide)] at H
    by_cases c10:a0_2.size+a0_3.size≤9223372036854775807
    ·rw[if_pos c10] at H;have c10b0:=eq_true c10;have c10b1:=dt_ c10
     try have c10b2:(9223372036854775807<a0_2.size+a0_3.size)=False:=eq_false (Nat.not_lt.2 c10)
     by_cases c11:(a0_2++a0_3).size+a0_4.size≤9223372036854775807
     ·rw[if_pos c11] at H;have c11b0:=eq_true c11;have c11b1:=dt_ c11
      try have c11b2:(9223372036854775807<(a0_2++a0_3).size+a0_4.size)=False:=eq_false (Nat.not_lt.2 c11)
      (try (have c11b3:=c11b2;simp only[ByteArray.size_append] at c11b3));replace H:=Ob_ H;obtain⟨⟨t121,t122,t123,t124,t125,t126⟩,A120,H⟩:=H;(try dsimp only at H);have A12:=Z_ A120;clear A120
      by_cases c13:t126=0
      ·rw[if_pos c13] at H;have c13b0:(t126==0)=true:=beq_iff_eq.mpr c13;have c13b1:(t126 !=0)=false:=bne_eq_false_iff_eq.mpr c13;clear c13
       by_cases c14:((!(t121==a0_0) || (!(t122==a0_1))) || (!(t123.toList==a0_2.toList) || (!(t124.toList==a0_3.toList) || (!(t125.toList==a0_4.toList)))))=true
       ·rw[if_pos c14] at H;have c14b0:((!(t121==a0_0) || (!(t122==a0_1))) || (!(t123.toList==a0_2.toList) || (!(t124.toList==a0_3.toList) || (!(t125.toList==a0_4.toList)))))=true:=c14;clear c14;simp only[Option.some.injEq,Prod.mk.injEq] at H;obtain⟨rfl,rfl⟩:=H;have hcz15_0:=cz_ BK120 0;have hcz15_1:=cz_ BK120 1;have hcz15_2:=cz_ BK120 2;have hcz15_3:=cz_ BK120 3;have hcz15_4:=cz_ BK120 4;have hfz15_0:=fz_ BK120 0;have hfz15_1:=fz_ BK120 1;have hfz15_2:=fz_ BK120 2;have hfz15_3:=fz_ BK120 3;have hfz15_4:=fz_ BK120 4
        go_wp2_with (first|(refine G_ 33 Tryz.func24 #[.string ((a0_2++a0_3)++a0_4)] ?_;refine(wave_Parse.calls kj1 ((a0_2++a0_3)++a0_4) t121 t122 t123 t124 t125 t126 _ A12.out).mono ?_;rintro e w16 ⟨rfl,hb⟩;refine⟨_,rfl,?_⟩;replace BK120:=Z_ (blk_below (K_ BK120) hb);replace HB:=Hb_ hb;(try clear hb))|((try (refine gate_guard (by rfl) ?_;dsimp only));refine X_ 5 #[.int .i64 0,.int .i64 0,.string (⟨#[]⟩:ByteArray),.string (⟨#[]⟩:ByteArray),.string (⟨#[]⟩:ByteArray)] 57 ?_;intro gb127 hg w17 hbox hb;have BK127:=Z_ (hbox);have GW127:=Z_ (G2_ hg:w.heap.size≤_);have GE127:=GW127;replace HB:=Hb_ hb;have NB120_127:=Z_ ((by rw[hg];exact Nat.ne_of_lt (blk_lt (g:=gb120) (o:= .cells #[.int .i64 a0_0,.int .i64 a0_1,.string a0_2,.string a0_3,.string a0_4] 57 (0,0)) (K_ BK120)):gb120≠gb127));have NB127_120:=Z_ ((by rw[hg];exact Nat.ne_of_gt (blk_lt (g:=gb120) (o:= .cells #[.int .i64 a0_0,.int .i64 a0_1,.string a0_2,.string a0_3,.string a0_4] 57 (0,0)) (K_ BK120)):gb127≠gb120));replace BK120:=Z_ (blk_below (K_ BK120) hb);clear hb hbox hg;have hnb18:=NB127_120.out;have hnc18:=NB120_127.out;have hcz19_0:=cz_ BK127 0;have hcz19_1:=cz_ BK127 1;have hcz19_2:=cz_ BK127 2;have hcz19_3:=cz_ BK127 3;have hcz19_4:=cz_ BK127 4;have hfz19_0:=fz_ BK127 0;have hfz19_1:=fz_ BK127 1;have hfz19_2:=fz_ BK127 2;have hfz19_3:=fz_ BK127 3;have hfz19_4:=fz_ BK127 4;have hcz20_0:=cz_ BK120 0;have hcz20_1:=cz_ BK120 1;have hcz20_2:=cz_ BK120 2;have hcz20_3:=cz_ BK120 3;have hcz20_4:=cz_ BK120 4;have hfz20_0:=fz_ BK120 0;have hfz20_1:=fz_ BK120 1;have hfz20_2:=fz_ BK120 2;have hfz20_3:=fz_ BK120 3;have hfz20_4:=fz_ BK120 4))
        go_ret2;exact⟨E_,B_⟩
       ·rw[if_neg c14] at H;have c14b0:((!(t121==a0_0) || (!(t122==a0_1))) || (!(t123.toList==a0_2.toList) || (!(t124.toList==a0_3.toList) || (!(t125.toList==a0_4.toList)))))=false:=by simpa using c14
        clear c14;simp only[Option.some.injEq,Prod.mk.injEq] at H;obtain⟨rfl,rfl⟩:=H;have hcz21_0:=cz_ BK120 0;have hcz21_1:=cz_ BK120 1;have hcz21_2:=cz_ BK120 2;have hcz21_3:=cz_ BK120 3;have hcz21_4:=cz_ BK120 4;have hfz21_0:=fz_ BK120 0;have hfz21_1:=fz_ BK120 1;have hfz21_2:=fz_ BK120 2;have hfz21_3:=fz_ BK120 3;have hfz21_4:=fz_ BK120 4
        go_wp2_with (first|(refine G_ 33 Tryz.func24 #[.string ((a0_2++a0_3)++a0_4)] ?_;refine(wave_Parse.calls kj1 ((a0_2++a0_3)++a0_4) t121 t122 t123 t124 t125 t126 _ A12.out).mono ?_;rintro e w22 ⟨rfl,hb⟩;refine⟨_,rfl,?_⟩;replace BK120:=Z_ (blk_below (K_ BK120) hb);replace HB:=Hb_ hb;(try clear hb))|((try (refine gate_guard (by rfl) ?_;dsimp only));refine X_ 5 #[.int .i64 0,.int .i64 0,.string (⟨#[]⟩:ByteArray),.string (⟨#[]⟩:ByteArray),.string (⟨#[]⟩:ByteArray)] 57 ?_;intro gb127 hg w23 hbox hb;have BK127:=Z_ (hbox);have GW127:=Z_ (G2_ hg:w.heap.size≤_);have GE127:=GW127;replace HB:=Hb_ hb;have NB120_127:=Z_ ((by rw[hg];exact Nat.ne_of_lt (blk_lt (g:=gb120) (o:= .cells #[.int .i64 a0_0,.int .i64 a0_1,.string a0_2,.string a0_3,.string a0_4] 57 (0,0)) (K_ BK120)):gb120≠gb127));have NB127_120:=Z_ ((by rw[hg];exact Nat.ne_of_gt (blk_lt (g:=gb120) (o:= .cells #[.int .i64 a0_0,.int .i64 a0_1,.string a0_2,.string a0_3,.string a0_4] 57 (0,0)) (K_ BK120)):gb127≠gb120));replace BK120:=Z_ (blk_below (K_ BK120) hb);clear hb hbox hg;have hnb24:=NB127_120.out;have hnc24:=NB120_127.out;have hcz25_0:=cz_ BK127 0;have hcz25_1:=cz_ BK127 1;have hcz25_2:=cz_ BK127 2;have hcz25_3:=cz_ BK127 3;have hcz25_4:=cz_ BK127 4;have hfz25_0:=fz_ BK127 0;have hfz25_1:=fz_ BK127 1;have hfz25_2:=fz_ BK127 2;have hfz25_3:=fz_ BK127 3;have hfz25_4:=fz_ BK127 4;have hcz26_0:=cz_ BK120 0;have hcz26_1:=cz_ BK120 1;have hcz26_2:=cz_ BK120 2;have hcz26_3:=cz_ BK120 3;have hcz26_4:=cz_ BK120 4;have hfz26_0:=fz_ BK120 0;have hfz26_1:=fz_ BK120 1;have hfz26_2:=fz_ BK120 2;have hfz26_3:=fz_ BK120 3;have hfz26_4:=fz_ BK120 4))
        go_ret2;exact⟨E_,B_⟩
      ·rw[if_neg c13] at H;have c13b0:(t126==0)=false:=beq_eq_false_iff_ne.mpr c13;have c13b1:(t126 !=0)=true:=bne_iff_ne.mpr c13;simp only[Option.some.injEq,Prod.mk.injEq] at H;obtain⟨rfl,rfl⟩:=H;have hcz27_0:=cz_ BK120 0;have hcz27_1:=cz_ BK120 1;have hcz27_2:=cz_ BK120 2;have hcz27_3:=cz_ BK120 3;have hcz27_4:=cz_ BK120 4;have hfz27_0:=fz_ BK120 0;have hfz27_1:=fz_ BK120 1;have hfz27_2:=fz_ BK120 2;have hfz27_3:=fz_ BK120 3;have hfz27_4:=fz_ BK120 4
       go_wp2_with (first|(refine G_ 33 Tryz.func24 #[.string ((a0_2++a0_3)++a0_4)] ?_;refine(wave_Parse.calls kj1 ((a0_2++a0_3)++a0_4) t121 t122 t123 t124 t125 t126 _ A12.out).mono ?_;rintro e w28 ⟨rfl,hb⟩;refine⟨_,rfl,?_⟩;replace BK120:=Z_ (blk_below (K_ BK120) hb);replace HB:=Hb_ hb;(try clear hb))|((try (refine gate_guard (by rfl) ?_;dsimp only));refine X_ 5 #[.int .i64 0,.int .i64 0,.string (⟨#[]⟩:ByteArray),.string (⟨#[]⟩:ByteArray),.string (⟨#[]⟩:ByteArray)] 57 ?_;intro gb127 hg w29 hbox hb;have BK127:=Z_ (hbox);have GW127:=Z_ (G2_ hg:w.heap.size≤_);have GE127:=GW127;replace HB:=Hb_ hb;have NB120_127:=Z_ ((by rw[hg];exact Nat.ne_of_lt (blk_lt (g:=gb120) (o:= .cells #[.int .i64 a0_0,.int .i64 a0_1,.string a0_2,.string a0_3,.string a0_4] 57 (0,0)) (K_ BK120)):gb120≠gb127));have NB127_120:=Z_ ((by rw[hg];exact Nat.ne_of_gt (blk_lt (g:=gb120) (o:= .cells #[.int .i64 a0_0,.int .i64 a0_1,.string a0_2,.string a0_3,.string a0_4] 57 (0,0)) (K_ BK120)):gb127≠gb120));replace BK120:=Z_ (blk_below (K_ BK120) hb);clear hb hbox hg;have hnb30:=NB127_120.out;have hnc30:=NB120_127.out;have hcz31_0:=cz_ BK127 0;have hcz31_1:=cz_ BK127 1;have hcz31_2:=cz_ BK127 2;have hcz31_3:=cz_ BK127 3;have hcz31_4:=cz_ BK127 4;have hfz31_0:=fz_ BK127 0;have hfz31_1:=fz_ BK127 1;have hfz31_2:=fz_ BK127 2;have hfz31_3:=fz_ BK127 3;have hfz31_4:=fz_ BK127 4))
       go_ret2;exact⟨E_,B_⟩
     ·rw[if_neg c11] at H;exact absurd H (by simp)
    ·rw[if_neg c10] at H;exact absurd H (by simp)
end Go.Proofs.YtfghldonnffldaaGreatDoor.ZFiv
namespace Go.Proofs.YtfghldonnffldaaGreatDoor.ZFiv
open Go.RowKit TBase UOne VTwo XThr YFou YtfghldonnffldaaGreatDoorW.PrintWords YtfghldonnffldaaGreatDoorW.PrintLast YtfghldonnffldaaGreatDoorW.PrintMore
attribute [local go_sem] max2_int min2_int max_two min_two max_three min_three max_four min_four
end Go.Proofs.YtfghldonnffldaaGreatDoor.ZFiv
namespace Go.Proofs.YtfghldonnffldaaGreatDoor.QSix
open Go.RowKit TBase UOne VTwo XThr YFou ZFiv YtfghldonnffldaaGreatDoorW.PrintWords YtfghldonnffldaaGreatDoorW.PrintLast YtfghldonnffldaaGreatDoorW.PrintMore
attribute [local go_sem] max2_int min2_int max_two min_two max_three min_three max_four min_four
theorem info9:(Tryz.prog.info? 9).map (fun i=>(i.zero,i.size,i.bytes))=some (some (.string ⟨#[]⟩),1,16):=by kernel_rfl
mutual
def file_Encode.j0:Nat→Int→Bool→Int→Int→ByteArray→ByteArray→ByteArray→Option (ByteArray×Int)
 |0,_,_,_,_,_,_,_=>none
 |k+1,x1,x28,x108000,x108001,x108002,x108003,x108004=>if x28=true then(some ((⟨#[]⟩:ByteArray),2400)) else((pcm_Frame.f x108000 x108001).bind fun t108=>(if t108=0 then(none) else(file_Encode.l0 k x1 t108 0 x108000 x108001 x108002 x108003 x108004 x108000 x108001 x1 (wrap64 ((x108003.size:Int) / t108)) x108002 x108004 ([]:List ByteArray))))
def file_Encode.l0:Nat→Int→Int→Int→Int→Int→ByteArray→ByteArray→ByteArray→Int→Int→Int→Int→ByteArray→ByteArray→List ByteArray→Option (ByteArray×Int)
 |0,_,_,_,_,_,_,_,_,_,_,_,_,_,_,_=>none
 |k+1,x1,x8,x10,x108000,x108001,x108002,x108003,x108004,x110000,x110001,x110002,x110003,x110004,x110005,x110006=>if x10<(x108003.size:Int) then(if 0≤x10 then(if x10≤(mn (wrap64 (x10+(wrap64 (x1*x8)))) (x108003.size:Int)) then(if(mn (wrap64 (x10+(wrap64 (x1*x8)))) (x108003.size:Int))≤(x108003.size:Int) then((segment_Put.f k (x108003.extract (x10:Int).toNat ((mn (wrap64 (x10+(wrap64 (x1*x8)))) (x108003.size:Int)):Int).toNat) x108000 x108001).bind fun bt110=>(if x110006.length<8796093022208 then(file_Encode.l0 k x1 x8 (wrap64 (x10+(wrap64 (x1*x8)))) x108000 x108001 x108002 x108003 x108004 x110000 x110001 x110002 x110003 x110004 x110005 (x110006++ [bt110.1])) else(none))) else(none)) else(none)) else(none)) else((stream_Put.f x110000 x110001 x110002 x110003 x110004 x110005 x110006).bind fun bt115=>(if bt115.2=0 then(some (bt115.1,0)) else(some ((⟨#[]⟩:ByteArray),2400))))
end
def file_Encode.f(k:Nat)(a0:ByteArray)(a1:Int):Option (ByteArray×Int):=(wave_Parse.f k a0).bind fun bt101=>(if bt101.2.2.2.2.2=0 then(if a1<1 then(file_Encode.j0 k a1 true bt101.1 bt101.2.1 bt101.2.2.1 bt101.2.2.2.1 bt101.2.2.2.2.1) else(file_Encode.j0 k a1 (decide (a1>64)) bt101.1 bt101.2.1 bt101.2.2.1 bt101.2.2.2.1 bt101.2.2.2.2.1)) else(file_Encode.j0 k a1 true bt101.1 bt101.2.1 bt101.2.2.1 bt101.2.2.2.1 bt101.2.2.2.2.1))
def file_Encode.T5:Bool×List (List Nat×List Nat):=(true,[([],[]),([0],[0]),([],[]),([],[]),([3],[3]),([4],[4]),([],[]),([5,6],[5,6]),([],[]),([8],[8]),([],[]),([10],[10]),([1,2,7,9,11],[1,2,7,9,11]),([],[]),([13,12,0,1,2,3,4,5,6,7,8,9,10,11,12,13],[12,13])])
def file_Encode.B5:List Nat:= [0,1,0,0,8,24,0,120,0,256,0,1024,4095,0,16383]
theorem file_Encode.tab5:rtab .any (opsOf Tryz.f10 5)=file_Encode.T5:=by kernel_rfl
theorem file_Encode.bits5:waitsOk file_Encode.T5.2 file_Encode.B5=true:=by kernel_rfl
def file_Encode.T9:Bool×List (List Nat×List Nat):=(true,[([],[]),([0],[0]),([],[]),([],[]),([],[]),([],[]),([4,5],[4,5]),([3,6],[3,6]),([],[]),([8],[8]),([9],[9]),([7,10],[7,10]),([1,2,11],[1,2,11]),([],[]),([13],[13]),([12,14],[12,14]),([15],[15]),([16],[16]),([16],[16]),([17,15,0,1,2,3,4,5,6,7,8,9,10,11,12,13,14,15,16,17],[17]),([18,19,0,1,2,3,4,5,6,7,8,9,10,11,12,13,14,15,16,17,18,19],[18])])
def file_Encode.B9:List Nat:= [0,1,0,0,0,0,48,120,0,256,768,2040,4095,0,8192,32767,65535,131071,131071,262143,1048575]
theorem file_Encode.tab9:rtab .any (opsOf Tryz.f10 9)=file_Encode.T9:=by kernel_rfl
theorem file_Encode.bits9:waitsOk file_Encode.T9.2 file_Encode.B9=true:=by kernel_rfl
theorem file_Encode.calls(k:Nat)(a0:ByteArray)(a1:Int)(r1:ByteArray)(r2:Int)(w:World)(h:file_Encode.f k a0 a1=some (r1,r2))(hT:Tabs w:=by exact Tabs.below hT B_):
  Calls Tryz.prog 10 #[.string a0,.int .i64 a1] w fun e w'=>e= .returned (.tuple #[.string r1,.int .i64 r2])∧Below w.heap.size w w':=by
 have hu57:=Tryz.underlying57;have hu23:=Tryz.underlying23;have hu49:=Tryz.underlying49;have HB:=Z_ (Below.refl w.heap.size w);have H:((wave_Parse.f k a0).bind fun bt101=>(if bt101.2.2.2.2.2=0 then(if a1<1 then(file_Encode.j0 k a1 true bt101.1 bt101.2.1 bt101.2.2.1 bt101.2.2.2.1 bt101.2.2.2.2.1) else(file_Encode.j0 k a1 (decide (a1>64)) bt101.1 bt101.2.1 bt101.2.2.1 bt101.2.2.2.1 bt101.2.2.2.2.1)) else(file_Encode.j0 k a1 true bt101.1 bt101.2.1 bt101.2.2.1 bt101.2.2.2.1 bt101.2.2.2.2.1)))=some (r1,r2):=h;clear h;replace H:=Ob_ H;obtain⟨⟨t101,t102,t103,t104,t105,t106⟩,A30,H⟩:=H;(try dsimp only at H);have A3:=Z_ A30;clear A30;have HC4:=Z_ H;clear H
 go_enter Tryz.func10,Tryz.ntmps10
 go_upto_region 2 with (first|(refine G_ 16 Tryz.func24 #[.string a0] ?_;refine(wave_Parse.calls k a0 t101 t102 t103 t104 t105 t106 _ A3.out).mono ?_;rintro e w5 ⟨rfl,hb⟩;refine⟨_,rfl,?_⟩;replace HB:=Hb_ hb;(try clear hb))|(refine X_ 6 #[.int .i64 0,.int .i64 0,.string (⟨#[]⟩:ByteArray),.string (⟨#[]⟩:ByteArray),.string (⟨#[]⟩:ByteArray)] 57 ?_;intro gb107 hg w6 hbox hb;have BK107:=Z_ (hbox);have GW107:=Z_ (G2_ hg:w.heap.size≤_);have GE107:=GW107;replace HB:=Hb_ hb;clear hb hbox hg;have hcz7_0:=cz_ BK107 0;have hcz7_1:=cz_ BK107 1;have hcz7_2:=cz_ BK107 2;have hcz7_3:=cz_ BK107 3;have hcz7_4:=cz_ BK107 4;have hfz7_0:=fz_ BK107 0;have hfz7_1:=fz_ BK107 1;have hfz7_2:=fz_ BK107 2;have hfz7_3:=fz_ BK107 3;have hfz7_4:=fz_ BK107 4))
 (try simp only[Act.put,List.setIfInBounds_toArray,List.set_cons_zero,List.set_cons_succ])
 go_cut [28] (fun v28 wc=>∃(kq:Nat) (x28_3:Bool),v28= .bool x28_3∧Aside0 (file_Encode.j0 kq a1 x28_3 t101 t102 t103 t104 t105=some (r1,r2))∧Aside0 (kq≤k)∧Aside0 (wc.heap[gb107]?=some (.cells #[.int .i64 t101,.int .i64 t102,.string t103,.string t104,.string t105] 57 (0,0)))∧Aside0 (Below w.heap.size w wc))
 case first=>
  have H:=HC4.out;clear HC4
  by_cases c8:t106=0
  ·rw[if_pos c8] at H;have c8b0:(t106==0)=true:=beq_iff_eq.mpr c8;have c8b1:(t106 !=0)=false:=bne_eq_false_iff_eq.mpr c8;clear c8;(first|rw[c8b0]|(simp only[i64_w,i32_w];rw[c8b0])|skip)
   by_cases c9:a1<1
   ·rw[if_pos c9] at H;have c9b0:=dt_ c9;clear c9;have H':=Z_ H;clear H;go_wp2;go_meet
    case rel=>exact⟨_,(true),(E1_),H',⟨L_⟩,⟨(blk_put (cs:= #[.int .i64 t101,.int .i64 t102,.string t103,.string t104,.string (⟨#[]⟩:ByteArray)]) (blk_put (cs:= #[.int .i64 t101,.int .i64 t102,.string t103,.string (⟨#[]⟩:ByteArray),.string (⟨#[]⟩:ByteArray)]) (blk_put (cs:= #[.int .i64 t101,.int .i64 t102,.string (⟨#[]⟩:ByteArray),.string (⟨#[]⟩:ByteArray),.string (⟨#[]⟩:ByteArray)]) (blk_put (cs:= #[.int .i64 t101,.int .i64 0,.string (⟨#[]⟩:ByteArray),.string (⟨#[]⟩:ByteArray),.string (⟨#[]⟩:ByteArray)]) (blk_put (cs:= #[.int .i64 0,.int .i64 0,.string (⟨#[]⟩:ByteArray),.string (⟨#[]⟩:ByteArray),.string (⟨#[]⟩:ByteArray)]) (K_ BK107) 0 _ rfl) 1 _ rfl) 2 _ rfl) 3 _ rfl) 4 _ rfl)⟩,⟨B_⟩⟩
   ·rw[if_neg c9] at H;have c9b0:=df_ c9;clear c9;have H':=Z_ H;clear H;go_wp2;go_meet
    case rel=>exact⟨_,(decide (a1>64)),(E1_),H',⟨L_⟩,⟨(blk_put (cs:= #[.int .i64 t101,.int .i64 t102,.string t103,.string t104,.string (⟨#[]⟩:ByteArray)]) (blk_put (cs:= #[.int .i64 t101,.int .i64 t102,.string t103,.string (⟨#[]⟩:ByteArray),.string (⟨#[]⟩:ByteArray)]) (blk_put (cs:= #[.int .i64 t101,.int .i64 t102,.string (⟨#[]⟩:ByteArray),.string (⟨#[]⟩:ByteArray),.string (⟨#[]⟩:ByteArray)]) (blk_put (cs:= #[.int .i64 t101,.int .i64 0,.string (⟨#[]⟩:ByteArray),.string (⟨#[]⟩:ByteArray),.string (⟨#[]⟩:ByteArray)]) (blk_put (cs:= #[.int .i64 0,.int .i64 0,.string (⟨#[]⟩:ByteArray),.string (⟨#[]⟩:ByteArray),.string (⟨#[]⟩:ByteArray)]) (K_ BK107) 0 _ rfl) 1 _ rfl) 2 _ rfl) 3 _ rfl) 4 _ rfl)⟩,⟨B_⟩⟩
  ·rw[if_neg c8] at H;have c8b0:(t106==0)=false:=beq_eq_false_iff_ne.mpr c8;have c8b1:(t106 !=0)=true:=bne_iff_ne.mpr c8;(first|rw[c8b0]|(simp only[i64_w,i32_w];rw[c8b0])|skip);have H':=Z_ H;clear H;go_wp2;go_meet
   case rel=>exact⟨_,(true),(E1_),H',⟨L_⟩,⟨(blk_put (cs:= #[.int .i64 t101,.int .i64 t102,.string t103,.string t104,.string (⟨#[]⟩:ByteArray)]) (blk_put (cs:= #[.int .i64 t101,.int .i64 t102,.string t103,.string (⟨#[]⟩:ByteArray),.string (⟨#[]⟩:ByteArray)]) (blk_put (cs:= #[.int .i64 t101,.int .i64 t102,.string (⟨#[]⟩:ByteArray),.string (⟨#[]⟩:ByteArray),.string (⟨#[]⟩:ByteArray)]) (blk_put (cs:= #[.int .i64 t101,.int .i64 0,.string (⟨#[]⟩:ByteArray),.string (⟨#[]⟩:ByteArray),.string (⟨#[]⟩:ByteArray)]) (blk_put (cs:= #[.int .i64 0,.int .i64 0,.string (⟨#[]⟩:ByteArray),.string (⟨#[]⟩:ByteArray),.string (⟨#[]⟩:ByteArray)]) (K_ BK107) 0 _ rfl) 1 _ rfl) 2 _ rfl) 3 _ rfl) 4 _ rfl)⟩,⟨B_⟩⟩
 case rest=>
  clear HC4
  try clear c1
  try clear c2
  try clear p2
  try clear c8
  try clear c8b0
  try clear c8b1
  try clear c9
  try clear c9b0
  try clear hcz7_0
  try clear hcz7_1
  try clear hcz7_2
  try clear hcz7_3
  try clear hcz7_4
  try clear hfz7_0
  try clear hfz7_1
  try clear hfz7_2
  try clear hfz7_3
  try clear hfz7_4
  obtain⟨kq,x28_3,rfl,HA,HJ3,BK107,HB⟩:=hcut
  cases kq with
  |zero=>exact absurd HA.out (by simp[file_Encode.j0])
  |succ kj3=>
   have H:=HA.out;clear HA;simp only[file_Encode.j0] at H
   by_cases c10:x28_3=true
   ·subst c10;rw[if_pos rfl] at H;simp only[Option.some.injEq,Prod.mk.injEq] at H;obtain⟨rfl,rfl⟩:=H;go_wp2;go_ret2;exact⟨E_,B_⟩
   ·replace c10:=Bool.eq_false_iff.mpr c10;subst c10;rw[if_neg (show ¬(false=true) by decide)] at H;replace H:=Ob_ H;obtain⟨t108,A110,H⟩:=H;(try dsimp only at H);have A11:=Z_ A110;clear A110
    by_cases c12:t108=0
    ·rw[if_pos c12] at H;exact absurd H (by simp)
    ·rw[if_neg c12] at H;have c12b0:(t108==0)=false:=beq_eq_false_iff_ne.mpr c12;have c12b1:(t108 !=0)=true:=bne_iff_ne.mpr c12;have H':=Z_ H;clear H;have hcz13_0:=cz_ BK107 0;have hcz13_1:=cz_ BK107 1;have hcz13_2:=cz_ BK107 2;have hcz13_3:=cz_ BK107 3;have hcz13_4:=cz_ BK107 4;have hfz13_0:=fz_ BK107 0;have hfz13_1:=fz_ BK107 1;have hfz13_2:=fz_ BK107 2;have hfz13_3:=fz_ BK107 3;have hfz13_4:=fz_ BK107 4
     try go_wp2_with (first|(refine G_ 31 Tryz.func29 #[.agg #[.int .i64 t101,.int .i64 t102]] ?_;refine(pcm_Frame.calls t101 t102 t108 _ A11.out).mono ?_;rintro e w14 ⟨rfl,hb⟩;refine⟨_,rfl,?_⟩;replace BK107:=Z_ (blk_below (K_ BK107) hb);replace HB:=Hb_ hb;(try clear hb)))
     replace BK107:=Z_ (blk_drew BK107.out);replace HB:=Z_ (below_drew1 HB.out);refine start_ (n:=15) (S:=fun w'=>w'.cell? ⟨gb107,0,none⟩=some (.int .i64 t101)∧w'.cell? ⟨gb107,1,none⟩=some (.int .i64 t102)∧w'.cell? ⟨gb107,2,none⟩=some (.string t103)∧w'.cell? ⟨gb107,3,none⟩=some (.string t104)∧w'.cell? ⟨gb107,4,none⟩=some (.string t105)) (ds:= []) #[false,false,false,false,false,false,false,false,false,false,false,false,false,false,false] (by kernel_rfl) rfl rfl ⟨(blk_cell BK107.out 0).trans rfl,(blk_cell BK107.out 1).trans rfl,(blk_cell BK107.out 2).trans rfl,(blk_cell BK107.out 3).trans rfl,(blk_cell BK107.out 4).trans rfl⟩ (fun hHeld=>?_);refine with_tabW file_Encode.tab5 file_Encode.bits5 (fun HT_ HW_=>?_);generalize w14.drew=w15 at BK107 HB hHeld ⊢;refine P_ 0 32 ?_;refine P_ 2 34 ?_;refine P_ 3 35 ?_;refine P_ 6 38 ?_;refine P_ 8 40 ?_;refine P_ 10 42 ?_;refine T_ 1 33 (y:=by rintro w' ⟨s0,s1,s2,s3,s4⟩;go_simp;with_reducible rfl) (h:=?_);refine T_ 4 36 (y:=by rintro w' ⟨s0,s1,s2,s3,s4⟩;go_simp;with_reducible rfl) (h:=?_);refine P_ 5 37 ?_;refine P_ 7 39 ?_;refine T_ 9 41 (y:=by rintro w' ⟨s0,s1,s2,s3,s4⟩;go_simp;with_reducible rfl) (h:=?_);refine T_ 11 43 (y:=by rintro w' ⟨s0,s1,s2,s3,s4⟩;go_simp;with_reducible rfl) (h:=?_);refine P_ 12 44 ?_;refine O_ 13 9 fun K hK=>?_
     refine box_step ?hg (N:=9) ?hd (cs:= #[.int .i64 0,.int .i64 0,.int .i64 0,.int .i64 0,.string (⟨#[]⟩:ByteArray),.string (⟨#[]⟩:ByteArray),.slice none 0 0]) (t:=49) ?hr ?_;(case hd=>rfl);(case hg=>rfl);(case hr=>first|(go_simp;done)|(go_simp;rfl));intro gb109 hg w16 hbox hb;have BK109:=Z_ (hbox);have GW109:=Z_ ((G2_ hg:w.heap.size≤_));have GE109:=Z_ ((G2_ hg:w.heap.size≤_));replace HB:=Hb_ hb;have NB107_109:=Z_ ((by rw[hg];exact Nat.ne_of_lt (blk_lt (g:=gb107) (o:= .cells #[.int .i64 t101,.int .i64 t102,.string t103,.string t104,.string t105] 57 (0,0)) (K_ BK107)):gb107≠gb109));have NB109_107:=Z_ ((by rw[hg];exact Nat.ne_of_gt (blk_lt (g:=gb107) (o:= .cells #[.int .i64 t101,.int .i64 t102,.string t103,.string t104,.string t105] 57 (0,0)) (K_ BK107)):gb109≠gb107));replace BK107:=Z_ (blk_below (K_ BK107) hb);clear hb hbox hg;refine hK.out _ _ ⟨(blk_cell BK107.out 0).trans rfl,(blk_cell BK107.out 1).trans rfl,(blk_cell BK107.out 2).trans rfl,(blk_cell BK107.out 3).trans rfl,(blk_cell BK107.out 4).trans rfl⟩ (fun hHeld=>?_);clear hK K;refine Nm_ 9 ?_;refine one_ (i:=14) (N:=none) #[true,true,true,true,true,true,true,true,true,true,true,true,true,true,true] rfl rfl (one_of HT_.out (by kernel_rfl)) (by decide) (fun K hK=>?_);have hs17:w16.cell? ⟨gb109,0,none⟩=some (.int .i64 0):=(blk_cell BK109.out 0).trans rfl;have hfs17:=blk_frozen BK109.out 0;have hns17_0:=NB107_109.out;have hms17_0:=NB109_107.out;have hs18:w16.cell? ⟨gb109,1,none⟩=some (.int .i64 0):=(blk_cell BK109.out 1).trans rfl;have hfs18:=blk_frozen BK109.out 1;have hns18_0:=NB107_109.out;have hms18_0:=NB109_107.out;have hs19:w16.cell? ⟨gb109,2,none⟩=some (.int .i64 0):=(blk_cell BK109.out 2).trans rfl;have hfs19:=blk_frozen BK109.out 2;have hns19_0:=NB107_109.out;have hms19_0:=NB109_107.out;have hs20:w16.cell? ⟨gb109,3,none⟩=some (.int .i64 0):=(blk_cell BK109.out 3).trans rfl;have hfs20:=blk_frozen BK109.out 3;have hns20_0:=NB107_109.out;have hms20_0:=NB109_107.out;have hs21:w16.cell? ⟨gb109,4,none⟩=some (.string (⟨#[]⟩:ByteArray)):=(blk_cell BK109.out 4).trans rfl;have hfs21:=blk_frozen BK109.out 4;have hns21_0:=NB107_109.out;have hms21_0:=NB109_107.out;have hs22:w16.cell? ⟨gb109,5,none⟩=some (.string (⟨#[]⟩:ByteArray)):=(blk_cell BK109.out 5).trans rfl;have hfs22:=blk_frozen BK109.out 5;have hns22_0:=NB107_109.out;have hms22_0:=NB109_107.out;have hs23:w16.cell? ⟨gb109,6,none⟩=some (.slice none 0 0):=(blk_cell BK109.out 6).trans rfl;have hfs23:=blk_frozen BK109.out 6;have hns23_0:=NB107_109.out;have hms23_0:=NB109_107.out;refine skip_ (w1:=?_) (by rfl) rfl ?_ ?_;rotate_left
     ·go_simp
      rfl
     refine hK.out _ _ ⟨((cell_far (p:=⟨gb109,_,none⟩) NB107_109.out _).trans (((cell_far (p:=⟨gb109,_,none⟩) NB107_109.out _).trans (((cell_far (p:=⟨gb109,_,none⟩) NB107_109.out _).trans (((cell_far (p:=⟨gb109,_,none⟩) NB107_109.out _).trans (((cell_far (p:=⟨gb109,_,none⟩) NB107_109.out _).trans (((cell_far (p:=⟨gb109,_,none⟩) NB107_109.out _).trans (((cell_far (p:=⟨gb109,_,none⟩) NB107_109.out _).trans (hHeld.1)))))))))))))),((cell_far (p:=⟨gb109,_,none⟩) NB107_109.out _).trans (((cell_far (p:=⟨gb109,_,none⟩) NB107_109.out _).trans (((cell_far (p:=⟨gb109,_,none⟩) NB107_109.out _).trans (((cell_far (p:=⟨gb109,_,none⟩) NB107_109.out _).trans (((cell_far (p:=⟨gb109,_,none⟩) NB107_109.out _).trans (((cell_far (p:=⟨gb109,_,none⟩) NB107_109.out _).trans (((cell_far (p:=⟨gb109,_,none⟩) NB107_109.out _).trans (hHeld.2.1)))))))))))))),((cell_far (p:=⟨gb109,_,none⟩) NB107_109.out _).trans (((cell_far (p:=⟨gb109,_,none⟩) NB107_109.out _).trans (((cell_far (p:=⟨gb109,_,none⟩) NB107_109.out _).trans (((cell_far (p:=⟨gb109,_,none⟩) NB107_109.out _).trans (((cell_far (p:=⟨gb109,_,none⟩) NB107_109.out _).trans (((cell_far (p:=⟨gb109,_,none⟩) NB107_109.out _).trans (((cell_far (p:=⟨gb109,_,none⟩) NB107_109.out _).trans (hHeld.2.2.1)))))))))))))),((cell_far (p:=⟨gb109,_,none⟩) NB107_109.out _).trans (((cell_far (p:=⟨gb109,_,none⟩) NB107_109.out _).trans (((cell_far (p:=⟨gb109,_,none⟩) NB107_109.out _).trans (((cell_far (p:=⟨gb109,_,none⟩) NB107_109.out _).trans (((cell_far (p:=⟨gb109,_,none⟩) NB107_109.out _).trans (((cell_far (p:=⟨gb109,_,none⟩) NB107_109.out _).trans (((cell_far (p:=⟨gb109,_,none⟩) NB107_109.out _).trans (hHeld.2.2.2.1)))))))))))))),((cell_far (p:=⟨gb109,_,none⟩) NB107_109.out _).trans (((cell_far (p:=⟨gb109,_,none⟩) NB107_109.out _).trans (((cell_far (p:=⟨gb109,_,none⟩) NB107_109.out _).trans (((cell_far (p:=⟨gb109,_,none⟩) NB107_109.out _).trans (((cell_far (p:=⟨gb109,_,none⟩) NB107_109.out _).trans (((cell_far (p:=⟨gb109,_,none⟩) NB107_109.out _).trans (((cell_far (p:=⟨gb109,_,none⟩) NB107_109.out _).trans (hHeld.2.2.2.2))))))))))))))⟩ (fun hHeld=>?_);clear hK K;refine done_ (done_of HT_.out (by kernel_rfl)) ?_
     try go_wp2
     go_loopg [10] kj3 (fun kq v10 w'=>∃(x10_2:Int) (x110006_2:List ByteArray) (u110006:Value),v10= .int .i64 x10_2∧Aside0 (file_Encode.l0 kq a1 t108 x10_2 t101 t102 t103 t104 t105 t101 t102 a1 (wrap64 ((t104.size:Int) / t108)) t103 t105 x110006_2=some (r1,r2))∧Aside0 (kq≤kj3)∧Aside0 (Kd.R Kd.string 9 w' w.heap.size (fun _=>True) u110006 x110006_2)∧Aside0 (w'.heap[gb107]?=some (.cells #[.int .i64 t101,.int .i64 t102,.string t103,.string t104,.string t105] 57 (0,0)))∧Aside0 (w'.heap[gb109]?=some (.cells #[.int .i64 t101,.int .i64 t102,.int .i64 a1,.int .i64 (wrap64 ((t104.size:Int) / t108)),.string t103,.string t105,u110006] 49 (0,0)))∧Aside0 (Below w.heap.size w w'))
     case atStart=>exact⟨(0),(([]:List ByteArray)),(.slice none 0 0),(E1_),H',⟨Nat.le_refl _⟩,⟨by first|exact Kd.R_nil _ _ _ _ _|exact Kd.N_nil _ _ _ _ _|exact Kd.V_nil _ _ _ _ _|exact Kd.Q_nil _ _ _ _ _|exact Kd.S_nil _ _ _ _ _⟩,⟨(blk_far (blk_far (blk_far (blk_far (blk_far (blk_far (blk_far (K_ BK107) NB107_109.out _) NB107_109.out _) NB107_109.out _) NB107_109.out _) NB107_109.out _) NB107_109.out _) NB107_109.out _)⟩,⟨(blk_put (cs:= #[.int .i64 t101,.int .i64 t102,.int .i64 a1,.int .i64 (wrap64 ((t104.size:Int) / t108)),.string t103,.string t105,.slice none 0 0]) (blk_put (cs:= #[.int .i64 t101,.int .i64 t102,.int .i64 a1,.int .i64 (wrap64 ((t104.size:Int) / t108)),.string t103,.string (⟨#[]⟩:ByteArray),.slice none 0 0]) (blk_put (cs:= #[.int .i64 t101,.int .i64 t102,.int .i64 a1,.int .i64 (wrap64 ((t104.size:Int) / t108)),.string (⟨#[]⟩:ByteArray),.string (⟨#[]⟩:ByteArray),.slice none 0 0]) (blk_put (cs:= #[.int .i64 t101,.int .i64 t102,.int .i64 a1,.int .i64 0,.string (⟨#[]⟩:ByteArray),.string (⟨#[]⟩:ByteArray),.slice none 0 0]) (blk_put (cs:= #[.int .i64 t101,.int .i64 t102,.int .i64 0,.int .i64 0,.string (⟨#[]⟩:ByteArray),.string (⟨#[]⟩:ByteArray),.slice none 0 0]) (blk_put (cs:= #[.int .i64 t101,.int .i64 0,.int .i64 0,.int .i64 0,.string (⟨#[]⟩:ByteArray),.string (⟨#[]⟩:ByteArray),.slice none 0 0]) (blk_put (cs:= #[.int .i64 0,.int .i64 0,.int .i64 0,.int .i64 0,.string (⟨#[]⟩:ByteArray),.string (⟨#[]⟩:ByteArray),.slice none 0 0]) (K_ BK109) 0 _ rfl) 1 _ rfl) 2 _ rfl) 3 _ rfl) 4 _ rfl) 5 _ rfl) 6 _ rfl)⟩,⟨B_⟩⟩
     case round=>
      clear H'
      try clear c1
      try clear c2
      try clear p2
      try clear p6
      try clear c8
      try clear c8b0
      try clear c8b1
      try clear c9
      try clear c9b0
      try clear c10
      try clear c12
      try clear c12b0
      try clear c12b1
      try clear hcz13_0
      try clear hcz13_1
      try clear hcz13_2
      try clear hcz13_3
      try clear hcz13_4
      try clear hcz7_0
      try clear hcz7_1
      try clear hcz7_2
      try clear hcz7_3
      try clear hcz7_4
      try clear hfz13_0
      try clear hfz13_1
      try clear hfz13_2
      try clear hfz13_3
      try clear hfz13_4
      try clear hfz7_0
      try clear hfz7_1
      try clear hfz7_2
      try clear hfz7_3
      try clear hfz7_4
      try clear p2
      obtain⟨x10_2,x110006_2,u110006,rfl,HA,HK2,HO_110006,BK107,BK109,HB⟩:=hrel
      cases gk with
      |zero=>exact absurd HA.out (by simp[file_Encode.l0])
      |succ k2=>
       have H:=HA.out;clear HA;simp only[file_Encode.l0] at H
       by_cases c24:x10_2<(t104.size:Int)
       ·rw[if_pos c24] at H;have c24b0:=dt_ c24;clear c24;obtain⟨ji25,hji25⟩:∃j_:Int,(mn (wrap64 (x10_2+(wrap64 (a1*t108)))) (t104.size:Int))=j_:=⟨_,rfl⟩;(first|rw[hji25] at H|simp only[hji25] at H);have hji25_:(if(t104.size:Int)<(wrap64 (x10_2+(wrap64 (a1*t108)))) then(t104.size:Int) else(wrap64 (x10_2+(wrap64 (a1*t108)))))=ji25:=hji25
        by_cases c26:0≤x10_2
        ·rw[if_pos c26] at H;have c26b0:=eq_true c26;have c26b1:=dt_ c26;clear c26
         by_cases c27:x10_2≤(ji25)
         ·rw[if_pos c27] at H;have c27b0:=eq_true c27;have c27b1:=dt_ c27;clear c27
          by_cases c28:(ji25)≤(t104.size:Int)
          ·rw[if_pos c28] at H;have c28b0:=eq_true c28;have c28b1:=dt_ c28;clear c28;replace H:=Ob_ H;obtain⟨⟨t110,t111⟩,A290,H⟩:=H;(try dsimp only at H);have A29:=Z_ A290;clear A290
           by_cases c30:x110006_2.length<8796093022208
           ·rw[if_pos c30] at H;have LMc30:=Z_ c30;clear c30;obtain⟨y112,hy112⟩:∃y_:List ByteArray,y_=(x110006_2++ [t110]):=⟨_,rfl⟩;replace H:(file_Encode.l0 k2 a1 t108 (wrap64 (x10_2+(wrap64 (a1*t108)))) t101 t102 t103 t104 t105 t101 t102 a1 (wrap64 ((t104.size:Int) / t108)) t103 t105 y112)=some (r1,r2):=by first|(rw[hy112];with_reducible exact H)|(have H2_:=(bs_ _ _).symm.trans H;rw[hy112];with_reducible exact H2_)|(have H2_:=(bs_ _ _).symm.trans H;with_reducible exact H2_)|with_reducible exact H|(rw[hy112];exact H)|exact H
            have Ny112:=Z_ hy112;clear hy112;have H':=Z_ H;clear H;have hnb31:=NB107_109.out;have hnc31:=NB109_107.out;have hcz32_0:=cz_ BK107 0;have hcz32_1:=cz_ BK107 1;have hcz32_2:=cz_ BK107 2;have hcz32_3:=cz_ BK107 3;have hcz32_4:=cz_ BK107 4;have hfz32_0:=fz_ BK107 0;have hfz32_1:=fz_ BK107 1;have hfz32_2:=fz_ BK107 2;have hfz32_3:=fz_ BK107 3;have hfz32_4:=fz_ BK107 4
            try go_wp2
            replace HO_110006:=Z_ (Kd.R_drew HO_110006.out);replace BK107:=Z_ (blk_drew BK107.out);replace BK109:=Z_ (blk_drew BK109.out);replace HB:=Z_ (below_drew1 HB.out);refine start_ (n:=21) (S:=fun w'=>w'.cell? ⟨gb107,0,none⟩=some (.int .i64 t101)∧w'.cell? ⟨gb107,1,none⟩=some (.int .i64 t102)∧w'.cell? ⟨gb107,2,none⟩=some (.string t103)∧w'.cell? ⟨gb107,3,none⟩=some (.string t104)∧w'.cell? ⟨gb107,4,none⟩=some (.string t105)) (ds:= []) #[false,false,false,false,false,false,false,false,false,false,false,false,false,false,false,false,false,false,false,false,false] (by kernel_rfl) rfl rfl ⟨(blk_cell BK107.out 0).trans rfl,(blk_cell BK107.out 1).trans rfl,(blk_cell BK107.out 2).trans rfl,(blk_cell BK107.out 3).trans rfl,(blk_cell BK107.out 4).trans rfl⟩ (fun hHeld=>?_);refine with_tabW file_Encode.tab9 file_Encode.bits9 (fun HT_ HW_=>?_);generalize wr.drew=w33 at HO_110006 BK107 BK109 HB hHeld ⊢;refine P_ 0 56 ?_;refine P_ 2 58 ?_;refine P_ 3 59 ?_;refine P_ 4 60 ?_;refine P_ 5 61 ?_;refine P_ 6 62 ?_;refine P_ 7 63 ?_;refine P_ 8 64 ?_;refine P_ 13 69 ?_;refine T_ 1 57 (y:=by rintro w' ⟨s0,s1,s2,s3,s4⟩;go_simp;with_reducible rfl) (h:=?_);refine T_ 9 65 (y:=by rintro w' ⟨s0,s1,s2,s3,s4⟩;go_simp;with_reducible rfl) (h:=?_);refine P_ 10 66 ?_;refine P_ 11 67 ?_;refine P_ 12 68 ?_;refine T_ 14 70 (y:=by rintro w' ⟨s0,s1,s2,s3,s4⟩;go_simp;with_reducible rfl) (h:=?_);refine O_ 15 71 fun K hK=>?_
            refine goes_ Tryz.func21 (by kernel_rfl) rfl #[.string (t104.extract (x10_2:Int).toNat ((ji25):Int).toNat),.agg #[.int .i64 t101,.int .i64 t102]] (by rfl) rfl rfl (by(try simp only[List.map_toArray,List.map_cons,List.map_nil]);first|done|(simp only[hji25];rfl)|rfl|(simp only[List.length_drop,List.length_take];rfl)) ?_
            with_reducible refine(segment_Put.calls k2 (t104.extract (x10_2:Int).toNat ((ji25):Int).toNat) t101 t102 t110 t111 _ A29.out).mono ?_
            rintro e w34 ⟨rfl,hb⟩;refine⟨_,rfl,?_⟩;replace HO_110006:=Z_ (Kd.R_below (R_ HO_110006) hb);replace BK107:=Z_ (blk_below (K_ BK107) hb);replace BK109:=Z_ (blk_below (K_ BK109) hb);replace HB:=Hb_ hb;(try clear hb);(try clear hb2);(try clear hk);(try clear hi);refine hK.out _ _ ⟨(blk_cell BK107.out 0).trans rfl,(blk_cell BK107.out 1).trans rfl,(blk_cell BK107.out 2).trans rfl,(blk_cell BK107.out 3).trans rfl,(blk_cell BK107.out 4).trans rfl⟩ (fun hHeld=>?_);clear hK K;refine Nm_ 71 ?_;refine P_ 16 55 ?_;refine P_ 17 72 ?_;refine P_ 18 73 ?_;refine P_ 19 11 ?_;refine P_ 20 12 ?_;refine done_ (done_of HT_.out (by kernel_rfl)) ?_;have hcz35_0:=cz_ BK109 0;have hcz35_1:=cz_ BK109 1;have hcz35_2:=cz_ BK109 2;have hcz35_3:=cz_ BK109 3;have hcz35_4:=cz_ BK109 4;have hcz35_5:=cz_ BK109 5;have hcz35_6:=cz_ BK109 6;have hfz35_0:=fz_ BK109 0;have hfz35_1:=fz_ BK109 1;have hfz35_2:=fz_ BK109 2;have hfz35_3:=fz_ BK109 3;have hfz35_4:=fz_ BK109 4;have hfz35_5:=fz_ BK109 5;have hfz35_6:=fz_ BK109 6
            try go_wp2_with (first|((with_reducible refine gate_builtin (b:= .append) (xs:= #[.tmp 75,.tmp 77]) rfl ?_);at_builtin;refine Kd.R_append Kd.string (w0:=w) w.heap.size rfl (.tmp 75) (.tmp 77) 47 9 (.string ⟨#[]⟩) 16 rfl Tryz.underlying47 info9 rfl (by decide) (by omega) u110006 x110006_2 t110 [.string t110] (fun _=>True) (fun _=>False) rfl rfl ?aP (fun _ hk=>hk.elim) ?aF ?aO ?aB ?aS ?aL ?_;(case aP=>exact rfl);(case aB=>exact B_);(case aF=>exact(fun _ _=>trivial));(case aO=>exact(R_ HO_110006));(case aS=>exact(below_size B_));(case aL=>have:=LMc30.out;omega);intro v113 w36 ho hb hg hat;rw[←Ny112.out] at ho;replace BK107:=Z_ (blk_grown (g:=gb107) (o:= .cells #[.int .i64 t101,.int .i64 t102,.string t103,.string t104,.string t105] 57 (0,0)) (K_ BK107) hg (Kd.R_ne HO_110006.out BK107.out (by decide)));replace BK109:=Z_ (blk_grown (g:=gb109) (o:= .cells #[.int .i64 t101,.int .i64 t102,.int .i64 a1,.int .i64 (wrap64 ((t104.size:Int) / t108)),.string t103,.string t105,u110006] 49 (0,0)) (K_ BK109) hg (Kd.R_ne HO_110006.out BK109.out (by decide)));replace HB:=Z_ (hb);have HO114:=Z_ (ho);clear HO_110006;clear ho hb hg hat;obtain⟨Ao37,co37,eo37⟩:=Kd.R_slice HO114.out;subst eo37;have hcz38_0:=cz_ BK109 0;have hcz38_1:=cz_ BK109 1;have hcz38_2:=cz_ BK109 2;have hcz38_3:=cz_ BK109 3;have hcz38_4:=cz_ BK109 4;have hcz38_5:=cz_ BK109 5;have hcz38_6:=cz_ BK109 6;have hfz38_0:=fz_ BK109 0;have hfz38_1:=fz_ BK109 1;have hfz38_2:=fz_ BK109 2;have hfz38_3:=fz_ BK109 3;have hfz38_4:=fz_ BK109 4;have hfz38_5:=fz_ BK109 5;have hfz38_6:=fz_ BK109 6))
            go_roundg k2
            case measure=>have:=HJ3.out;have:=HK2.out;omega
            case rel=>exact⟨(wrap64 (x10_2+(wrap64 (a1*t108)))),(y112),(.slice Ao37 y112.length co37),(E1_),H',⟨by have:=HJ3.out;have:=HK2.out;omega⟩,⟨by(with_reducible repeat (first|apply Kd.R_alloc|apply Kd.R_drewN|apply Kd.R_drew));exact Kd.R_mono (Kd.R_far (p:=⟨gb109,6,none⟩) (Kd.R_types HO114.out BK109.out (by decide)) (fun _ hk=>hk.2) (.slice Ao37 y112.length co37)) (fun _ hk=>trivial)⟩,⟨(blk_far (K_ BK107) NB107_109.out _)⟩,⟨(blk_put (cs:= #[.int .i64 t101,.int .i64 t102,.int .i64 a1,.int .i64 (wrap64 ((t104.size:Int) / t108)),.string t103,.string t105,u110006]) (K_ BK109) 6 _ rfl)⟩,⟨B_⟩⟩
           ·rw[if_neg c30] at H;exact absurd H (by simp)
          ·rw[if_neg c28] at H;exact absurd H (by simp)
         ·rw[if_neg c27] at H;exact absurd H (by simp)
        ·rw[if_neg c26] at H;exact absurd H (by simp)
       ·rw[if_neg c24] at H;have c24b0:=df_ c24;clear c24;replace H:=Ob_ H;obtain⟨⟨t115,t116⟩,A390,H⟩:=H;(try dsimp only at H);have A39:=Z_ A390;clear A390
        by_cases c40:t116=0
        ·rw[if_pos c40] at H;have c40b0:(t116==0)=true:=beq_iff_eq.mpr c40;have c40b1:(t116 !=0)=false:=bne_eq_false_iff_eq.mpr c40;clear c40;simp only[Option.some.injEq,Prod.mk.injEq] at H;obtain⟨rfl,rfl⟩:=H;have hnb41:=NB107_109.out;have hnc41:=NB109_107.out;have hcz42_0:=cz_ BK107 0;have hcz42_1:=cz_ BK107 1;have hcz42_2:=cz_ BK107 2;have hcz42_3:=cz_ BK107 3;have hcz42_4:=cz_ BK107 4;have hfz42_0:=fz_ BK107 0;have hfz42_1:=fz_ BK107 1;have hfz42_2:=fz_ BK107 2;have hfz42_3:=fz_ BK107 3;have hfz42_4:=fz_ BK107 4;have hcz43_0:=cz_ BK109 0;have hcz43_1:=cz_ BK109 1;have hcz43_2:=cz_ BK109 2;have hcz43_3:=cz_ BK109 3;have hcz43_4:=cz_ BK109 4;have hcz43_5:=cz_ BK109 5;have hcz43_6:=cz_ BK109 6;have hfz43_0:=fz_ BK109 0;have hfz43_1:=fz_ BK109 1;have hfz43_2:=fz_ BK109 2;have hfz43_3:=fz_ BK109 3;have hfz43_4:=fz_ BK109 4;have hfz43_5:=fz_ BK109 5;have hfz43_6:=fz_ BK109 6;obtain⟨Ao44,co44,eo44⟩:=Kd.R_slice HO_110006.out;subst eo44
         go_wp2_with (first|(refine G_ 82 Tryz.func23 #[.agg #[.int .i64 t101,.int .i64 t102,.int .i64 a1,.int .i64 (wrap64 ((t104.size:Int) / t108)),.string t103,.string t105,.slice Ao44 x110006_2.length co44]] ?_;refine(stream_Put.calls t101 t102 a1 (wrap64 ((t104.size:Int) / t108)) t103 t105 _ _ x110006_2 t115 t116 _ (C_ (Kd.R_reads' HO_110006.out).2.2) ((Kd.R_reads' HO_110006.out).2.1) A39.out).mono ?_;rintro e w45 ⟨rfl,hb⟩;refine⟨_,rfl,?_⟩;replace HO_110006:=Z_ (Kd.R_below (R_ HO_110006) hb);replace BK107:=Z_ (blk_below (K_ BK107) hb);replace BK109:=Z_ (blk_below (K_ BK109) hb);replace HB:=Hb_ hb;(try clear hb)))
         go_ret2;exact⟨E_,B_⟩
        ·rw[if_neg c40] at H;have c40b0:(t116==0)=false:=beq_eq_false_iff_ne.mpr c40;have c40b1:(t116 !=0)=true:=bne_iff_ne.mpr c40;simp only[Option.some.injEq,Prod.mk.injEq] at H;obtain⟨rfl,rfl⟩:=H;have hnb46:=NB107_109.out;have hnc46:=NB109_107.out;have hcz47_0:=cz_ BK107 0;have hcz47_1:=cz_ BK107 1;have hcz47_2:=cz_ BK107 2;have hcz47_3:=cz_ BK107 3;have hcz47_4:=cz_ BK107 4;have hfz47_0:=fz_ BK107 0;have hfz47_1:=fz_ BK107 1;have hfz47_2:=fz_ BK107 2;have hfz47_3:=fz_ BK107 3;have hfz47_4:=fz_ BK107 4;have hcz48_0:=cz_ BK109 0;have hcz48_1:=cz_ BK109 1;have hcz48_2:=cz_ BK109 2;have hcz48_3:=cz_ BK109 3;have hcz48_4:=cz_ BK109 4;have hcz48_5:=cz_ BK109 5;have hcz48_6:=cz_ BK109 6;have hfz48_0:=fz_ BK109 0;have hfz48_1:=fz_ BK109 1;have hfz48_2:=fz_ BK109 2;have hfz48_3:=fz_ BK109 3;have hfz48_4:=fz_ BK109 4;have hfz48_5:=fz_ BK109 5;have hfz48_6:=fz_ BK109 6;obtain⟨Ao49,co49,eo49⟩:=Kd.R_slice HO_110006.out;subst eo49
         go_wp2_with (first|(refine G_ 82 Tryz.func23 #[.agg #[.int .i64 t101,.int .i64 t102,.int .i64 a1,.int .i64 (wrap64 ((t104.size:Int) / t108)),.string t103,.string t105,.slice Ao49 x110006_2.length co49]] ?_;refine(stream_Put.calls t101 t102 a1 (wrap64 ((t104.size:Int) / t108)) t103 t105 _ _ x110006_2 t115 t116 _ (C_ (Kd.R_reads' HO_110006.out).2.2) ((Kd.R_reads' HO_110006.out).2.1) A39.out).mono ?_;rintro e w50 ⟨rfl,hb⟩;refine⟨_,rfl,?_⟩;replace HO_110006:=Z_ (Kd.R_below (R_ HO_110006) hb);replace BK107:=Z_ (blk_below (K_ BK107) hb);replace BK109:=Z_ (blk_below (K_ BK109) hb);replace HB:=Hb_ hb;(try clear hb)))
         go_ret2;exact⟨E_,B_⟩
end Go.Proofs.YtfghldonnffldaaGreatDoor.QSix
namespace Go.Proofs.YtfghldonnffldaaGreatDoor.HNin
open Go.RowKit TBase UOne VTwo XThr YtfghldonnffldaaGreatDoorW.PrintWords YtfghldonnffldaaGreatDoorW.PrintLast YtfghldonnffldaaGreatDoorW.PrintMore
attribute [local go_sem] max2_int min2_int max_two min_two max_three min_three max_four min_four
theorem info3:(Tryz.prog.info? 3).map (fun i=>(i.zero,i.size,i.bytes))=some (some (.int .i64 0),1,8):=by kernel_rfl
theorem info36:(Tryz.prog.info? 36).map (fun i=>(i.zero,i.size,i.bytes))=some (some (.slice none 0 0),1,24):=by kernel_rfl
def rd_L1(xs:List (List Int))(i:Int):(List Int):=xs.getD i.toNat ([]:List Int)
theorem at_L1{w:World}{A:Option Addr}{n:Nat}{xs:List (List Int)}(h:Kd.C (Kd.slice 3 (Kd.int .i64)) w A n xs)(i:Int)(h0:0≤i)(h1:i<n):∃ad A0 c0,A=some ad∧w.cell? (ad.add i.toNat)=some (.slice A0 (rd_L1 xs i).length c0)∧(rd_L1 xs i).length≤c0∧(Kd.int .i64).C w A0 (rd_L1 xs i).length (rd_L1 xs i):=by
 obtain⟨ad,c,e,_,hK,hc0⟩:=Kd.C_get h ([]:List Int) i h0 h1;have hc:∀j u,c[j]?=some u→w.cell? (ad.add (i.toNat*1+j))=some u:=hc0;obtain⟨A0,c0,rfl,l0,g0⟩:=hK;exact⟨ad,A0,c0,e,by have hq:=hc 0 _ rfl;rwa [Nat.mul_one,Nat.add_zero] at hq,l0,g0⟩
mutual
noncomputable def segment_frames.l0:Nat→Int→Int→List Int→List (List Int)→Int→Int→Int→Int→Option (ByteArray)
 |0,_,_,_,_,_,_,_,_=>none
 |k+1,x2,x3,x9,x11,x30,x31,x102000,x102001=>if x31<x30 then(if 0≤(wrap64 (x31*x3)) then(if(wrap64 (x31*x3))≤(wrap64 ((wrap64 (x31+1))*x3)) then(if(wrap64 ((wrap64 (x31+1))*x3))≤(x9.length:Int) then((line_Get.f ((x9.take ((wrap64 ((wrap64 (x31+1))*x3)):Int).toNat).drop ((wrap64 (x31*x3)):Int).toNat)).bind fun bt110=>(if x11.length<5864062014805 then(segment_frames.l0 k x2 x3 x9 (x11++ [bt110.1]) x30 (wrap64 (x31+1)) x102000 x102001) else(none))) else(none)) else(none)) else(none)) else((side_Get.f k x11).bind fun bt117=>(segment_frames.l1 k x2 bt117.1 (bt117.1.length:Int) 0 x102000 x102001))
noncomputable def segment_frames.l1:Nat→Int→List (List Int)→Int→Int→Int→Int→Option (ByteArray)
 |0,_,_,_,_,_,_=>none
 |k+1,x2,x11,x58,x59,x102000,x102001=>if x59<x58 then(if 0≤x59 then(if x59<(x11.length:Int) then((shift_Up.f k (rd_L1 x11 x59) x2).bind fun bt122=>(segment_frames.l1 k x2 (x11.set (x59:Int).toNat bt122.1) x58 (wrap64 (x59+1)) x102000 x102001)) else(none)) else(none)) else((pcm_Put.f k x11 x102000 x102001).bind fun bt127=>(some bt127.1))
end
noncomputable def segment_frames.f(k:Nat)(a0:ByteArray)(a1_0:Int)(a1_1:Int)(a2:Int)(a3:Int):Option (ByteArray):=(residual_Get.f a0 (wrap64 (a3*a1_0))).bind fun bt102=>(if bt102.2=0 then(segment_frames.l0 k a2 a3 bt102.1 ([]:List (List Int)) a1_0 0 a1_0 a1_1) else(some (⟨#[]⟩:ByteArray)))
theorem segment_frames.calls(k:Nat)(a0:ByteArray)(a1_0:Int)(a1_1:Int)(a2:Int)(a3:Int)(r:ByteArray)(w:World)(h:segment_frames.f k a0 a1_0 a1_1 a2 a3=some r)(hT:Tabs w:=by exact Tabs.below hT B_):
  Calls Tryz.prog 94 #[.string a0,.agg #[.int .i64 a1_0,.int .i64 a1_1],.int .i64 a2,.int .i64 a3] w fun e w'=>e= .returned (.string r)∧Below w.heap.size w w':=by
 have hu23:=Tryz.underlying23;have HB:=Z_ (Below.refl w.heap.size w);have H:((residual_Get.f a0 (wrap64 (a3*a1_0))).bind fun bt102=>(if bt102.2=0 then(segment_frames.l0 k a2 a3 bt102.1 ([]:List (List Int)) a1_0 0 a1_0 a1_1) else(some (⟨#[]⟩:ByteArray))))=some r:=h;clear h;replace H:=Ob_ H;obtain⟨⟨t102,t103⟩,A50,H⟩:=H;(try dsimp only at H);have A5:=Z_ A50;clear A50
 by_cases c6:t103=0
 ·rw[if_pos c6] at H;have c6b0:(t103==0)=true:=beq_iff_eq.mpr c6;have c6b1:(t103 !=0)=false:=bne_eq_false_iff_eq.mpr c6;clear c6;have H':=Z_ H;clear H
  go_enter Tryz.func94,Tryz.ntmps94
  go_wp2_with (first|(refine X_ 5 #[.int .i64 a1_0,.int .i64 a1_1] 23 ?_;intro gb101 hg w7 hbox hb;have BK101:=Z_ (hbox);have GW101:=Z_ (G2_ hg:w.heap.size≤_);have GE101:=GW101;replace HB:=Hb_ hb;clear hb hbox hg;have hcz8_0:=cz_ BK101 0;have hcz8_1:=cz_ BK101 1;have hfz8_0:=fz_ BK101 0;have hfz8_1:=fz_ BK101 1)|(refine G_ 24 Tryz.func120 #[.string a0,.int .i64 (wrap64 (a3*a1_0))] ?_;refine(residual_Get.calls a0 (wrap64 (a3*a1_0)) t102 t103 _ A5.out).mono ?_;rintro e w9 ⟨v104,rfl,ho0,hb⟩;refine⟨_,rfl,?_⟩;have HO105:=Z_ (Kd.R_lower ho0 (below_size B_));replace BK101:=Z_ (blk_below (K_ BK101) hb);replace HB:=Hb_ hb;(try clear hb);(try clear ho0);have hcz10_0:=cz_ BK101 0;have hcz10_1:=cz_ BK101 1;have hfz10_0:=fz_ BK101 0;have hfz10_1:=fz_ BK101 1))
  go_loopg [11,31] k (fun kq v11 v31 w'=>∃(x11_1:List (List Int)) (x31_1:Int),v31= .int .i64 x31_1∧Aside0 (segment_frames.l0 kq a2 a3 t102 x11_1 a1_0 x31_1 a1_0 a1_1=some r)∧Aside0 (kq≤k)∧Aside0 (Kd.R (Kd.int .i64) 3 w' w.heap.size (fun _=>True) v104 t102)∧Aside0 (Kd.S (Kd.slice 3 (Kd.int .i64)) 36 w' w.heap.size (fun k_=>some k_≠(v104:Value).ownBlock) v11 x11_1)∧Aside0 (w'.heap[gb101]?=some (.cells #[.int .i64 a1_0,.int .i64 a1_1] 23 (0,0)))∧Aside0 (Below w.heap.size w w'))
  case atStart=>exact⟨(([]:List (List Int))),(0),(E1_),H',⟨Nat.le_refl _⟩,⟨R_ HO105⟩,⟨by first|exact Kd.S_nil _ _ _ _ _|exact Kd.N_nil _ _ _ _ _|exact Kd.V_nil _ _ _ _ _|exact Kd.Q_nil _ _ _ _ _|exact Kd.R_nil _ _ _ _ _⟩,⟨(K_ BK101)⟩,⟨B_⟩⟩
  case round=>
   clear H'
   try clear c1
   try clear p2
   try clear c6
   try clear c6b0
   try clear c6b1
   try clear p6
   try clear c9
   try clear hcz10_0
   try clear hcz10_1
   try clear hcz8_0
   try clear hcz8_1
   try clear hfz10_0
   try clear hfz10_1
   try clear hfz8_0
   try clear hfz8_1
   obtain⟨x11_1,x31_1,rfl,HA,HK1,HO_9,HO_11,BK101,HB⟩:=hrel
   cases gk with
   |zero=>exact absurd HA.out (by simp[segment_frames.l0])
   |succ k1=>
    have H:=HA.out;clear HA;simp only[segment_frames.l0] at H
    by_cases c11:x31_1<a1_0
    ·rw[if_pos c11] at H;have c11b0:=dt_ c11;clear c11;obtain⟨ji12,hji12⟩:∃j_:Int,(wrap64 (x31_1*a3))=j_:=⟨_,rfl⟩;(first|rw[hji12] at H|simp only[hji12] at H);have hji12w:(IntKind.i64.wrap (x31_1*a3))=ji12:=(i64_w _).trans hji12
     by_cases c13:0≤(ji12)
     ·rw[if_pos c13] at H;have c13b0:=eq_true c13;have c13b1:=dt_ c13;clear c13
      by_cases c14:(ji12)≤(wrap64 ((wrap64 (x31_1+1))*a3))
      ·rw[if_pos c14] at H;have c14b0:=eq_true c14;have c14b1:=dt_ c14
       by_cases c15:(wrap64 ((wrap64 (x31_1+1))*a3))≤(t102.length:Int)
       ·rw[if_pos c15] at H;have c15b0:=eq_true c15;have c15b1:=dt_ c15;obtain⟨y106,hy106⟩:∃y_:List Int,y_=((t102.take ((wrap64 ((wrap64 (x31_1+1))*a3)):Int).toNat).drop ((ji12):Int).toNat):=⟨_,rfl⟩;replace H:((line_Get.f y106).bind fun bt110=>(if x11_1.length<5864062014805 then(segment_frames.l0 k1 a2 a3 t102 (x11_1++ [bt110.1]) a1_0 (wrap64 (x31_1+1)) a1_0 a1_1) else(none)))=some r:=by first|(rw[hy106];with_reducible exact H)|(have H2_:=(bs_ _ _).symm.trans H;rw[hy106];with_reducible exact H2_)|(have H2_:=(bs_ _ _).symm.trans H;with_reducible exact H2_)|with_reducible exact H|(rw[hy106];exact H)|exact H
        have Ny106:=Z_ hy106;clear hy106;replace H:=Ob_ H;obtain⟨⟨t110,t111⟩,A160,H⟩:=H;(try dsimp only at H);have A16:=Z_ A160;clear A160
        by_cases c17:x11_1.length<5864062014805
        ·rw[if_pos c17] at H;have LMc17:=Z_ c17;clear c17;obtain⟨y114,hy114⟩:∃y_:List (List Int),y_=(x11_1++ [t110]):=⟨_,rfl⟩;replace H:(segment_frames.l0 k1 a2 a3 t102 y114 a1_0 (wrap64 (x31_1+1)) a1_0 a1_1)=some r:=by first|(rw[hy114];with_reducible exact H)|(have H2_:=(bs_ _ _).symm.trans H;rw[hy114];with_reducible exact H2_)|(have H2_:=(bs_ _ _).symm.trans H;with_reducible exact H2_)|with_reducible exact H|(rw[hy114];exact H)|exact H
         have Ny114:=Z_ hy114;clear hy114;have H':=Z_ H;clear H;obtain⟨Ao19,co19,eo19⟩:=Kd.R_slice HO_9.out;subst eo19;have q18:((wrap64 ((wrap64 (x31_1+1))*a3)):Int)≤((t102.length:Int):Int):=od_ A_;obtain⟨i018,hi018,_,hsz18,_⟩:=info_parts info3;have hroom18:t102.length≤co19:=(Kd.R_reads' HO_9.out).2.1;have hC18:Kd.C (Kd.int .i64) _ Ao19 t102.length t102:=(Kd.R_reads' HO_9.out).2.2;have ql18:((ji12):Int)≤((wrap64 ((wrap64 (x31_1+1))*a3)):Int):=od_ A_;have q018:(0:Int)≤((ji12):Int):=od_ A_;have hcut18:=cut_mid (P:=Tryz.prog) 36 3 .i64 .i64 Tryz.underlying36 hi018 1 hsz18 Ao19 t102.length co19 (ji12) (wrap64 ((wrap64 (x31_1+1))*a3)) q018 ql18 q18 hroom18;have hr18:=Kd.C_mid (lo:=((ji12):Int).toNat) (hi:=((wrap64 ((wrap64 (x31_1+1))*a3)):Int).toNat) (c:=co19) hC18 (by omega) (by omega) hroom18;obtain⟨A18,hA18⟩:∃A1,A1=(if co19=((ji12):Int).toNat then Ao19 else(Ao19:Option Addr).map (·.add (((ji12):Int).toNat*1))):=⟨_,rfl⟩;obtain⟨c18,hc18⟩:∃c1,c1=co19 - ((ji12):Int).toNat:=⟨_,rfl⟩;have hy18:y106.length=((wrap64 ((wrap64 (x31_1+1))*a3)):Int).toNat - ((ji12):Int).toNat:=(by rw[Ny106.out,List.length_drop,List.length_take]<;>omega);rw[show((t102).take ((wrap64 ((wrap64 (x31_1+1))*a3)):Int).toNat).drop ((ji12):Int).toNat=y106 from Ny106.out.symm] at hr18;replace hr18:Kd.C (Kd.int .i64) _ A18 y106.length y106:=(by rw[hA18];exact hr18);rw[←hy18,←hA18,←hc18] at hcut18;have HR109:=Z_ hr18;have HC109:=Z_ (show y106.length≤c18 from by rw[hy18,hc18];exact Nat.sub_le_sub_right (Nat.le_trans (by omega) hroom18) _);clear hr18 hC18 hroom18 hi018 hsz18 hc18;have KY18:=Z_ hy18;have KA18:=Z_ hA18;clear hy18 hA18;have KL18:=Z_ (show((wrap64 ((wrap64 (x31_1+1))*a3)):Int).toNat≤t102.length from by omega);have KM18:=Z_ (show((ji12):Int).toNat≤((wrap64 ((wrap64 (x31_1+1))*a3)):Int).toNat from by omega);replace q18:=eq_true q18
         go_wp2_with (first|(refine G_ 44 Tryz.func121 #[.slice A18 y106.length c18] ?_;refine(line_Get.calls _ _ y106 t110 t111 _ (C_ HR109.out) HC109.out A16.out).mono ?_;rintro e w20 ⟨v112,rfl,ho0,hb⟩;refine⟨_,rfl,?_⟩;replace HO_11:=Z_ (Kd.S_elder' (S_ HO_11) (Kd.R_base ho0) hb);have HO113:=Z_ (Kd.R_lower (Kd.R_new' ho0 (Kd.R_lt (R_ HO_9))) (below_size B_));replace HO_9:=Z_ (Kd.R_elder' (R_ HO_9) (Kd.R_base ho0) hb);replace BK101:=Z_ (blk_below (K_ BK101) hb);replace HR109:=Z_ (Kd.C_below (C_ HR109.out) hb);replace HB:=Hb_ hb;(try clear hb);(try clear ho0);obtain⟨Ao22,co22,eo22⟩:=Kd.R_slice HO113.out;subst eo22)|((with_reducible refine gate_builtin (b:= .append) (xs:= #[.tmp 47,.tmp 49]) rfl ?_);at_builtin;refine Kd.S_append (Kd.slice 3 (Kd.int .i64)) (w0:=w) w.heap.size rfl (.tmp 47) (.tmp 49) 37 36 (.slice none 0 0) 24 rfl Tryz.underlying37 info36 rfl (by decide) (by omega) u11 x11_1 t110 [.slice Ao22 t110.length co22] (fun k_=>some k_≠(.slice Ao19 t102.length co19:Value).ownBlock) (fun k_=>some k_=(.slice Ao22 t110.length co22:Value).ownBlock) rfl rfl ?aP (fun k_ hk_=>((Kd.R_mono (ok':=fun k_=>((fun k_=>some k_≠(.slice Ao19 t102.length co19:Value).ownBlock)) k_∧some k_≠(u11:Value).ownBlock) (Kd.R_apart' (HO113.out) (Kd.S_typed HO_11.out) (by decide)) (fun k_ hk=>⟨hk.1.2,hk.2⟩))).1 k_ hk_.symm) ?aF ?aO ?aB ?aS ?aL ?_;(case aP=>exact Kd.M_row (Kd.R_mono (Kd.R_tight rfl (Kd.R_mono (ok':=fun k_=>((fun k_=>some k_≠(.slice Ao19 t102.length co19:Value).ownBlock)) k_∧some k_≠(u11:Value).ownBlock) (Kd.R_apart' (HO113.out) (Kd.S_typed HO_11.out) (by decide)) (fun k_ hk=>⟨hk.1.2,hk.2⟩))) (fun _ h_=>h_)));(case aB=>exact B_);(case aF=>exact(fun k_ hk=>Kd.fresh' (Kd.R_lt (R_ HO_9)) k_ hk));(case aO=>exact(by(with_reducible repeat (first|apply Kd.S_alloc|apply Kd.S_drewN|apply Kd.S_drew));exact Kd.S_mono HO_11.out (fun k_ hk=>⟨hk.1,fun e_=>hk.2 e_⟩)));(case aS=>exact(below_size B_));(case aL=>have:=LMc17.out;omega);intro v115 w21 ho hb hg hat;rw[←Ny114.out] at ho;replace BK101:=Z_ (blk_grown (g:=gb101) (o:= .cells #[.int .i64 a1_0,.int .i64 a1_1] 23 (0,0)) (K_ BK101) hg (Kd.S_ne HO_11.out BK101.out (by decide)));replace HB:=Z_ (hb);replace HR109:=Z_ ((show Kd.C (Kd.int .i64) w21 A18 y106.length y106 from by rw[Ny106.out,KA18.out];exact Kd.C_mid (lo:=((ji12):Int).toNat) (hi:=((wrap64 ((wrap64 (x31_1+1))*a3)):Int).toNat) (c:=co19) ((Kd.R_reads' (Kd.R_over' (R_ HO_9) (Kd.S_typed (S_ HO_11)) (by decide) hg)).2.2) KM18.out KL18.out ((Kd.R_reads' (Kd.R_over' (R_ HO_9) (Kd.S_typed (S_ HO_11)) (by decide) hg)).2.1)));replace HO_9:=Z_ (Kd.R_over' (R_ HO_9) (Kd.S_typed (S_ HO_11)) (by decide) hg);have HO116:=Z_ (ho);clear HO_11 HO113;clear ho hb hg hat))
         go_roundg k1
         case measure=>have:=HK1.out;omega
         case rel=>exact⟨(y114),(wrap64 (x31_1+1)),(E1_),H',⟨by have:=HK1.out;omega⟩,⟨by(with_reducible repeat (first|apply Kd.R_alloc|apply Kd.R_drewN|apply Kd.R_drew));exact Kd.R_mono HO_9.out (fun _ hk=>trivial)⟩,⟨S_ HO116⟩,⟨(K_ BK101)⟩,⟨B_⟩⟩
        ·rw[if_neg c17] at H;exact absurd H (by simp)
       ·rw[if_neg c15] at H;exact absurd H (by simp)
      ·rw[if_neg c14] at H;exact absurd H (by simp)
     ·rw[if_neg c13] at H;exact absurd H (by simp)
    ·rw[if_neg c11] at H;have c11b0:=df_ c11;clear c11;replace H:=Ob_ H;obtain⟨⟨t117,t118⟩,A230,H⟩:=H;(try dsimp only at H);have A23:=Z_ A230;clear A230;have H':=Z_ H;clear H;obtain⟨Ao24,co24,eo24⟩:=Kd.S_slice HO_11.out;subst eo24
     go_wp2_with (first|(refine G_ 54 Tryz.func122 #[.slice Ao24 x11_1.length co24] ?_;refine(side_Get.calls k1 _ _ x11_1 t117 t118 _ (C_ (Kd.S_reads' HO_11.out).2.2) ((Kd.S_reads' HO_11.out).2.1) A23.out).mono ?_;rintro e w25 ⟨v119,rfl,ho0,hb⟩;refine⟨_,rfl,?_⟩;have HO120:=Z_ (Kd.S_lower (Kd.S_new' (Kd.S_new' ho0 (Kd.R_lt (R_ HO_9))) (Kd.S_lt (S_ HO_11))) (below_size B_));replace HO_9:=Z_ (Kd.R_below (R_ HO_9) hb);replace HO_11:=Z_ (Kd.S_elder' (S_ HO_11) (Kd.S_base ho0) hb);replace BK101:=Z_ (blk_below (K_ BK101) hb);replace HB:=Hb_ hb;(try clear hb);(try clear ho0);obtain⟨Ao26,co26,eo26⟩:=Kd.S_slice HO120.out;subst eo26))
     go_loopg [59] k1 (fun kq v59 w'=>∃(x11_2:List (List Int)) (x59_2:Int),v59= .int .i64 x59_2∧Aside0 (segment_frames.l1 kq a2 x11_2 (t117.length:Int) x59_2 a1_0 a1_1=some r)∧Aside0 (kq≤k1)∧Aside0 (Kd.S (Kd.slice 3 (Kd.int .i64)) 36 w' w.heap.size (fun _=>True) (.slice Ao26 t117.length co26) x11_2)∧Aside0 (w'.heap[gb101]?=some (.cells #[.int .i64 a1_0,.int .i64 a1_1] 23 (0,0)))∧Aside0 (Below w.heap.size w w'))
     case atStart=>exact⟨(t117),(0),(E1_),H',⟨Nat.le_refl _⟩,⟨by(with_reducible repeat (first|apply Kd.S_alloc|apply Kd.S_drewN|apply Kd.S_drew));exact Kd.S_mono HO120.out (fun _ hk=>trivial)⟩,⟨(K_ BK101)⟩,⟨B_⟩⟩
     case round=>
      clear H'
      try clear c1
      try clear q1
      try clear p2
      try clear c6
      try clear c6b0
      try clear c6b1
      try clear p6
      try clear c9
      try clear c11
      try clear c11b0
      try clear c12
      try clear c13
      try clear c13b0
      try clear c13b1
      try clear c14
      try clear c14b0
      try clear c14b1
      try clear c15
      try clear c15b0
      try clear c15b1
      try clear c17
      try clear c18
      try clear q18
      try clear hcz10_0
      try clear hcz10_1
      try clear hcz8_0
      try clear hcz8_1
      try clear hfz10_0
      try clear hfz10_1
      try clear hfz8_0
      try clear hfz8_1
      try clear p2
      try clear p6
      try clear q018
      try clear q18
      obtain⟨x11_2,x59_2,rfl,HA,HK2,HO_11,BK101,HB⟩:=hrel;have hl11_2:=(Kd.S_reads' HO_11.out).1;rw[hl11_2] at HO_11;(try simp only[hl11_2]);(try simp only[hl11_2] at BK101)
      cases gk with
      |zero=>exact absurd HA.out (by simp[segment_frames.l1])
      |succ k2=>
       have H:=HA.out;clear HA;simp only[segment_frames.l1] at H
       by_cases c27:x59_2<(t117.length:Int)
       ·rw[if_pos c27] at H;have c27b0:=dt_ c27;(first|(have c27b0x_:=c27b0;rw[hl11_2] at c27b0x_)|(have c27b0x_:=c27b0;rw[←hl11_2] at c27b0x_)|skip);clear c27
        by_cases c28:0≤x59_2
        ·rw[if_pos c28] at H;have c28b0:=dt_ c28;clear c28
         by_cases c29:x59_2<(x11_2.length:Int)
         ·rw[if_pos c29] at H;have c29b0:=dt_ c29;(first|(have c29b0x_:=c29b0;rw[hl11_2] at c29b0x_)|(have c29b0x_:=c29b0;rw[←hl11_2] at c29b0x_)|skip);clear c29;replace H:=Ob_ H;obtain⟨⟨t122,t123⟩,A300,H⟩:=H;(try dsimp only at H);have A30:=Z_ A300;clear A300;obtain⟨y126,hy126⟩:∃y_:List (List Int),y_=(x11_2.set (x59_2:Int).toNat t122):=⟨_,rfl⟩;replace H:(segment_frames.l1 k2 a2 y126 (t117.length:Int) (wrap64 (x59_2+1)) a1_0 a1_1)=some r:=by first|(rw[hy126];with_reducible exact H)|(have H2_:=(bs_ _ _).symm.trans H;rw[hy126];with_reducible exact H2_)|(have H2_:=(bs_ _ _).symm.trans H;with_reducible exact H2_)|with_reducible exact H|(rw[hy126];exact H)|exact H
          have Ny126:=Z_ hy126;clear hy126;have H':=Z_ H;clear H;have p121:0≤(x59_2:Int):=od_ A_;have q121:x59_2<(x11_2.length:Int):=od_ A_;obtain⟨ad121,A121_0,c121_0,e121,hx121_0,hl121_0,hi121_0⟩:=at_L1 (Kd.S_reads' HO_11.out).2.2 x59_2 p121 q121
          cases e121
          obtain⟨ce121,hce121,hMe121,hcc121⟩:=Kd.S_get HO_11.out [] x59_2 p121 (by first|exact q121|exact od_ A_|(have e_:=(Kd.S_reads' HO_11.out).1;omega));obtain⟨ve121_0,rfl,ge121_0⟩:=hMe121;have hv121_0:=hcc121 0 _ rfl;rw[Nat.add_zero,show((Kd.slice 3 (Kd.int .i64))).sz=1 from rfl,Nat.mul_one] at hv121_0;replace hv121_0:=Option.some.inj (hv121_0.symm.trans hx121_0);rw[hv121_0] at ge121_0;have HL121_0:=Z_ (show Kd.R (Kd.int .i64) 3 _ _ _ _ (rd_L1 x11_2 x59_2) from ge121_0);clear hv121_0 ge121_0;clear hcc121 hce121;have HR121_0:=Z_ hi121_0;have HC121_0:=Z_ hl121_0;clear hi121_0 hl121_0;replace p121:=eq_true p121;replace q121:=eq_true q121
          go_wp2_with (first|(refine G_ 70 Tryz.func123 #[.slice A121_0 (rd_L1 x11_2 x59_2).length c121_0,.int .i64 a2] ?_;refine(shift_Up.calls k2 _ _ (rd_L1 x11_2 x59_2) a2 t122 t123 _ (C_ HR121_0.out) HC121_0.out A30.out).mono ?_;rintro e w32 ⟨v124,rfl,ho0,hb⟩;refine⟨_,rfl,?_⟩;replace HO_11:=Z_ (Kd.S_elder' (S_ HO_11) (Kd.R_base ho0) hb);have HO125:=Z_ (Kd.R_lower (Kd.R_new' ho0 (Kd.R_lt (R_ HL121_0))) (below_size B_));replace HL121_0:=Z_ (Kd.R_elder' (R_ HL121_0) (Kd.R_base ho0) hb);replace BK101:=Z_ (blk_below (K_ BK101) hb);replace HR121_0:=Z_ (Kd.C_below (C_ HR121_0.out) hb);replace HB:=Hb_ hb;(try clear hb);(try clear ho0);obtain⟨Ao_,co_,eo_⟩:=Kd.R_slice HO125.out;subst eo_;have p31:0≤(x59_2:Int):=od_ A_;have q31:(x59_2:Int)<((x11_2.length:Int):Int):=od_ A_;obtain⟨go31,co31,eo31,gb31,gl31,cl31,HG31⟩:=Kd.S_form HO_11.out (by omega);(first|cases eo31|(injection eo31 with ea_ en_ ec_;(first|subst ea_|(injection ea_ with ea_;subst ea_));subst ec_;clear en_));have GB31:=Z_ gb31;have GG31:=Z_ HG31;clear gb31 gl31 HG31;(first|simp only[add_plain] at hx121_0|skip);obtain⟨_,ce31,hcl31,hM31,hcc31,hfr31,_,_⟩:=Kd.S_elem HO_11.out [] (x59_2:Int) p31 q31;obtain⟨ve31_0,rfl,ge31_0⟩:=hM31;have hx31_0:=hcc31 0 _ rfl;have hf31_0:=hfr31 0;(try simp only[show((Kd.slice 3 (Kd.int .i64))).sz=1 from rfl,Nat.mul_one,Nat.add_zero] at hx31_0);(try simp only[show((Kd.slice 3 (Kd.int .i64))).sz=1 from rfl,Nat.mul_one,Nat.add_zero] at hf31_0);clear hcl31 hcc31 hfr31;(try clear hM31);replace p31:=eq_true p31;replace q31:=eq_true q31;have n_:=Z_ (Kd.S_mono (ok':=(fun k_=>some k_≠(Value.slice Ao_ t122.length co_).ownBlock)) HO_11.out (fun k_ hk=>hk.2));clear HO_11;have HO_11:=n_;clear n_;have HX33:=Z_ (show Kd.S (Kd.slice 3 (Kd.int .i64)) 36 w32 w.heap.size (fun k_=>((fun _=>True)) k_∧¬((fun k_=>some k_=(Value.slice Ao_ t122.length co_).ownBlock)) k_) (.slice (some ⟨go31,0,none⟩) x11_2.length co26) x11_2 from(by(with_reducible repeat (first|apply Kd.S_alloc|apply Kd.S_drewN|apply Kd.S_drew));exact Kd.S_mono HO_11.out (fun k_ hk=>⟨trivial,fun e_=>hk e_⟩)));obtain⟨oki33,ce33,hcl33,hM33,hcc33,hfr33,hoki33,hH33⟩:=Kd.S_elem HX33.out [] (x59_2:Int) (od_ A_) (by have h_:(x59_2:Int)<((x11_2.length:Int):Int):=od_ A_;first|exact h_|(have e_:=(Kd.S_reads' HO_11.out).1;omega)|simpa using h_);obtain⟨ve33_0,rfl,ge33_0⟩:=hM33;have HP33:=Kd.S_seg hH33 (od_ A_) (by have h_:(x59_2:Int)<((x11_2.length:Int):Int):=od_ A_;first|exact h_|(have e_:=(Kd.S_reads' HO_11.out).1;omega)|simpa using h_) (seg:= [.slice Ao_ t122.length co_]) (j:=0) (show 1≤1 from by decide) (x':=t122) (Kd.M_row (Kd.R_mono (Kd.R_tight rfl (Kd.R_mono (ok':=fun k_=>((fun _=>True)) k_∧k_≠go31) (Kd.R_apart' (HO125.out) (Kd.S_typed HO_11.out) (by decide)) (fun k_ hk=>⟨trivial,fun e_=>(hk.2) (by rw[e_];rfl)⟩))) (fun _ h_=>Or.inr (h_)))) (fun _ hk=>hk) (fun k_ hk_=>((Kd.R_mono (ok':=fun k_=>((fun _=>True)) k_∧k_≠go31) (Kd.R_apart' (HO125.out) (Kd.S_typed HO_11.out) (by decide)) (fun k_ hk=>⟨trivial,fun e_=>(hk.2) (by rw[e_];rfl)⟩))).1 k_ hk_.symm);have hx33_0:=hcc33 0 _ rfl;(try simp only[show((Kd.slice 3 (Kd.int .i64))).sz=1 from rfl,Nat.mul_one,Nat.add_zero] at hx33_0);have hf33_0:=hfr33 0;(try simp only[show((Kd.slice 3 (Kd.int .i64))).sz=1 from rfl,Nat.mul_one,Nat.add_zero] at hf33_0);clear hcl33 hcc33 hfr33 hoki33 hH33;(try clear hM33);(try simp only[show((Kd.slice 3 (Kd.int .i64))).sz=1 from rfl,Nat.mul_one,Nat.add_zero] at HP33))|((with_reducible refine gate_store (t:=36) (p:=73) rfl ?_);refine store_event (t:=36) (p:=73) (v:=?vo_w34) (w1:=(w32.setCell ⟨go31,(x59_2:Int).toNat,none⟩ (.slice Ao_ t122.length co_))) ?hg ?ho ?hn ?hr ?_;(case ho=>rfl);(case hg=>rfl);(case hn=>rfl);(case hr=>first|(go_simp;done)|(go_simp;rfl));intro w34 hw;have hg:w32.grownBy w34 (some go31):=(by rw[hw];exact HP33.2);have hp_:Kd.S (Kd.slice 3 (Kd.int .i64)) 36 w34 w.heap.size (fun _=>True) (.slice (some ⟨go31,0,none⟩) x11_2.length co26) y126:=(by rw[hw,Ny126.out];exact HP33.1);clear HP33;replace BK101:=Z_ (blk_grown (g:=gb101) (o:= .cells #[.int .i64 a1_0,.int .i64 a1_1] 23 (0,0)) (K_ BK101) hg (Kd.S_ne HO_11.out BK101.out (by decide)));replace HO_11:=Z_ (hp_);replace HL121_0:=Z_ (Kd.R_after (v:=(.slice (some ⟨go31,0,none⟩) x11_2.length co26)) (v1:=(.slice (some ⟨go31,0,none⟩) x11_2.length co26)) (ok:=(fun k_=>some k_≠(Value.slice Ao_ t122.length co_).ownBlock)) (by(with_reducible repeat (first|apply Kd.R_alloc|apply Kd.R_drewN|apply Kd.R_drew));exact Kd.R_mono HL121_0.out (fun _ hk=>⟨hk.2,hk.1.2⟩)) hg (.inl rfl));replace HB:=Z_ ((by rw[hw];exact below_set (HB.out) GB31.out:Below w.heap.size w w34));clear HO125;clear hg hw hp_))
          (try simp only[←hl11_2])
          go_roundg k2
          case measure=>have:=HK1.out;have:=HK2.out;omega
          case rel=>exact⟨(y126),(wrap64 (x59_2+1)),(E1_),H',⟨by have:=HK1.out;have:=HK2.out;omega⟩,⟨by(try simp only[hl11_2]);(with_reducible repeat (first|apply Kd.S_alloc|apply Kd.S_drewN|apply Kd.S_drew));exact HO_11.out⟩,⟨by(try simp only[hl11_2]);(with_reducible repeat (first|refine blk_drewN ?_ _|refine blk_drew ?_|refine blk_alloc ?_ _));exact BK101.out⟩,⟨B_⟩⟩
         ·rw[if_neg c29] at H;exact absurd H (by simp)
        ·rw[if_neg c28] at H;exact absurd H (by simp)
       ·rw[if_neg c27] at H;have c27b0:=df_ c27;(first|(have c27b0x_:=c27b0;rw[hl11_2] at c27b0x_)|(have c27b0x_:=c27b0;rw[←hl11_2] at c27b0x_)|(have c27b0x_:=c27b0;rw[hl121_0] at c27b0x_)|(have c27b0x_:=c27b0;rw[←hl121_0] at c27b0x_)|skip);clear c27;replace H:=Ob_ H;obtain⟨⟨t127,t128⟩,A350,H⟩:=H;replace H:(some t127)=some r:=H;have A35:=Z_ A350;clear A350;obtain rfl:=Option.some.inj H;have hcz36_0:=cz_ BK101 0;have hcz36_1:=cz_ BK101 1;have hfz36_0:=fz_ BK101 0;have hfz36_1:=fz_ BK101 1
        go_wp2_with (first|(refine G_ 78 Tryz.func124 #[.slice Ao26 x11_2.length co26,.agg #[.int .i64 a1_0,.int .i64 a1_1]] ?_;refine(pcm_Put.calls k2 _ _ x11_2 a1_0 a1_1 t127 t128 _ (C_ (Kd.S_reads' HO_11.out).2.2) ((Kd.S_reads' HO_11.out).2.1) A35.out).mono ?_;rintro e w37 ⟨rfl,hb⟩;refine⟨_,rfl,?_⟩;replace HO_11:=Z_ (Kd.S_below (S_ HO_11) hb);replace BK101:=Z_ (blk_below (K_ BK101) hb);replace HB:=Hb_ hb;(try clear hb)))
        go_ret;exact⟨E_,B_⟩
 ·rw[if_neg c6] at H;have c6b0:(t103==0)=false:=beq_eq_false_iff_ne.mpr c6;have c6b1:(t103 !=0)=true:=bne_iff_ne.mpr c6;obtain rfl:=Option.some.inj H
  go_enter Tryz.func94,Tryz.ntmps94
  go_wp2_with (first|(refine X_ 5 #[.int .i64 a1_0,.int .i64 a1_1] 23 ?_;intro gb101 hg w38 hbox hb;have BK101:=Z_ (hbox);have GW101:=Z_ (G2_ hg:w.heap.size≤_);have GE101:=GW101;replace HB:=Hb_ hb;clear hb hbox hg;have hcz39_0:=cz_ BK101 0;have hcz39_1:=cz_ BK101 1;have hfz39_0:=fz_ BK101 0;have hfz39_1:=fz_ BK101 1)|(refine G_ 24 Tryz.func120 #[.string a0,.int .i64 (wrap64 (a3*a1_0))] ?_;refine(residual_Get.calls a0 (wrap64 (a3*a1_0)) t102 t103 _ A5.out).mono ?_;rintro e w40 ⟨v104,rfl,ho0,hb⟩;refine⟨_,rfl,?_⟩;have HO105:=Z_ (Kd.R_lower ho0 (below_size B_));replace BK101:=Z_ (blk_below (K_ BK101) hb);replace HB:=Hb_ hb;(try clear hb);(try clear ho0)))
  go_ret;exact⟨E_,B_⟩
end Go.Proofs.YtfghldonnffldaaGreatDoor.HNin
namespace Go.Proofs.YtfghldonnffldaaGreatDoor
open Go.RowKit YtfghldonnffldaaGreatDoorW.PrintWords YtfghldonnffldaaGreatDoorW.PrintLast YtfghldonnffldaaGreatDoorW.PrintMore TBase
open YFou HNin
theorem bt_lit(s:ByteArray)(i:Nat)(h:i<s.size):bt s (i:Int)=((s[i]'h).toNat:Int):=by
 unfold bt;rw[dif_pos (by rw[nC_];exact h)]
 congr 2
section
variable {P:Program} {Q:Exit→Act→World→Prop}
theorem goesV_{ops:Array Oper}{oi:Oper}{N:Option Tmp}{a:Act}{w:World}{K:Act→World→Prop}{f:FuncId}{fn:Func}{t:Tmp}{aas:Array Operand}{ts:Array TypeId}(hf:P.funcs[f]?=some fn)(hname:(fn.name== "runtime.NumGoroutine")=false)(hb:fn.body.isSome=true)(args:Array Value)
  (hw:Region.wanted oi (yielded ops a.tmps)=true) (hN:oi.dst=N) (hop:oi.op= .call { callee:= .value (.tmp t),args:=aas,argTypes:=ts }) (hv:a.eval (.tmp t)= .func (.func f) #[] #[]) (hargs:aas.map a.eval=args)
  (h:Calls P f args w fun e w'=>∃v,e= .returned v∧K (a.put N v) w'):if Region.wanted oi (yielded ops a.tmps)=true then Oper.wp P oi a w K Q else K (a.put N undef) w:=by
 refine call_ f args hw hN ?_ h;have he:=enters_ hf hname hb args w;unfold execOp;simp[hop,resolve,Deferred.ofValue,invoke,hv,hargs,he]
end
def opens_(k:Int):Nat:=if k=1 then 94 else if k=2 then 95 else 96
theorem opens_calls(k:Int)(w:World):Calls Tryz.prog 65 #[.int .u8 k] w fun e w'=>e= .returned (.func (.func (opens_ k)) #[] #[])∧∃n,w'=w.drewN n:=by
 unfold opens_
 go_enter Tryz.func65,Tryz.ntmps65
 by_cases h1:k=1
 ·subst h1;go_wp2;go_ret;exact⟨rfl,0,rfl⟩
 ·rw[if_neg h1]
  by_cases h2:k=2
  ·subst h2;go_wp2;go_ret;exact⟨rfl,0,rfl⟩
  ·rw[if_neg h2];go_wp2;go_ret;exact⟨rfl,0,rfl⟩
theorem own_calls(t:ByteArray)(ch bi x y:Int)(w:World):Calls Tryz.prog 96 #[.string t,.agg #[.int .i64 ch,.int .i64 bi],.int .i64 x,.int .i64 y] w fun e w'=>e= .returned (.string t)∧Below w.heap.size w w':=by
 go_enter Tryz.func96,Tryz.ntmps96
 go_wp2;go_ret;exact⟨rfl,below_alloc (Below.refl _ _) _⟩
theorem rep_calls(t d:ByteArray)(ch bi x y:Int)(w:World)(h:strings_Repeat.f t y=some d):Calls Tryz.prog 95 #[.string t,.agg #[.int .i64 ch,.int .i64 bi],.int .i64 x,.int .i64 y] w fun e w'=>e= .returned (.string d)∧Below w.heap.size w w':=by
 have H:=Lib.hid h;clear h
 go_enter Tryz.func95,Tryz.ntmps95
 go_wp2_with fail
 refine(strings_Repeat.calls _ _ _ _ H.out).mono ?_;rintro e w' ⟨rfl,hb⟩;go_wp2;go_ret;exact⟨rfl,below_step (below_alloc (Below.refl _ _) _) hb⟩
noncomputable def opened(K:Nat)(ch bi by_ kind a:Int)(body:ByteArray):Option ByteArray:=if kind=1 then segment_frames.f K body ch bi by_ a else if kind=2 then strings_Repeat.f body a else some body
theorem opens_fn(k:Int):∃fn,Tryz.prog.funcs[opens_ k]?=some fn∧(fn.name== "runtime.NumGoroutine")=false∧fn.body.isSome=true:=by
 unfold opens_
 split
 ·exact⟨_,Tryz.func94,rfl,rfl⟩
 ·split
  ·exact⟨_,Tryz.func95,rfl,rfl⟩
  ·exact⟨_,Tryz.func96,rfl,rfl⟩
theorem opn_calls(K:Nat)(k y:Int)(t d:ByteArray)(ch bi x:Int)(h:opened K ch bi x k y t=some d)(w:World)(hT:Tabs w):Calls Tryz.prog (opens_ k) #[.string t,.agg #[.int .i64 ch,.int .i64 bi],.int .i64 x,.int .i64 y] w fun e w'=>e= .returned (.string d)∧Below w.heap.size w w':=by
 unfold opened at h;unfold opens_
 by_cases h1:k=1
 ·rw[if_pos h1] at h ⊢;exact segment_frames.calls K t ch bi x y d w h hT
 ·rw[if_neg h1] at h ⊢
  by_cases h2:k=2
  ·rw[if_pos h2] at h ⊢;exact rep_calls t d ch bi x y w h
  ·rw[if_neg h2] at h ⊢;obtain rfl:=Option.some.inj h;exact own_calls t ch bi x y w
def sgg.T12:Bool×List (List Nat×List Nat):=(true,[([],[]),([0],[0]),([1],[1]),([],[]),([],[]),([],[]),([5],[5]),([6],[6]),([],[]),([8],[8]),([9],[9]),([2,3,4,7,10,2],[2,3,4,7,10]),([11,11,0,1,2,3,4,5,6,7,8,9,10,11],[11])])
def sgg.B12:List Nat:= [0,1,3,0,0,0,32,96,0,256,768,2047,4095]
theorem sgg.tab12:rtab .any (opsOf Tryz.f26 12)=sgg.T12:=by kernel_rfl
theorem sgg.bits12:waitsOk sgg.T12.2 sgg.B12=true:=by kernel_rfl
theorem segGet_calls(k:Nat)(s d:ByteArray)(n:Nat)(ch bi:Int)(w:World)(hT:Tabs w)(hn:s.size=n+9)(hn2:n≤4096)(hm:pcm_May.f ch bi=some true)(h2:bt s 2≤64)(h1:field_Get.f 20 (s.extract 3 5)=some ((n:Int),0))(h3:field_Get.f 20 (s.extract (n+5) s.size)=some ((Crc.sum (s.extract 0 (n+5)).data.toList:Int),0))(ho:opened k ch bi (bt s 1) (bt s 0) (bt s 2) (s.extract 5 (n+5))=some d)(hp:segment_Put.f k d ch bi=some (s,0)):
  Calls Tryz.prog 26 #[.string s,.agg #[.int .i64 ch,.int .i64 bi]] w fun e w'=>e= .returned (.tuple #[.string d,.int .i64 0])∧Below w.heap.size w w':=by
 have hu23:=Tryz.underlying23;have HM:=Lib.hid hm;have H1:=Lib.hid h1;have HO:=Lib.hid ho;have HP:=Lib.hid hp;have HT:=Z_ hT;have Y3:Aside0 ((w.alloc (.cells #[.int .i64 ch,.int .i64 bi] 23)).heap[w.heap.size]?=some (.cells #[.int .i64 ch,.int .i64 bi] 23 (0,0))):=⟨blk_new w _⟩;have YW:Aside0 (Below w.heap.size w (w.alloc (.cells #[.int .i64 ch,.int .i64 bi] 23))):=⟨below_alloc (Below.refl _ _) _⟩;have z1:decide ((s.size:Int)<9)=false:=df_ (by omega);have z2:wrap64 (9+(n:Int))=(s.size:Int):=by unfold wrap64;omega
 have z3:wrap64 (5+(n:Int))=((n+5:Nat):Int):=by unfold wrap64;omega
 have z4:wrap64 ((s.size:Int) - 4)=((n+5:Nat):Int):=by unfold wrap64;omega
 have z2w:IntKind.i64.wrap (9+(n:Int))=(s.size:Int):=(i64_w _).trans z2;have z5:(5:Int)≤(s.size:Int):=by omega
 have y5:5≤s.size:=by omega
 have x5:=eq_true z5;have x51:decide ((5:Int)≤(s.size:Int))=true:=dt_ z5;have x3:=eq_true (show(3:Int)≤5 by decide);have x0:=eq_true (show(0:Int)≤3 by decide);have z6:(5:Int)≤((n+5:Nat):Int):=by omega
 have z7:((n+5:Nat):Int)≤(s.size:Int):=by omega
 have z8:(0:Int)≤((n+5:Nat):Int):=by omega
 have z9:¬((4096:Int)<n):=by omega
 have za:¬((64:Int)<bt s 2):=by omega
 have y1:1<s.size:=by omega
 have y2:2<s.size:=by omega
 have q1:(n:Int)≤4096:=by omega
 have q2:((s[2]'y2).toNat:Int)≤64:=by have:=bt_lit s 2 y2;have e:bt s 2=bt s ((2:Nat):Int):=rfl;omega
 have q3:(s[2]'y2).toNat≤64:=by omega
 have y3:(2:Int)<s.size:=by omega
 have y4:(1:Int)<s.size:=by omega
 have y6:(0:Int)<s.size:=by omega
 have y7:0<s.size:=by omega
 have HC:=Lib.hid (crc_Sum.some_ (s.extract 0 (n+5)) (by rw[ByteArray.size_extract];omega));obtain⟨cr,hcr⟩:∃c,(Crc.sum (s.extract 0 (n+5)).data.toList)=c:=⟨_,rfl⟩;rw[hcr] at h3 HC;have H3:=Lib.hid h3;clear hcr;obtain⟨m5,hm5⟩:∃m,n+5=m:=⟨_,rfl⟩;rw[hm5] at z3 z4 z6 z7 z8 H3 HO HC;have z3w:IntKind.i64.wrap (5+(n:Int))=(m5:Int):=(i64_w _).trans z3;have z4w:IntKind.i64.wrap ((s.size:Int) - 4)=(m5:Int):=(i64_w _).trans z4;clear hm h1 h3 ho hp hT h2 hn
 go_enter Tryz.func26,Tryz.ntmps26
 have r0:=blk_cell Y3.out 0;have r1:=blk_cell Y3.out 1;simp at r0 r1
 go_wp2_with fail
 clear r0 r1;refine(pcm_May.calls ch bi true _ HM.out).mono ?_;rintro e wk_ ⟨rfl,hb⟩;replace Y3:=Z_ (blk_below Y3.out hb);replace YW:=Z_ (below_step YW.out hb);clear hb
 go_wp2_with fail
 refine(field_Get.calls 20 _ _ _ _ H1.out).mono ?_;rintro e wk_ ⟨rfl,⟨⟨nd,rfl⟩⟩⟩;replace Y3:=Z_ (blk_drewN Y3.out nd);replace YW:=Z_ (pw_below_drewN YW.out nd);generalize World.drewN _ nd=wk_ at Y3 YW ⊢
 go_wp2_with fail
 refine(field_Get.calls 20 _ _ _ _ H3.out).mono ?_;rintro e wk_ ⟨rfl,⟨⟨nd,rfl⟩⟩⟩;replace Y3:=Z_ (blk_drewN Y3.out nd);replace YW:=Z_ (pw_below_drewN YW.out nd);generalize World.drewN _ nd=wk_ at Y3 YW ⊢
 go_wp2_with fail
 refine(crc_Sum.calls _ _ _ HC.out).mono ?_;rintro e wk_ ⟨rfl,hb⟩;replace Y3:=Z_ (blk_below Y3.out hb);replace YW:=Z_ (below_step YW.out hb);clear hb;have e0:bt s 0=((s[0]'y7).toNat:Int):=bt_lit s 0 y7;have e1:bt s 1=((s[1]'y1).toNat:Int):=bt_lit s 1 y1;obtain⟨k0,hk0⟩:∃x,(s[0]'y7).toNat=x:=⟨_,rfl⟩;obtain⟨k1,hk1⟩:∃x,(s[1]'y1).toNat=x:=⟨_,rfl⟩;obtain⟨k2,hk2⟩:∃x,(s[2]'y2).toNat=x:=⟨_,rfl⟩;have g1:k1<256:=by rw[←hk1];exact(s[1]'y1).toNat_lt
 have g2:k2<256:=by rw[←hk2];exact(s[2]'y2).toNat_lt
 have e2:bt s 2=((s[2]'y2).toNat:Int):=bt_lit s 2 y2;rw[e0,e1,e2,hk0,hk1,hk2] at HO;clear e0 e1 e2;rw[hk2] at q2 q3;have q7:¬((64:Int)<k2):=Int.not_lt.2 q2;have qd:((4096:Int)<n∨(64:Int)<k2)=False:=eq_false (by rintro(h|h);exact absurd q1 (Int.not_le.2 h);exact absurd q2 (Int.not_le.2 h));have q8:(k2:Int)≤64:=q2;have q9:(decide ((64:Int)<k2))=false:=df_ q7;have kw1:wrap64 (k1:Int)=k1:=by clear za;unfold wrap64;omega
 have kw2:wrap64 (k2:Int)=k2:=by clear za;unfold wrap64;omega
 obtain⟨fn,hf,hname,hbody⟩:=opens_fn k0;go_wp2;replace Y3:=Z_ (blk_drew Y3.out);replace YW:=Z_ (below_drew1 YW.out);refine start_ (n:=13) (S:=fun w'=>w'.heap[w.heap.size]?=some (.cells #[.int .i64 ch,.int .i64 bi] 23 (0,0))) (ds:= []) #[false,false,false,false,false,false,false,false,false,false,false,false,false] (by kernel_rfl) rfl rfl Y3.out (fun hHeld=>?_);refine with_tabW sgg.tab12 sgg.bits12 (fun HT_ HW_=>?_);generalize World.drew _=wk_ at Y3 YW hHeld ⊢;refine P_ 0 61 ?_;refine P_ 3 64 ?_;refine P_ 5 66 ?_;refine P_ 8 69 ?_;refine T_ 1 62 (y:=by rintro w' s0;have r0:=blk_cell s0 0;have r1:=blk_cell s0 1;simp at r0 r1;go_simp;with_reducible rfl) (h:=?_);refine T_ 4 65 (y:=by rintro w' s0;have r0:=blk_cell s0 0;have r1:=blk_cell s0 1;simp at r0 r1;go_simp;with_reducible rfl) (h:=?_);refine T_ 6 67 (y:=by rintro w' s0;have r0:=blk_cell s0 0;have r1:=blk_cell s0 1;simp at r0 r1;go_simp;with_reducible rfl) (h:=?_);refine P_ 7 68 ?_;refine T_ 9 70 (y:=by rintro w' s0;have r0:=blk_cell s0 0;have r1:=blk_cell s0 1;simp at r0 r1;go_simp;with_reducible rfl) (h:=?_);refine P_ 10 71 ?_;refine O_ 2 63 fun K hK=>?_
 refine goes_ Tryz.func65 (by kernel_rfl) rfl #[.int .u8 k0] (by rfl) rfl rfl (by first|rfl|(simp only[hk0];rfl)|(simp[Act.eval,hk0])) ?_;refine(opens_calls k0 _).mono ?_;rintro e wk_ ⟨rfl,nd,rfl⟩;refine⟨_,rfl,?_⟩;replace Y3:=Z_ (blk_drewN Y3.out nd);replace YW:=Z_ (pw_below_drewN YW.out nd);generalize World.drewN _ nd=wk_ at Y3 YW ⊢;refine hK.out _ _ Y3.out (fun hHeld=>?_);clear hK K;refine Nm_ 63 ?_;refine O_ 11 72 fun K hK=>?_
 refine goesV_ (f:=opens_ k0) hf hname hbody #[.string (s.extract 5 m5),.agg #[.int .i64 ch,.int .i64 bi],.int .i64 k1,.int .i64 k2] (by rfl) rfl rfl (by rfl) (by simp only[List.map_toArray,List.map_cons,List.map_nil,Act.eval];simp[hk1,hk2,kw1,kw2]) ?_;refine(opn_calls k k0 k2 _ d ch bi k1 HO.out _ (HT.out.below YW.out)).mono ?_;rintro e wk_ ⟨rfl,hb⟩;refine⟨_,rfl,?_⟩;replace Y3:=Z_ (blk_below Y3.out hb);replace YW:=Z_ (below_step YW.out hb);clear hb;refine hK.out _ _ Y3.out (fun hHeld=>?_);clear hK K;refine Nm_ 72 ?_;refine P_ 12 12 ?_;refine done_ (done_of HT_.out (by kernel_rfl)) ?_;have r0:=blk_cell Y3.out 0;have r1:=blk_cell Y3.out 1;simp at r0 r1
 go_wp2_with fail
 clear r0 r1;refine(segment_Put.calls k d ch bi _ _ _ HP.out (Tabs.below HT.out YW.out)).mono ?_;rintro e wk_ ⟨rfl,hb⟩;replace Y3:=Z_ (blk_below Y3.out hb);replace YW:=Z_ (below_step YW.out hb);clear hb;go_wp2;go_ret2;exact⟨rfl,YW.out⟩
end Go.Proofs.YtfghldonnffldaaGreatDoor
namespace Go.Proofs.YtfghldonnffldaaGreatDoor
open Go.RowKit YtfghldonnffldaaGreatDoorW.PrintWords YtfghldonnffldaaGreatDoorW.PrintLast YtfghldonnffldaaGreatDoorW.PrintMore TBase
open YFou HNin
noncomputable def segment_Get.f(k:Nat)(s:ByteArray)(ch bi:Int):Option (ByteArray×Int):=
 if 9≤s.size∧s.size≤4105∧pcm_May.f ch bi=some true∧bt s 2≤64∧field_Get.f 20 (s.extract 3 5)=some (((s.size - 9:Nat):Int),0)∧field_Get.f 20 (s.extract (s.size - 9+5) s.size)=some ((Crc.sum (s.extract 0 (s.size - 9+5)).data.toList:Int),0)
 then(opened k ch bi (bt s 1) (bt s 0) (bt s 2) (s.extract 5 (s.size - 9+5))).bind fun d=>if segment_Put.f k d ch bi=some (s,0) then some (d,0) else none
 else none
theorem segment_Get.calls(k:Nat)(s:ByteArray)(ch bi:Int)(r1:ByteArray)(r2:Int)(w:World)(h:segment_Get.f k s ch bi=some (r1,r2))(hT:Tabs w:=by exact Tabs.below hT B_):
  Calls Tryz.prog 26 #[.string s,.agg #[.int .i64 ch,.int .i64 bi]] w fun e w'=>e= .returned (.tuple #[.string r1,.int .i64 r2])∧Below w.heap.size w w':=by
 unfold segment_Get.f at h
 split at h
 ·rename_i hx;obtain⟨h1,h2,h3,h4,h5,h6⟩:=hx;obtain⟨d,hd,h⟩:=Ob_ h
  split at h
  ·rename_i hp;have e:=Option.some.inj h;obtain⟨rfl,rfl⟩:=Prod.mk.inj e;exact segGet_calls k s d (s.size - 9) ch bi w hT (by clear h4;omega) (by clear h4;omega) h3 h4 h5 h6 hd hp
  ·cases h
 ·cases h
end Go.Proofs.YtfghldonnffldaaGreatDoor
namespace Go.Proofs.YtfghldonnffldaaGreatDoor.ESev
open Go.RowKit TBase UOne VTwo XThr YFou ZFiv QSix YtfghldonnffldaaGreatDoorW.PrintWords YtfghldonnffldaaGreatDoorW.PrintLast YtfghldonnffldaaGreatDoorW.PrintMore
attribute [local go_sem] max2_int min2_int max_two min_two max_three min_three max_four min_four
noncomputable def file_whole_data.f(k:Nat)(a0_0:Int)(a0_1:Int)(a0_2:Int)(a0_3:Int)(a0_4:ByteArray)(a0_5:ByteArray)(l0_6:List ByteArray)(a1:Int):Option (ByteArray×Bool):=if 0≤a1 then(if a1<(l0_6.length:Int) then((segment_Get.f k (rdOf ByteArray.empty l0_6 a1) a0_0 a0_1).bind fun bt103=>(if bt103.2=0 then((file_whole_frames.f a0_0 a0_1 a0_2 a0_3 a0_4 a0_5 l0_6 a1).bind fun t105=>((pcm_Frame.f a0_0 a0_1).bind fun t106=>(if(bt103.1.size:Int)=(wrap64 (t105*t106)) then(some (bt103.1,true)) else(some ((⟨#[]⟩:ByteArray),false))))) else(some ((⟨#[]⟩:ByteArray),false)))) else(none)) else(none)
def file_whole_data.T1:Bool×List (List Nat×List Nat):=(true,[([],[]),([0],[0]),([1],[1]),([],[]),([2,3],[2,3]),([4],[4]),([],[]),([6],[6]),([7],[7]),([5,8],[5,8]),([9],[9]),([10],[10]),([10],[10]),([11,9,0,1,2,3,4,5,6,7,8,9,10,11],[11]),([12,13,0,1,2,3,4,5,6,7,8,9,10,11,12,13],[12])])
def file_whole_data.B1:List Nat:= [0,1,3,0,15,31,0,64,192,511,1023,2047,2047,4095,16383]
theorem file_whole_data.tab1:rtab .any (opsOf Tryz.f66 1)=file_whole_data.T1:=by kernel_rfl
theorem file_whole_data.bits1:waitsOk file_whole_data.T1.2 file_whole_data.B1=true:=by kernel_rfl
def file_whole_data.T2:Bool×List (List Nat×List Nat):=(true,[([],[]),([0],[0]),([1],[1]),([2],[2]),([3,2],[2,3]),([2],[2]),([2],[2]),([5,6,2,2],[2,5,6]),([2],[2]),([8,2],[2,8]),([9,2],[2,9]),([10,7,2],[2,10]),([7,11,2],[2,7,11]),([4,12,2],[2,4,12]),([2,13],[2,13])])
def file_whole_data.B2:List Nat:= [0,1,3,7,15,7,7,103,7,263,775,2023,4071,8191,16383]
theorem file_whole_data.tab2:rtab .any (opsOf Tryz.f66 2)=file_whole_data.T2:=by kernel_rfl
theorem file_whole_data.bits2:waitsOk file_whole_data.T2.2 file_whole_data.B2=true:=by kernel_rfl
theorem file_whole_data.calls(k:Nat)(a0_0:Int)(a0_1:Int)(a0_2:Int)(a0_3:Int)(a0_4:ByteArray)(a0_5:ByteArray)(A0_6:Option Addr)(c0_6:Nat)(l0_6:List ByteArray)(a1:Int)(r1:ByteArray)(r2:Bool)(w:World)(hr0_6:Kd.C Kd.string w A0_6 l0_6.length l0_6)(hc0_6:l0_6.length≤c0_6)(h:file_whole_data.f k a0_0 a0_1 a0_2 a0_3 a0_4 a0_5 l0_6 a1=some (r1,r2))(hT:Tabs w:=by exact Tabs.below hT B_):
  Calls Tryz.prog 66 #[.agg #[.int .i64 a0_0,.int .i64 a0_1,.int .i64 a0_2,.int .i64 a0_3,.string a0_4,.string a0_5,.slice A0_6 l0_6.length c0_6],.int .i64 a1] w fun e w'=>e= .returned (.tuple #[.string r1,.bool r2])∧Below w.heap.size w w':=by
 have hu127:=Tryz.underlying127;have hu23:=Tryz.underlying23;have HR0_6:=Z_ hr0_6;have HC0_6:=Z_ hc0_6;clear hr0_6 hc0_6;have HB:=Z_ (Below.refl w.heap.size w);have H:(if 0≤a1 then(if a1<(l0_6.length:Int) then((segment_Get.f k (rdOf ByteArray.empty l0_6 a1) a0_0 a0_1).bind fun bt103=>(if bt103.2=0 then((file_whole_frames.f a0_0 a0_1 a0_2 a0_3 a0_4 a0_5 l0_6 a1).bind fun t105=>((pcm_Frame.f a0_0 a0_1).bind fun t106=>(if(bt103.1.size:Int)=(wrap64 (t105*t106)) then(some (bt103.1,true)) else(some ((⟨#[]⟩:ByteArray),false))))) else(some ((⟨#[]⟩:ByteArray),false)))) else(none)) else(none))=some (r1,r2):=h;clear h
 by_cases c3:0≤a1
 ·rw[if_pos c3] at H;have c3b0:=dt_ c3;clear c3
  by_cases c4:a1<(l0_6.length:Int)
  ·rw[if_pos c4] at H;have c4b0:=dt_ c4;clear c4;replace H:=Ob_ H;obtain⟨⟨t103,t104⟩,A50,H⟩:=H;(try dsimp only at H);have A5:=Z_ A50;clear A50
   by_cases c6:t104=0
   ·rw[if_pos c6] at H;have c6b0:(t104==0)=true:=beq_iff_eq.mpr c6;have c6b1:(t104 !=0)=false:=bne_eq_false_iff_eq.mpr c6;clear c6;replace H:=Ob_ H;obtain⟨t105,A70,H⟩:=H;(try dsimp only at H);have A7:=Z_ A70;clear A70;replace H:=Ob_ H;obtain⟨t106,A80,H⟩:=H;(try dsimp only at H);have A8:=Z_ A80;clear A80
    by_cases c9:(t103.size:Int)=(wrap64 (t105*t106))
    ·rw[if_pos c9] at H;have c9b0:((t103.size:Int)==(wrap64 (t105*t106)))=true:=beq_iff_eq.mpr c9;have c9b1:((t103.size:Int) !=(wrap64 (t105*t106)))=false:=bne_eq_false_iff_eq.mpr c9;clear c9;simp only[Option.some.injEq,Prod.mk.injEq] at H;obtain⟨rfl,rfl⟩:=H
     go_enter Tryz.func66,Tryz.ntmps66
     try go_wp2_with (first|((try (refine gate_guard (by rfl) ?_;dsimp only));refine X_ 2 #[.int .i64 a0_0,.int .i64 a0_1,.int .i64 a0_2,.int .i64 a0_3,.string a0_4,.string a0_5,.slice A0_6 l0_6.length c0_6] 127 ?_;intro gb101 hg w10 hbox hb;have BK101:=Z_ (hbox);have GW101:=Z_ (G2_ hg:w.heap.size≤_);have GE101:=GW101;replace HB:=Hb_ hb;clear hb hbox hg))
     replace BK101:=Z_ (blk_drew BK101.out);replace HB:=Z_ (below_drew1 HB.out);have p102:0≤(a1:Int):=od_ A_;have q102:a1<(l0_6.length:Int):=od_ A_;obtain⟨ad102,e102,hx102_0⟩:=Kd.at_string HR0_6.out a1 p102 q102;have hw102_0:=hx102_0
     cases e102
     replace hx102_0:=Hc_ HB.out hx102_0;replace p102:=eq_true p102;replace q102:=eq_true q102;refine start_ (n:=15) (S:=fun w'=>w'.cell? ⟨gb101,0,none⟩=some (.int .i64 a0_0)∧w'.cell? ⟨gb101,1,none⟩=some (.int .i64 a0_1)∧w'.cell? ⟨gb101,2,none⟩=some (.int .i64 a0_2)∧w'.cell? ⟨gb101,3,none⟩=some (.int .i64 a0_3)∧w'.cell? ⟨gb101,4,none⟩=some (.string a0_4)∧w'.cell? ⟨gb101,5,none⟩=some (.string a0_5)∧w'.cell? ⟨gb101,6,none⟩=some (.slice (some ad102) l0_6.length c0_6)∧w'.cell? (ad102.add (a1).toNat)=some (.string (rdOf ByteArray.empty l0_6 a1))) (ds:= []) #[false,false,false,false,false,false,false,false,false,false,false,false,false,false,false] (by kernel_rfl) rfl rfl ⟨(blk_cell BK101.out 0).trans rfl,(blk_cell BK101.out 1).trans rfl,(blk_cell BK101.out 2).trans rfl,(blk_cell BK101.out 3).trans rfl,(blk_cell BK101.out 4).trans rfl,(blk_cell BK101.out 5).trans rfl,(blk_cell BK101.out 6).trans rfl,(Hc_ HB.out hw102_0)⟩ (fun hHeld=>?_);refine with_tabW file_whole_data.tab1 file_whole_data.bits1 (fun HT_ HW_=>?_);generalize w10.drew=w11 at BK101 HB hx102_0 hHeld ⊢;refine P_ 0 9 ?_;refine P_ 1 10 ?_;refine P_ 3 12 ?_;refine P_ 6 15 ?_;refine P_ 7 16 ?_;refine T_ 2 11 (y:=by rintro w' ⟨s0,s1,s2,s3,s4,s5,s6,s7⟩;go_simp;with_reducible rfl) (h:=?_);refine P_ 4 13 ?_;refine T_ 5 14 (y:=by rintro w' ⟨s0,s1,s2,s3,s4,s5,s6,s7⟩;go_simp;with_reducible rfl) (h:=?_);refine T_ 8 17 (y:=by rintro w' ⟨s0,s1,s2,s3,s4,s5,s6,s7⟩;go_simp;with_reducible rfl) (h:=?_);refine O_ 9 18 fun K hK=>?_
     refine g_ Tryz.func26 #[.string (rdOf ByteArray.empty l0_6 a1),.agg #[.int .i64 a0_0,.int .i64 a0_1]] ?_
     with_reducible refine(segment_Get.calls k (rdOf ByteArray.empty l0_6 a1) a0_0 a0_1 t103 t104 _ A5.out).mono ?_
     rintro e w12 ⟨rfl,hb⟩;refine⟨_,rfl,?_⟩;replace BK101:=Z_ (blk_below (K_ BK101) hb);replace HB:=Hb_ hb;(try clear hb);(try clear hb2);(try clear hk);(try clear hi);refine hK.out _ _ ⟨(blk_cell BK101.out 0).trans rfl,(blk_cell BK101.out 1).trans rfl,(blk_cell BK101.out 2).trans rfl,(blk_cell BK101.out 3).trans rfl,(blk_cell BK101.out 4).trans rfl,(blk_cell BK101.out 5).trans rfl,(blk_cell BK101.out 6).trans rfl,(Hc_ HB.out hw102_0)⟩ (fun hHeld=>?_);clear hK K;refine Nm_ 18 ?_;refine P_ 10 8 ?_;refine P_ 11 19 ?_;refine P_ 12 20 ?_;refine P_ 13 6 ?_;refine P_ 14 7 ?_;refine done_ (done_of HT_.out (by kernel_rfl)) ?_
     try go_wp2
     replace BK101:=Z_ (blk_drew BK101.out);replace HB:=Z_ (below_drew1 HB.out);refine start_ (n:=15) (S:=fun w'=>w'.cell? ⟨gb101,0,none⟩=some (.int .i64 a0_0)∧w'.cell? ⟨gb101,1,none⟩=some (.int .i64 a0_1)∧w'.cell? ⟨gb101,2,none⟩=some (.int .i64 a0_2)∧w'.cell? ⟨gb101,3,none⟩=some (.int .i64 a0_3)∧w'.cell? ⟨gb101,4,none⟩=some (.string a0_4)∧w'.cell? ⟨gb101,5,none⟩=some (.string a0_5)∧w'.cell? ⟨gb101,6,none⟩=some (.slice (some ad102) l0_6.length c0_6)) (ds:= []) #[false,false,false,false,false,false,false,false,false,false,false,false,false,false,false] (by kernel_rfl) rfl rfl ⟨(blk_cell BK101.out 0).trans rfl,(blk_cell BK101.out 1).trans rfl,(blk_cell BK101.out 2).trans rfl,(blk_cell BK101.out 3).trans rfl,(blk_cell BK101.out 4).trans rfl,(blk_cell BK101.out 5).trans rfl,(blk_cell BK101.out 6).trans rfl⟩ (fun hHeld=>?_);refine with_tabW file_whole_data.tab2 file_whole_data.bits2 (fun HT_ HW_=>?_);generalize w12.drew=w13 at BK101 HB hHeld ⊢;refine P_ 0 21 ?_;refine P_ 1 22 ?_;refine P_ 2 23 ?_;refine P_ 3 24 ?_;refine P_ 4 25 ?_;refine P_ 6 27 ?_;refine P_ 8 29 ?_;refine P_ 9 30 ?_;refine T_ 5 26 (y:=by rintro w' ⟨s0,s1,s2,s3,s4,s5,s6⟩;go_simp;with_reducible rfl) (h:=?_);refine T_ 10 31 (y:=by rintro w' ⟨s0,s1,s2,s3,s4,s5,s6⟩;go_simp;with_reducible rfl) (h:=?_);refine O_ 7 28 fun K hK=>?_
     refine g_ Tryz.func97 #[.agg #[.int .i64 a0_0,.int .i64 a0_1,.int .i64 a0_2,.int .i64 a0_3,.string a0_4,.string a0_5,.slice (some ad102) l0_6.length c0_6],.int .i64 a1] ?_
     with_reducible refine(file_whole_frames.calls a0_0 a0_1 a0_2 a0_3 a0_4 a0_5 _ _ l0_6 a1 t105 _ ?side1 ?side2 A7.out).mono ?_
     (case side1=>repeat (first|exact(Kd.C_below HR0_6.out HB.out)|(with_reducible refine Kd.C_alloc ?_ _)|(with_reducible refine Kd.C_drewN ?_ _)|(with_reducible refine Kd.C_drew ?_)));(case side2=>exact HC0_6.out);rintro e w14 ⟨rfl,hb⟩;refine⟨_,rfl,?_⟩;replace BK101:=Z_ (blk_below (K_ BK101) hb);replace HB:=Hb_ hb;(try clear hb);(try clear hb2);(try clear hk);(try clear hi);refine hK.out _ _ ⟨(blk_cell BK101.out 0).trans rfl,(blk_cell BK101.out 1).trans rfl,(blk_cell BK101.out 2).trans rfl,(blk_cell BK101.out 3).trans rfl,(blk_cell BK101.out 4).trans rfl,(blk_cell BK101.out 5).trans rfl,(blk_cell BK101.out 6).trans rfl⟩ (fun hHeld=>?_);clear hK K;refine Nm_ 28 ?_;refine O_ 11 32 fun K hK=>?_
     refine g_ Tryz.func29 #[.agg #[.int .i64 a0_0,.int .i64 a0_1]] ?_
     with_reducible refine(pcm_Frame.calls a0_0 a0_1 t106 _ A8.out).mono ?_
     rintro e w15 ⟨rfl,hb⟩;refine⟨_,rfl,?_⟩;replace BK101:=Z_ (blk_below (K_ BK101) hb);replace HB:=Hb_ hb;(try clear hb);(try clear hb2);(try clear hk);(try clear hi);refine hK.out _ _ ⟨(blk_cell BK101.out 0).trans rfl,(blk_cell BK101.out 1).trans rfl,(blk_cell BK101.out 2).trans rfl,(blk_cell BK101.out 3).trans rfl,(blk_cell BK101.out 4).trans rfl,(blk_cell BK101.out 5).trans rfl,(blk_cell BK101.out 6).trans rfl⟩ (fun hHeld=>?_);clear hK K;refine Nm_ 32 ?_;refine P_ 12 33 ?_;refine P_ 13 34 ?_;refine P_ 14 35 ?_;refine done_ (done_of HT_.out (by kernel_rfl)) ?_
     try go_wp2
     go_ret2;exact⟨E_,B_⟩
    ·rw[if_neg c9] at H;have c9b0:((t103.size:Int)==(wrap64 (t105*t106)))=false:=beq_eq_false_iff_ne.mpr c9;have c9b1:((t103.size:Int) !=(wrap64 (t105*t106)))=true:=bne_iff_ne.mpr c9;simp only[Option.some.injEq,Prod.mk.injEq] at H;obtain⟨rfl,rfl⟩:=H
     go_enter Tryz.func66,Tryz.ntmps66
     try go_wp2_with (first|((try (refine gate_guard (by rfl) ?_;dsimp only));refine X_ 2 #[.int .i64 a0_0,.int .i64 a0_1,.int .i64 a0_2,.int .i64 a0_3,.string a0_4,.string a0_5,.slice A0_6 l0_6.length c0_6] 127 ?_;intro gb101 hg w16 hbox hb;have BK101:=Z_ (hbox);have GW101:=Z_ (G2_ hg:w.heap.size≤_);have GE101:=GW101;replace HB:=Hb_ hb;clear hb hbox hg))
     replace BK101:=Z_ (blk_drew BK101.out);replace HB:=Z_ (below_drew1 HB.out);have p102:0≤(a1:Int):=od_ A_;have q102:a1<(l0_6.length:Int):=od_ A_;obtain⟨ad102,e102,hx102_0⟩:=Kd.at_string HR0_6.out a1 p102 q102;have hw102_0:=hx102_0
     cases e102
     replace hx102_0:=Hc_ HB.out hx102_0;replace p102:=eq_true p102;replace q102:=eq_true q102;refine start_ (n:=15) (S:=fun w'=>w'.cell? ⟨gb101,0,none⟩=some (.int .i64 a0_0)∧w'.cell? ⟨gb101,1,none⟩=some (.int .i64 a0_1)∧w'.cell? ⟨gb101,2,none⟩=some (.int .i64 a0_2)∧w'.cell? ⟨gb101,3,none⟩=some (.int .i64 a0_3)∧w'.cell? ⟨gb101,4,none⟩=some (.string a0_4)∧w'.cell? ⟨gb101,5,none⟩=some (.string a0_5)∧w'.cell? ⟨gb101,6,none⟩=some (.slice (some ad102) l0_6.length c0_6)∧w'.cell? (ad102.add (a1).toNat)=some (.string (rdOf ByteArray.empty l0_6 a1))) (ds:= []) #[false,false,false,false,false,false,false,false,false,false,false,false,false,false,false] (by kernel_rfl) rfl rfl ⟨(blk_cell BK101.out 0).trans rfl,(blk_cell BK101.out 1).trans rfl,(blk_cell BK101.out 2).trans rfl,(blk_cell BK101.out 3).trans rfl,(blk_cell BK101.out 4).trans rfl,(blk_cell BK101.out 5).trans rfl,(blk_cell BK101.out 6).trans rfl,(Hc_ HB.out hw102_0)⟩ (fun hHeld=>?_);refine with_tabW file_whole_data.tab1 file_whole_data.bits1 (fun HT_ HW_=>?_);generalize w16.drew=w17 at BK101 HB hx102_0 hHeld ⊢;refine P_ 0 9 ?_;refine P_ 1 10 ?_;refine P_ 3 12 ?_;refine P_ 6 15 ?_;refine P_ 7 16 ?_;refine T_ 2 11 (y:=by rintro w' ⟨s0,s1,s2,s3,s4,s5,s6,s7⟩;go_simp;with_reducible rfl) (h:=?_);refine P_ 4 13 ?_;refine T_ 5 14 (y:=by rintro w' ⟨s0,s1,s2,s3,s4,s5,s6,s7⟩;go_simp;with_reducible rfl) (h:=?_);refine T_ 8 17 (y:=by rintro w' ⟨s0,s1,s2,s3,s4,s5,s6,s7⟩;go_simp;with_reducible rfl) (h:=?_);refine O_ 9 18 fun K hK=>?_
     refine g_ Tryz.func26 #[.string (rdOf ByteArray.empty l0_6 a1),.agg #[.int .i64 a0_0,.int .i64 a0_1]] ?_
     with_reducible refine(segment_Get.calls k (rdOf ByteArray.empty l0_6 a1) a0_0 a0_1 t103 t104 _ A5.out).mono ?_
     rintro e w18 ⟨rfl,hb⟩;refine⟨_,rfl,?_⟩;replace BK101:=Z_ (blk_below (K_ BK101) hb);replace HB:=Hb_ hb;(try clear hb);(try clear hb2);(try clear hk);(try clear hi);refine hK.out _ _ ⟨(blk_cell BK101.out 0).trans rfl,(blk_cell BK101.out 1).trans rfl,(blk_cell BK101.out 2).trans rfl,(blk_cell BK101.out 3).trans rfl,(blk_cell BK101.out 4).trans rfl,(blk_cell BK101.out 5).trans rfl,(blk_cell BK101.out 6).trans rfl,(Hc_ HB.out hw102_0)⟩ (fun hHeld=>?_);clear hK K;refine Nm_ 18 ?_;refine P_ 10 8 ?_;refine P_ 11 19 ?_;refine P_ 12 20 ?_;refine P_ 13 6 ?_;refine P_ 14 7 ?_;refine done_ (done_of HT_.out (by kernel_rfl)) ?_
     try go_wp2
     replace BK101:=Z_ (blk_drew BK101.out);replace HB:=Z_ (below_drew1 HB.out);refine start_ (n:=15) (S:=fun w'=>w'.cell? ⟨gb101,0,none⟩=some (.int .i64 a0_0)∧w'.cell? ⟨gb101,1,none⟩=some (.int .i64 a0_1)∧w'.cell? ⟨gb101,2,none⟩=some (.int .i64 a0_2)∧w'.cell? ⟨gb101,3,none⟩=some (.int .i64 a0_3)∧w'.cell? ⟨gb101,4,none⟩=some (.string a0_4)∧w'.cell? ⟨gb101,5,none⟩=some (.string a0_5)∧w'.cell? ⟨gb101,6,none⟩=some (.slice (some ad102) l0_6.length c0_6)) (ds:= []) #[false,false,false,false,false,false,false,false,false,false,false,false,false,false,false] (by kernel_rfl) rfl rfl ⟨(blk_cell BK101.out 0).trans rfl,(blk_cell BK101.out 1).trans rfl,(blk_cell BK101.out 2).trans rfl,(blk_cell BK101.out 3).trans rfl,(blk_cell BK101.out 4).trans rfl,(blk_cell BK101.out 5).trans rfl,(blk_cell BK101.out 6).trans rfl⟩ (fun hHeld=>?_);refine with_tabW file_whole_data.tab2 file_whole_data.bits2 (fun HT_ HW_=>?_);generalize w18.drew=w19 at BK101 HB hHeld ⊢;refine P_ 0 21 ?_;refine P_ 1 22 ?_;refine P_ 2 23 ?_;refine P_ 3 24 ?_;refine P_ 4 25 ?_;refine P_ 6 27 ?_;refine P_ 8 29 ?_;refine P_ 9 30 ?_;refine T_ 5 26 (y:=by rintro w' ⟨s0,s1,s2,s3,s4,s5,s6⟩;go_simp;with_reducible rfl) (h:=?_);refine T_ 10 31 (y:=by rintro w' ⟨s0,s1,s2,s3,s4,s5,s6⟩;go_simp;with_reducible rfl) (h:=?_);refine O_ 7 28 fun K hK=>?_
     refine g_ Tryz.func97 #[.agg #[.int .i64 a0_0,.int .i64 a0_1,.int .i64 a0_2,.int .i64 a0_3,.string a0_4,.string a0_5,.slice (some ad102) l0_6.length c0_6],.int .i64 a1] ?_
     with_reducible refine(file_whole_frames.calls a0_0 a0_1 a0_2 a0_3 a0_4 a0_5 _ _ l0_6 a1 t105 _ ?side1 ?side2 A7.out).mono ?_
     (case side1=>repeat (first|exact(Kd.C_below HR0_6.out HB.out)|(with_reducible refine Kd.C_alloc ?_ _)|(with_reducible refine Kd.C_drewN ?_ _)|(with_reducible refine Kd.C_drew ?_)));(case side2=>exact HC0_6.out);rintro e w20 ⟨rfl,hb⟩;refine⟨_,rfl,?_⟩;replace BK101:=Z_ (blk_below (K_ BK101) hb);replace HB:=Hb_ hb;(try clear hb);(try clear hb2);(try clear hk);(try clear hi);refine hK.out _ _ ⟨(blk_cell BK101.out 0).trans rfl,(blk_cell BK101.out 1).trans rfl,(blk_cell BK101.out 2).trans rfl,(blk_cell BK101.out 3).trans rfl,(blk_cell BK101.out 4).trans rfl,(blk_cell BK101.out 5).trans rfl,(blk_cell BK101.out 6).trans rfl⟩ (fun hHeld=>?_);clear hK K;refine Nm_ 28 ?_;refine O_ 11 32 fun K hK=>?_
     refine g_ Tryz.func29 #[.agg #[.int .i64 a0_0,.int .i64 a0_1]] ?_
     with_reducible refine(pcm_Frame.calls a0_0 a0_1 t106 _ A8.out).mono ?_
     rintro e w21 ⟨rfl,hb⟩;refine⟨_,rfl,?_⟩;replace BK101:=Z_ (blk_below (K_ BK101) hb);replace HB:=Hb_ hb;(try clear hb);(try clear hb2);(try clear hk);(try clear hi);refine hK.out _ _ ⟨(blk_cell BK101.out 0).trans rfl,(blk_cell BK101.out 1).trans rfl,(blk_cell BK101.out 2).trans rfl,(blk_cell BK101.out 3).trans rfl,(blk_cell BK101.out 4).trans rfl,(blk_cell BK101.out 5).trans rfl,(blk_cell BK101.out 6).trans rfl⟩ (fun hHeld=>?_);clear hK K;refine Nm_ 32 ?_;refine P_ 12 33 ?_;refine P_ 13 34 ?_;refine P_ 14 35 ?_;refine done_ (done_of HT_.out (by kernel_rfl)) ?_
     try go_wp2
     go_ret2;exact⟨E_,B_⟩
   ·rw[if_neg c6] at H;have c6b0:(t104==0)=false:=beq_eq_false_iff_ne.mpr c6;have c6b1:(t104 !=0)=true:=bne_iff_ne.mpr c6;simp only[Option.some.injEq,Prod.mk.injEq] at H;obtain⟨rfl,rfl⟩:=H
    go_enter Tryz.func66,Tryz.ntmps66
    try go_wp2_with (first|((try (refine gate_guard (by rfl) ?_;dsimp only));refine X_ 2 #[.int .i64 a0_0,.int .i64 a0_1,.int .i64 a0_2,.int .i64 a0_3,.string a0_4,.string a0_5,.slice A0_6 l0_6.length c0_6] 127 ?_;intro gb101 hg w22 hbox hb;have BK101:=Z_ (hbox);have GW101:=Z_ (G2_ hg:w.heap.size≤_);have GE101:=GW101;replace HB:=Hb_ hb;clear hb hbox hg))
    replace BK101:=Z_ (blk_drew BK101.out);replace HB:=Z_ (below_drew1 HB.out);have p102:0≤(a1:Int):=od_ A_;have q102:a1<(l0_6.length:Int):=od_ A_;obtain⟨ad102,e102,hx102_0⟩:=Kd.at_string HR0_6.out a1 p102 q102;have hw102_0:=hx102_0
    cases e102
    replace hx102_0:=Hc_ HB.out hx102_0;replace p102:=eq_true p102;replace q102:=eq_true q102;refine start_ (n:=15) (S:=fun w'=>w'.cell? ⟨gb101,0,none⟩=some (.int .i64 a0_0)∧w'.cell? ⟨gb101,1,none⟩=some (.int .i64 a0_1)∧w'.cell? ⟨gb101,2,none⟩=some (.int .i64 a0_2)∧w'.cell? ⟨gb101,3,none⟩=some (.int .i64 a0_3)∧w'.cell? ⟨gb101,4,none⟩=some (.string a0_4)∧w'.cell? ⟨gb101,5,none⟩=some (.string a0_5)∧w'.cell? ⟨gb101,6,none⟩=some (.slice (some ad102) l0_6.length c0_6)∧w'.cell? (ad102.add (a1).toNat)=some (.string (rdOf ByteArray.empty l0_6 a1))) (ds:= []) #[false,false,false,false,false,false,false,false,false,false,false,false,false,false,false] (by kernel_rfl) rfl rfl ⟨(blk_cell BK101.out 0).trans rfl,(blk_cell BK101.out 1).trans rfl,(blk_cell BK101.out 2).trans rfl,(blk_cell BK101.out 3).trans rfl,(blk_cell BK101.out 4).trans rfl,(blk_cell BK101.out 5).trans rfl,(blk_cell BK101.out 6).trans rfl,(Hc_ HB.out hw102_0)⟩ (fun hHeld=>?_);refine with_tabW file_whole_data.tab1 file_whole_data.bits1 (fun HT_ HW_=>?_);generalize w22.drew=w23 at BK101 HB hx102_0 hHeld ⊢;refine P_ 0 9 ?_;refine P_ 1 10 ?_;refine P_ 3 12 ?_;refine P_ 6 15 ?_;refine P_ 7 16 ?_;refine T_ 2 11 (y:=by rintro w' ⟨s0,s1,s2,s3,s4,s5,s6,s7⟩;go_simp;with_reducible rfl) (h:=?_);refine P_ 4 13 ?_;refine T_ 5 14 (y:=by rintro w' ⟨s0,s1,s2,s3,s4,s5,s6,s7⟩;go_simp;with_reducible rfl) (h:=?_);refine T_ 8 17 (y:=by rintro w' ⟨s0,s1,s2,s3,s4,s5,s6,s7⟩;go_simp;with_reducible rfl) (h:=?_);refine O_ 9 18 fun K hK=>?_
    refine g_ Tryz.func26 #[.string (rdOf ByteArray.empty l0_6 a1),.agg #[.int .i64 a0_0,.int .i64 a0_1]] ?_
    with_reducible refine(segment_Get.calls k (rdOf ByteArray.empty l0_6 a1) a0_0 a0_1 t103 t104 _ A5.out).mono ?_
    rintro e w24 ⟨rfl,hb⟩;refine⟨_,rfl,?_⟩;replace BK101:=Z_ (blk_below (K_ BK101) hb);replace HB:=Hb_ hb;(try clear hb);(try clear hb2);(try clear hk);(try clear hi);refine hK.out _ _ ⟨(blk_cell BK101.out 0).trans rfl,(blk_cell BK101.out 1).trans rfl,(blk_cell BK101.out 2).trans rfl,(blk_cell BK101.out 3).trans rfl,(blk_cell BK101.out 4).trans rfl,(blk_cell BK101.out 5).trans rfl,(blk_cell BK101.out 6).trans rfl,(Hc_ HB.out hw102_0)⟩ (fun hHeld=>?_);clear hK K;refine Nm_ 18 ?_;refine P_ 10 8 ?_;refine P_ 11 19 ?_;refine P_ 12 20 ?_;refine P_ 13 6 ?_;refine P_ 14 7 ?_;refine done_ (done_of HT_.out (by kernel_rfl)) ?_
    try go_wp2
    replace BK101:=Z_ (blk_drew BK101.out);replace HB:=Z_ (below_drew1 HB.out);refine start_ (n:=15) (S:=fun w'=>True) (ds:= []) #[false,false,false,false,false,false,false,false,false,false,false,false,false,false,false] (by kernel_rfl) rfl rfl trivial (fun hHeld=>?_);refine with_tabW file_whole_data.tab2 file_whole_data.bits2 (fun HT_ HW_=>?_);generalize w24.drew=w25 at BK101 HB hHeld ⊢;refine P_ 0 21 ?_;refine P_ 1 22 ?_;refine P_ 2 23 ?_;refine U_ 3 24 ?_;refine U_ 4 25 ?_;refine U_ 5 26 ?_;refine U_ 6 27 ?_;refine U_ 7 28 ?_;refine U_ 8 29 ?_;refine U_ 9 30 ?_;refine U_ 10 31 ?_;refine U_ 11 32 ?_;refine U_ 12 33 ?_;refine U_ 13 34 ?_;refine P_ 14 35 ?_;refine done_ (done_of HT_.out (by kernel_rfl)) ?_
    try go_wp2
    go_ret2;exact⟨E_,B_⟩
  ·rw[if_neg c4] at H;exact absurd H (by simp)
 ·rw[if_neg c3] at H;exact absurd H (by simp)
end Go.Proofs.YtfghldonnffldaaGreatDoor.ESev
namespace Go.Proofs.YtfghldonnffldaaGreatDoor
open Go.RowKit YtfghldonnffldaaGreatDoorW.PrintWords YtfghldonnffldaaGreatDoorW.PrintLast YtfghldonnffldaaGreatDoorW.PrintMore TBase
open YFou ESev
theorem file_Data.calls(k:Nat)(a0_0:Int)(a0_1:Int)(a0_2:Int)(a0_3:Int)(a0_4:ByteArray)(a0_5:ByteArray)(A0_6:Option Addr)(c0_6:Nat)(l0_6:List ByteArray)(a1:Int)(r1:ByteArray)(r2:Bool)(w:World)(hr0_6:Kd.C Kd.string w A0_6 l0_6.length l0_6)(hc0_6:l0_6.length≤c0_6)(h:file_whole_data.f k a0_0 a0_1 a0_2 a0_3 a0_4 a0_5 l0_6 a1=some (r1,r2))(hT:Tabs w:=by exact Tabs.below hT B_):
  Calls Tryz.prog 31 #[.agg #[.int .i64 a0_0,.int .i64 a0_1,.int .i64 a0_2,.int .i64 a0_3,.string a0_4,.string a0_5,.slice A0_6 l0_6.length c0_6],.int .i64 a1] w fun e w'=>e= .returned (.tuple #[.string r1,.bool r2])∧Below w.heap.size w w':=by
 have hu49:=Tryz.underlying49;have hu127:=Tryz.underlying127;have HW:=Lib.hid (file_whole_data.calls k a0_0 a0_1 a0_2 a0_3 a0_4 a0_5 A0_6 c0_6 l0_6 a1 r1 r2 (w.alloc (.cells #[.int .i64 a0_0,.int .i64 a0_1,.int .i64 a0_2,.int .i64 a0_3,.string a0_4,.string a0_5,.slice A0_6 l0_6.length c0_6] 49)) (Kd.C_below hr0_6 (below_alloc (Below.refl _ _) _)) hc0_6 h (Tabs.below hT (below_alloc (Below.refl _ _) _)));have Y2:Aside0 ((w.alloc (.cells #[.int .i64 a0_0,.int .i64 a0_1,.int .i64 a0_2,.int .i64 a0_3,.string a0_4,.string a0_5,.slice A0_6 l0_6.length c0_6] 49)).heap[w.heap.size]?=some (.cells #[.int .i64 a0_0,.int .i64 a0_1,.int .i64 a0_2,.int .i64 a0_3,.string a0_4,.string a0_5,.slice A0_6 l0_6.length c0_6] 49 (0,0))):=⟨blk_new w _⟩;have YB:Aside0 (Below w.heap.size w (w.alloc (.cells #[.int .i64 a0_0,.int .i64 a0_1,.int .i64 a0_2,.int .i64 a0_3,.string a0_4,.string a0_5,.slice A0_6 l0_6.length c0_6] 49))):=⟨below_alloc (Below.refl _ _) _⟩;clear h hT hr0_6
 go_enter Tryz.func31,Tryz.ntmps31
 have r0:=blk_cell Y2.out 0;have r1':=blk_cell Y2.out 1;have r2':=blk_cell Y2.out 2;have r3:=blk_cell Y2.out 3;have r4:=blk_cell Y2.out 4;have r5:=blk_cell Y2.out 5;have r6:=blk_cell Y2.out 6;simp at r0 r1' r2' r3 r4 r5 r6
 go_wp2_with fail
 refine HW.out.mono ?_;rintro e wk_ ⟨rfl,hb⟩;go_wp2;go_ret2;exact⟨rfl,below_step YB.out hb⟩
end Go.Proofs.YtfghldonnffldaaGreatDoor
namespace Go.Proofs.YtfghldonnffldaaGreatDoor
open Go.RowKit YtfghldonnffldaaGreatDoorW.PrintWords YtfghldonnffldaaGreatDoorW.PrintLast YtfghldonnffldaaGreatDoorW.PrintMore TBase
open YFou ESev ZFiv
def dec.T13:Bool×List (List Nat×List Nat):=(true,[([],[]),([0],[0]),([],[]),([2],[2]),([],[]),([],[]),([5],[5]),([1,3,4,6],[1,3,4,6]),([7,4],[7]),([8],[8]),([9],[9]),([9],[9]),([10,8,0,1,2,3,4,5,6,7,8,9,10],[10]),([11,12,0,1,2,3,4,5,6,7,8,9,10,11,12],[11])])
def dec.B13:List Nat:= [0,1,0,4,0,0,32,127,255,511,1023,1023,2047,8191]
theorem dec.tab13:rtab .any (opsOf Tryz.f13 13)=dec.T13:=by kernel_rfl
theorem dec.bits13:waitsOk dec.T13.2 dec.B13=true:=by kernel_rfl
theorem decode_calls(k k2:Nat)(s:ByteArray)(ch bi sz fr:Nat)(hd tl:ByteArray)(l D:List ByteArray)(p1 p2 p3 p5 q:Nat)(r:ByteArray)(w:World)(hT:Tabs w)(ho:StrOk s ch bi sz fr hd tl l p1 p2 p3 p5 q)(hD:D.length=l.length)(hds:∀i,i<l.length→file_whole_data.f k ch bi sz fr hd tl l (i:Int)=some (D.getD i ByteArray.empty,true))(hdt:tot D≤140737488355328)(hb:wave_Build.f k2 ch bi hd ⟨(flat D).toArray⟩ tl=some (r,0)):
  Calls Tryz.prog 13 #[.string s] w fun e w'=>e= .returned (.tuple #[.string r,.int .i64 0])∧Below w.heap.size w w':=by
 have hu49:=Tryz.underlying49;have hu23:=Tryz.underlying23;have hu57:=Tryz.underlying57;have HT:=Z_ hT;have HDS:=Z_ hds;have HBD:=Lib.hid hb;have HDL:=Lib.hid hD;have hll:l.length≤65536:=by have h2:=ho.hq;have h3:=ho.fin;have h4:=ho.size;omega
 have SG:=Lib.hid (sget_calls s ch bi sz fr hd tl l p1 p2 p3 p5 q w ho);clear hT hds hb hD ho
 go_enter Tryz.func13,Tryz.ntmps13
 go_wp2_with fail
 refine SG.out.mono ?_;rintro e w1 ⟨v0,rfl,hr,hb⟩;obtain⟨As,cs_,he,hcs,_⟩:=Kd.R_reads hr;subst he;have HS:=Z_ hr;have YW:=Z_ hb;clear hr hb
 go_wp2_with (first|(refine X_ 4 #[.int .i64 0,.int .i64 0,.int .i64 0,.int .i64 0,.string ⟨#[]⟩,.string ⟨#[]⟩,.slice none 0 0] 49 ?_;intro gt hg wk_ hbox hb;have HGT0:Aside0 (w.heap.size≤gt):=⟨by rw[hg];exact YW.out.size⟩;have HG_:=Z_ hg;have HB_:=Z_ hb;have YT:=Z_ hbox;clear hbox hb hg)|((with_reducible refine gate_store (t:=49) (p:=4) rfl ?_);refine wpList_store_mid rfl 49 _ _ rfl gt 0 #[.int .i64 ch,.int .i64 bi,.int .i64 sz,.int .i64 fr,.string hd,.string tl,.slice As l.length cs_] rfl rfl (there_blk (vs:= [.int .i64 0,.int .i64 0,.int .i64 0,.int .i64 0,.string ⟨#[]⟩,.string ⟨#[]⟩,.slice none 0 0]) YT.out 0 7 (by decide)) (by kernel_rfl) (by simp[Value.oneCell']) ?_;have nc_:=Z_ (setCells_all (vs:= [.int .i64 ch,.int .i64 bi,.int .i64 sz,.int .i64 fr,.string hd,.string tl,.slice As l.length cs_]) (old:= [.int .i64 0,.int .i64 0,.int .i64 0,.int .i64 0,.string ⟨#[]⟩,.string ⟨#[]⟩,.slice none 0 0]) YT.out rfl);have hb:=below_setCells HB_.out (Nat.le_of_eq HG_.out.symm) [.int .i64 ch,.int .i64 bi,.int .i64 sz,.int .i64 fr,.string hd,.string tl,.slice As l.length cs_] 0;replace HS:=Z_ (Kd.R_below HS.out hb);replace YW:=Z_ (below_step YW.out hb);clear hb HB_ HG_ YT;have YT:=nc_;clear nc_;generalize World.setCells _ _ _ _=wk_ at HS YW YT ⊢)|(refine X_ 6 #[.pointer none,.slice none 0 0] 66 ?_;intro gb hg wk_ hbox hb;have HGT:Aside0 (gt<gb):=⟨by rw[hg];exact blk_lt YT.out⟩;have HGB:Aside0 (w.heap.size≤gb):=⟨by rw[hg];exact YW.out.size⟩;have n9_:=Z_ (Kd.R_mono (Kd.R_bound HS.out) (ok':=fun k=>k<gb) (fun k hk=>by rw[hg];exact hk.2.2.1));clear HS;have HS:=n9_;clear n9_;replace HS:=Z_ (Kd.R_below HS.out hb);replace YW:=Z_ (below_step YW.out hb);replace YT:=Z_ (blk_below YT.out hb);have YBX:=Z_ hbox;clear hbox hb hg;have r6:=blk_cell YT.out 6;simp at r6))
 have YB:=Z_ (bldF_new YBX.out);have HGB2:=Z_ (Nat.le_of_lt (blk_lt YBX.out));clear YBX
 go_loopg [21] l.length (fun d v21 wr=>∃i:Nat,v21= .int .i64 i∧i+d=l.length∧Aside0 (wr.heap[gt]?=some (.cells #[.int .i64 ch,.int .i64 bi,.int .i64 sz,.int .i64 fr,.string hd,.string tl,.slice As l.length cs_] 49 (0,0)))∧Aside0 (Below w.heap.size w wr)∧Aside0 (Lib.IsBuilderF 66 5 gb gb (Lib.byteCells (flat (D.take i))) wr)∧Aside0 (gb≤wr.heap.size)∧Aside0 (Kd.R Kd.string 9 wr w.heap.size (fun k=>k<gb) (.slice As l.length cs_) l))
 case atStart=>exact⟨0,rfl,by omega,YT,YW,⟨by rw[List.take_zero];exact YB.out⟩,HGB2,HS⟩
 case round=>
  clear YT YW YB HGB2 HS r6;obtain⟨i,rfl,hi,YT,YW,YB,HGB2,HS⟩:=hrel
  cases gk with
  |zero=>
   obtain rfl:l.length=i:=by omega
   have e1:D.take l.length=D:=List.take_of_length_le (by rw[HDL.out];exact Nat.le_refl _);rw[e1] at YB;obtain⟨LL,hL⟩:∃L,flat D=L:=⟨_,rfl⟩;rw[hL] at YB HBD;clear hL e1;go_wp2;replace YT:=Z_ (blk_drew YT.out);replace YW:=Z_ (below_drew1 YW.out);replace YB:=Z_ (bldF_below YB.out (below_drew (Below.refl _ _)));replace HGB2:=Z_ (size_drew HGB2.out);replace HS:=Z_ (Kd.R_drew HS.out);refine start_ (n:=14) (S:=fun w'=>w'.heap[gt]?=some (.cells #[.int .i64 ch,.int .i64 bi,.int .i64 sz,.int .i64 fr,.string hd,.string tl,.slice As l.length cs_] 49 (0,0))) (ds:= []) #[false,false,false,false,false,false,false,false,false,false,false,false,false,false] (by kernel_rfl) rfl rfl YT.out (fun hHeld=>?_);refine with_tabW dec.tab13 dec.bits13 (fun HT_ HW_=>?_);generalize World.drew _=wk_ at YT YW YB HGB2 HS hHeld ⊢;refine P_ 0 36 ?_;refine P_ 2 38 ?_;refine P_ 5 41 ?_;refine T_ 1 37 (y:=by rintro w' s0;have r0:=blk_cell s0 0;have r1:=blk_cell s0 1;have r2:=blk_cell s0 2;have r3:=blk_cell s0 3;have r4:=blk_cell s0 4;have r5:=blk_cell s0 5;simp at r0 r1 r2 r3 r4 r5;go_simp;with_reducible rfl) (h:=?_);refine T_ 3 39 (y:=by rintro w' s0;have r0:=blk_cell s0 0;have r1:=blk_cell s0 1;have r2:=blk_cell s0 2;have r3:=blk_cell s0 3;have r4:=blk_cell s0 4;have r5:=blk_cell s0 5;simp at r0 r1 r2 r3 r4 r5;go_simp;with_reducible rfl) (h:=?_);refine T_ 6 42 (y:=by rintro w' s0;have r0:=blk_cell s0 0;have r1:=blk_cell s0 1;have r2:=blk_cell s0 2;have r3:=blk_cell s0 3;have r4:=blk_cell s0 4;have r5:=blk_cell s0 5;simp at r0 r1 r2 r3 r4 r5;go_simp;with_reducible rfl) (h:=?_);refine O_ 4 40 fun K hK=>?_
   refine g_ Tryz.func34 #[.pointer (some ⟨gb,0,none⟩)] ?_;refine(str_calls gb LL _ YB.out HGB2.out).mono ?_;rintro e wk_ ⟨rfl,hbb,hbw⟩;refine⟨_,rfl,?_⟩;replace YT:=Z_ ((hbw.block gt HGT.out).trans YT.out);replace YW:=Z_ (YW.out.trans (hbw.mono HGB.out));replace YB:=Z_ hbb;replace HGB2:=Z_ (Nat.le_trans HGB2.out hbw.size);replace HS:=Z_ (Kd.R_step HS.out (fun k_ hk_ _=>hbw.block k_ hk_));clear hbw hbb;refine hK.out _ _ YT.out (fun hHeld=>?_);clear hK K;refine Nm_ 40 ?_;refine P_ 7 43 ?_;refine O_ 8 44 fun K hK=>?_
   refine g_ Tryz.func33 #[.agg #[.int .i64 ch,.int .i64 bi,.string hd,.string ⟨LL.toArray⟩,.string tl]] ?_;refine(wave_Build.calls k2 ch bi hd ⟨LL.toArray⟩ tl _ _ _ HBD.out).mono ?_;rintro e wk_ ⟨rfl,hb⟩;refine⟨_,rfl,?_⟩;replace HS:=Z_ (Kd.R_below HS.out hb);replace YW:=Z_ (below_step YW.out hb);replace YT:=Z_ (blk_below YT.out hb);replace YB:=Z_ (bldF_below YB.out hb);replace HGB2:=Z_ (Nat.le_trans HGB2.out hb.size);clear hb;refine hK.out _ _ YT.out (fun hHeld=>?_);clear hK K;refine Nm_ 44 ?_;refine P_ 9 35 ?_;refine P_ 10 45 ?_;refine P_ 11 46 ?_;refine P_ 12 10 ?_;refine P_ 13 5 ?_;refine done_ (done_of HT_.out (by kernel_rfl)) ?_;go_wp2;go_ret2;exact⟨rfl,YW.out⟩
  |succ d=>
   have hlt:i<l.length:=by omega
   have hlt':(i:Int)<l.length:=by omega
   have hi0:(0:Int)≤i:=by omega
   have HF:=Lib.hid (HDS.out i hlt);have hst:=flat_at D i (by rw[HDL.out];exact hlt)
   have hsn:D.take (i+1)=D.take i++ [D.getD i ByteArray.empty]:=by
    have h9:i<D.length:=by rw[HDL.out];exact hlt
    rw[List.take_succ_eq_append_getElem h9,gD_,gE_ h9];rfl
   have hfl:flat (D.take (i+1))=flat (D.take i)++(D.getD i ByteArray.empty).data.toList:=by
    rw[hsn];unfold flat;rw[List.map_append,List.flatten_append];simp
   have hle:=tot_le D (i+1);rw[←flat_len (D.take (i+1)),hfl,List.length_append,data_length] at hle;obtain⟨x,hx⟩:∃x,D.getD i ByteArray.empty=x:=⟨_,rfl⟩;rw[hx] at HF hfl hle;obtain⟨L,hL⟩:∃L,flat (D.take i)=L:=⟨_,rfl⟩;rw[hL] at YB hfl hle;have HFL:=Lib.hid hfl;have hbd:L.length+x.size≤140737488355328:=by omega
   clear hst hsn hfl hle hx hL
   go_wp2_with (first|((with_reducible refine gate_dst (N:=25) rfl ?_);refine wpList_load_mid rfl 49 _ rfl gt 0 rfl [.int .i64 ch,.int .i64 bi,.int .i64 sz,.int .i64 fr,.string hd,.string tl,.slice As l.length cs_] _ (range_all YT.out) Tryz.underlying49 rfl (by kernel_rfl) ?_))
   refine(file_Data.calls k ch bi sz fr hd tl As cs_ l i _ _ _ (Kd.R_reads' HS.out).2.2 hcs HF.out (Tabs.below HT.out YW.out)).mono ?_;rintro e wk_ ⟨rfl,hb⟩;replace HS:=Z_ (Kd.R_below HS.out hb);replace YW:=Z_ (below_step YW.out hb);replace YT:=Z_ (blk_below YT.out hb);replace YB:=Z_ (bldF_below YB.out hb);replace HGB2:=Z_ (Nat.le_trans HGB2.out hb.size);clear hb
   go_wp2_with fail
   refine(wstr_calls gb L x _ YB.out hbd HGB2.out).mono ?_;rintro e wk_ ⟨rfl,hbb,hbw⟩;replace YT:=Z_ ((hbw.block gt HGT.out).trans YT.out);replace YW:=Z_ (YW.out.trans (hbw.mono HGB.out));replace YB:=Z_ hbb;replace HGB2:=Z_ (Nat.le_trans HGB2.out hbw.size);replace HS:=Z_ (Kd.R_step HS.out (fun k_ hk_ _=>hbw.block k_ hk_));clear hbw hbb;go_wp2
   go_roundg d
   case measure=>omega
   case rel=>exact⟨i+1,by go_num,by omega,YT,YW,⟨by rw[HFL.out];exact YB.out⟩,HGB2,HS⟩
def rng.T17:Bool×List (List Nat×List Nat):=(true,[([],[]),([0],[0]),([1],[1]),([],[]),([],[]),([4],[4]),([3,5],[3,5]),([2,2,0,1,2],[2]),([6,7,0,1,2,3,4,5,6,7],[6])])
def rng.B17:List Nat:= [0,1,3,0,0,16,56,7,255]
theorem rng.tab17:rtab .any (opsOf Tryz.f19 17)=rng.T17:=by kernel_rfl
theorem rng.bits17:waitsOk rng.T17.2 rng.B17=true:=by kernel_rfl
theorem w_sub(a u x:Nat)(h:u≤a)(hb:a≤4096)(e:a - u=x):wrap64 ((a:Int) - u)=(x:Int):=by unfold wrap64;omega
theorem w_mul(x y z:Nat)(e:x*y=z)(hb:z≤9223372036854775807):wrap64 ((x:Int)*(y:Int))=(z:Int):=by
 rw[←Int.natCast_mul,e];unfold wrap64;omega
theorem w_succ(i:Nat)(h:i≤65536):wrap64 ((i:Int)+1)=((i+1:Nat):Int):=by unfold wrap64;omega
theorem w_id(x:Nat)(hb:x≤9223372036854775807):wrap64 (x:Int)=(x:Int):=by unfold wrap64;omega
theorem range_calls(k:Nat)(s:ByteArray)(ch bi sz fr:Nat)(hd tl:ByteArray)(l D:List ByteArray)(p1 p2 p3 p5 q:Nat)(a b f0 e0 fs_:Nat)(w:World)(hT:Tabs w)(ho:StrOk s ch bi sz fr hd tl l p1 p2 p3 p5 q)(hab:a<b)(hb:b≤fr)(hf0:a / sz=f0)(he0:∀i:Nat,i<e0↔i*sz<b)(hel:e0≤l.length)(hfe:f0≤e0)(hds:∀i,f0≤i→i<e0→file_whole_data.f k ch bi sz fr hd tl l (i:Int)=some (D.getD i ByteArray.empty,true))(hD:D.length=l.length)(hdt:tot D≤140737488355328)(hfr:pcm_Frame.f ch bi=some (fs_:Int))(hfs:fs_≤4)(hlen:(b - f0*sz)*fs_≤tot ((D.drop f0).take (e0 - f0))):
  Calls Tryz.prog 19 #[.string s,.int .i64 a,.int .i64 b] w fun e w'=>e= .returned (.tuple #[.string ((⟨(flat ((D.drop f0).take (e0 - f0))).toArray⟩:ByteArray).extract ((a - f0*sz)*fs_) ((b - f0*sz)*fs_)),.int .i64 0])∧Below w.heap.size w w':=by
 have hu49:=Tryz.underlying49;have hu23:=Tryz.underlying23;have HT:=Z_ hT;have HDS:=Z_ hds;have HFR:=Lib.hid hfr;have HDL:=Lib.hid hD;have HE0:=Z_ he0;have hll:l.length≤65536:=by have h2:=ho.hq;have h3:=ho.fin;have h4:=ho.size;omega
 have hok:=ho.ok;obtain⟨_,_,hz1,hz2,_,hz3,_,_⟩:=hok;have SG:=Lib.hid (sget_calls s ch bi sz fr hd tl l p1 p2 p3 p5 q w ho);clear hT hds hfr hD ho;have b1:¬((a:Int)<0):=by omega
 have b2:¬((b:Int)<a):=by omega
 have b3:¬((fr:Int)<b):=by omega
 have b4:¬((a:Int)=b):=by omega
 have b5:¬((sz:Int)=0):=by omega
 have b6:Int.tdiv (a:Int) (sz:Int)=(f0:Int):=by rw[←hf0];rfl
 have b7:=w_id f0 (by omega);have hu:f0*sz≤a:=by rw[←hf0];exact Nat.div_mul_le_self a sz
 have hzb:∀i:Nat,i≤e0→i*sz≤65536*64:=fun i hi=>Nat.mul_le_mul (by omega) (by omega)
 have HZB:=Z_ hzb;have hx2:(b - f0*sz)*fs_≤4096*4:=Nat.mul_le_mul (by omega) hfs;have hx1:(a - f0*sz)*fs_≤(b - f0*sz)*fs_:=Nat.mul_le_mul_right _ (by omega);obtain⟨res,hres⟩:∃r,(⟨(flat ((D.drop f0).take (e0 - f0))).toArray⟩:ByteArray).extract ((a - f0*sz)*fs_) ((b - f0*sz)*fs_)=r:=⟨_,rfl⟩;rw[hres];obtain⟨u1,hu1⟩:∃u,f0*sz=u:=⟨_,rfl⟩;rw[hu1] at hu hx2 hx1 hlen hres;have hb4:b≤4096:=by clear hlen hdt hx1 hx2;omega
 have ha4:a≤4096:=Nat.le_trans (Nat.le_of_lt hab) hb4;have g1:=w_mul f0 sz u1 hu1 (Nat.le_trans hu (Nat.le_trans ha4 (by decide)));obtain⟨x1,hx1e⟩:∃u,a - u1=u:=⟨_,rfl⟩;obtain⟨x2,hx2e⟩:∃u,b - u1=u:=⟨_,rfl⟩;have g2:=w_sub a u1 x1 hu ha4 hx1e;have g3:=w_sub b u1 x2 (Nat.le_trans hu (Nat.le_of_lt hab)) hb4 hx2e;rw[hx1e] at hx1 hres;rw[hx2e] at hx2 hx1 hlen hres;obtain⟨y1,hy1⟩:∃u,x1*fs_=u:=⟨_,rfl⟩;obtain⟨y2,hy2⟩:∃u,x2*fs_=u:=⟨_,rfl⟩;rw[hy1] at hx1 hres;rw[hy2] at hx2 hx1 hlen hres;have g4:=w_mul x1 fs_ y1 hy1 (Nat.le_trans hx1 (Nat.le_trans hx2 (by decide)));have g5:=w_mul x2 fs_ y2 hy2 (Nat.le_trans hx2 (by decide));have RES:=Lib.hid hres;have HLEN:=Z_ hlen;have G1:=Lib.hid g1;have G2:=Lib.hid g2;have G3:=Lib.hid g3;have G4:=Lib.hid g4;have G5:=Lib.hid g5;have HX1:=Z_ hx1;have HX2:=Z_ hx2;clear g1 g2 g3 g4 g5 hx1 hx2 ha4 hb4;clear hres hlen hu1 hx1e hx2e hy1 hy2 hzb hu;have HDT:=Z_ hdt;have HLL0:=Z_ hll;clear he0 hf0 hfs hdt hz3 hll
 go_enter Tryz.func19,Tryz.ntmps19
 go_wp2_with fail
 refine SG.out.mono ?_;rintro e w1 ⟨v0,rfl,hr,hb⟩;obtain⟨As,cs_,he,hcs,_⟩:=Kd.R_reads hr;subst he;have HS:=Z_ hr;have YW:=Z_ hb;clear hr hb
 go_wp2_with (first|(refine X_ 8 #[.int .i64 0,.int .i64 0,.int .i64 0,.int .i64 0,.string ⟨#[]⟩,.string ⟨#[]⟩,.slice none 0 0] 49 ?_;intro gt hg wk_ hbox hb;have HGT0:Aside0 (w.heap.size≤gt):=⟨by rw[hg];exact YW.out.size⟩;have HG_:=Z_ hg;have HB_:=Z_ hb;have YT:=Z_ hbox;clear hbox hb hg)|((with_reducible refine gate_store (t:=49) (p:=8) rfl ?_);refine wpList_store_mid rfl 49 _ _ rfl gt 0 #[.int .i64 ch,.int .i64 bi,.int .i64 sz,.int .i64 fr,.string hd,.string tl,.slice As l.length cs_] rfl rfl (there_blk (vs:= [.int .i64 0,.int .i64 0,.int .i64 0,.int .i64 0,.string ⟨#[]⟩,.string ⟨#[]⟩,.slice none 0 0]) YT.out 0 7 (by decide)) (by kernel_rfl) (by simp[Value.oneCell']) ?_;have nc_:=Z_ (setCells_all (vs:= [.int .i64 ch,.int .i64 bi,.int .i64 sz,.int .i64 fr,.string hd,.string tl,.slice As l.length cs_]) (old:= [.int .i64 0,.int .i64 0,.int .i64 0,.int .i64 0,.string ⟨#[]⟩,.string ⟨#[]⟩,.slice none 0 0]) YT.out rfl);have hb:=below_setCells HB_.out (Nat.le_of_eq HG_.out.symm) [.int .i64 ch,.int .i64 bi,.int .i64 sz,.int .i64 fr,.string hd,.string tl,.slice As l.length cs_] 0;replace HS:=Z_ (Kd.R_below HS.out hb);replace YW:=Z_ (below_step YW.out hb);clear hb HB_ HG_ YT;have YT:=nc_;clear nc_;generalize World.setCells _ _ _ _=wk_ at HS YW YT ⊢;have r2:=blk_cell YT.out 2;have r3:=blk_cell YT.out 3;simp at r2 r3)|(refine X_ 11 #[.pointer none,.slice none 0 0] 66 ?_;intro gb hg wk_ hbox hb;have HGT:Aside0 (gt<gb):=⟨by rw[hg];exact blk_lt YT.out⟩;have HGB:Aside0 (w.heap.size≤gb):=⟨by rw[hg];exact YW.out.size⟩;have n9_:=Z_ (Kd.R_mono (Kd.R_bound HS.out) (ok':=fun k=>k<gb) (fun k hk=>by rw[hg];exact hk.2.2.1));clear HS;have HS:=n9_;clear n9_;replace HS:=Z_ (Kd.R_below HS.out hb);replace YW:=Z_ (below_step YW.out hb);replace YT:=Z_ (blk_below YT.out hb);have YBX:=Z_ hbox;clear hbox hb hg;have r1:=blk_cell YT.out 2;simp at r1))
 have YB:=Z_ (bldF_new YBX.out);have HGB2:=Z_ (Nat.le_of_lt (blk_lt YBX.out));clear YBX
 go_loopg [12] (e0 - f0) (fun d v12 wr=>∃i:Nat,v12= .int .i64 i∧i+d=e0∧f0≤i∧Aside0 (wr.heap[gt]?=some (.cells #[.int .i64 ch,.int .i64 bi,.int .i64 sz,.int .i64 fr,.string hd,.string tl,.slice As l.length cs_] 49 (0,0)))∧Aside0 (Below w.heap.size w wr)∧Aside0 (Lib.IsBuilderF 66 5 gb gb (Lib.byteCells (flat ((D.drop f0).take (i - f0)))) wr)∧Aside0 (gb≤wr.heap.size)∧Aside0 (Kd.R Kd.string 9 wr w.heap.size (fun k=>k<gb) (.slice As l.length cs_) l))
 case atStart=>exact⟨f0,rfl,Nat.add_sub_cancel' hfe,Nat.le_refl _,YT,YW,⟨by rw[Nat.sub_self,List.take_zero];exact YB.out⟩,HGB2,HS⟩
 case round=>
  clear YT YW YB HGB2 HS r1 r2 r3;obtain⟨i,rfl,hi,hi2,YT,YW,YB,HGB2,HS⟩:=hrel;have r2:=blk_cell YT.out 2;simp at r2;have hib:=HZB.out i (hi▸Nat.le_add_right i _);have hlz:=HE0.out i;obtain⟨z,hz⟩:∃z,i*sz=z:=⟨_,rfl⟩;rw[hz] at hib hlz;have g6:=w_mul i sz z hz (Nat.le_trans hib (by decide));clear hz
  cases gk with
  |zero=>
   obtain rfl:e0=i:=(show i=e0 from hi).symm
   have g7:¬((z:Int)<b):=by
    intro h;exact absurd (hlz.2 (Int.ofNat_lt.1 h)) (Nat.lt_irrefl _)
   have g1:=G1.out;have g2:=G2.out;have g3:=G3.out;have g4:=G4.out;have g5:=G5.out;have hx1:=HX1.out;have hx2:=HX2.out;have h8:=flat_len ((D.drop f0).take (e0 - f0));have h9:=HLEN.out;rw[←h8] at h9;obtain⟨LL,hL⟩:∃L,flat ((D.drop f0).take (e0 - f0))=L:=⟨_,rfl⟩;rw[hL] at YB h9;have HLL:=Lib.hid hL;clear hL h8 hlz
   have c1:((y2:Nat):Int)≤((⟨LL.toArray⟩:ByteArray).size:Int):=Int.ofNat_le.2 (by
    have:(⟨LL.toArray⟩:ByteArray).size=LL.length:=List.size_toArray;rw[this]
    exact h9)
   have c2:(y1:Int)≤(y2:Int):=Int.ofNat_le.2 hx1;have c3:(0:Int)≤(y1:Int):=Int.natCast_nonneg _;obtain⟨t,ht⟩:∃t:ByteArray,⟨LL.toArray⟩=t:=⟨_,rfl⟩;rw[ht] at c1;have CS:=Lib.hid (fun W h1 h2=>str_calls gb LL W h1 h2);rw[ht] at CS;have HTT:=Lib.hid ht;clear ht;go_wp2;replace YT:=Z_ (blk_drew YT.out);replace YW:=Z_ (below_drew1 YW.out);replace YB:=Z_ (bldF_below YB.out (below_drew (Below.refl _ _)));replace HGB2:=Z_ (size_drew HGB2.out);replace HS:=Z_ (Kd.R_drew HS.out);refine start_ (n:=9) (S:=fun w'=>w'.heap[gt]?=some (.cells #[.int .i64 ch,.int .i64 bi,.int .i64 sz,.int .i64 fr,.string hd,.string tl,.slice As l.length cs_] 49 (0,0))) (ds:= []) #[false,false,false,false,false,false,false,false,false] (by kernel_rfl) rfl rfl YT.out (fun hHeld=>?_);refine with_tabW rng.tab17 rng.bits17 (fun HT_ HW_=>?_);generalize World.drew _=wk_ at YT YW YB HGB2 HS hHeld ⊢;refine P_ 0 66 ?_;refine P_ 3 69 ?_;refine P_ 4 70 ?_;refine T_ 1 67 (y:=by rintro w' s0;have r0:=blk_cell s0 0;have r1:=blk_cell s0 1;have r2:=blk_cell s0 2;have r3:=blk_cell s0 3;have r4:=blk_cell s0 4;have r5:=blk_cell s0 5;simp at r0 r1 r2 r3 r4 r5;go_simp;with_reducible rfl) (h:=?_);refine T_ 5 71 (y:=by rintro w' s0;have r0:=blk_cell s0 0;have r1:=blk_cell s0 1;have r2:=blk_cell s0 2;have r3:=blk_cell s0 3;have r4:=blk_cell s0 4;have r5:=blk_cell s0 5;simp at r0 r1 r2 r3 r4 r5;go_simp;with_reducible rfl) (h:=?_);refine P_ 6 72 ?_;refine O_ 2 68 fun K hK=>?_
   refine g_ Tryz.func29 #[.agg #[.int .i64 ch,.int .i64 bi]] ?_;refine(pcm_Frame.calls ch bi fs_ _ HFR.out).mono ?_;rintro e wk_ ⟨rfl,hb⟩;refine⟨_,rfl,?_⟩;replace HS:=Z_ (Kd.R_below HS.out hb);replace YW:=Z_ (below_step YW.out hb);replace YT:=Z_ (blk_below YT.out hb);replace YB:=Z_ (bldF_below YB.out hb);replace HGB2:=Z_ (Nat.le_trans HGB2.out hb.size);clear hb;refine hK.out _ _ YT.out (fun hHeld=>?_);clear hK K;refine Nm_ 68 ?_;refine P_ 7 15 ?_;refine P_ 8 16 ?_;refine done_ (done_of HT_.out (by kernel_rfl)) ?_
   go_wp2_with fail
   refine(CS.out _ YB.out HGB2.out).mono ?_;rintro e wk_ ⟨rfl,hbb,hbw⟩;replace YT:=Z_ ((hbw.block gt HGT.out).trans YT.out);replace YW:=Z_ (YW.out.trans (hbw.mono HGB.out));replace YB:=Z_ hbb;replace HGB2:=Z_ (Nat.le_trans HGB2.out hbw.size);replace HS:=Z_ (Kd.R_step HS.out (fun k_ hk_ _=>hbw.block k_ hk_));clear hbw hbb;go_wp2;go_ret2;exact⟨by rw[←RES.out,HLL.out,HTT.out];rfl,YW.out⟩
  |succ d=>
   have g7:(z:Int)<b:=by
    have hie:i<e0:=by rw[←hi];exact Nat.lt_add_of_pos_right (Nat.succ_pos d)
    exact Int.ofNat_lt.2 (hlz.1 hie)
   have hie:i<e0:=by rw[←hi];exact Nat.lt_add_of_pos_right (Nat.succ_pos d)
   clear hlz;have hlt:i<l.length:=Nat.lt_of_lt_of_le hie hel;have hlt':(i:Int)<l.length:=Int.ofNat_lt.2 hlt;have hi0:(0:Int)≤i:=Int.natCast_nonneg _;have HF:=Lib.hid (HDS.out i hi2 hie)
   have hsn:(D.drop f0).take (i+1 - f0)=(D.drop f0).take (i - f0)++ [D.getD i ByteArray.empty]:=by
    have h9:i - f0<(D.drop f0).length:=by rw[List.length_drop,HDL.out];exact Nat.sub_lt_sub_right hi2 hlt
    have e9:i+1 - f0=i - f0+1:=Nat.sub_add_comm hi2;rw[e9,List.take_succ_eq_append_getElem h9,List.getElem_drop]
    congr 2
    have e8:f0+(i - f0)=i:=Nat.add_sub_cancel' hi2;rw[gD_,gE_ (by rw[HDL.out];exact hlt)];simp only[e8];rfl
   have hfl:flat ((D.drop f0).take (i+1 - f0))=flat ((D.drop f0).take (i - f0))++(D.getD i ByteArray.empty).data.toList:=by
    rw[hsn];unfold flat;rw[List.map_append,List.flatten_append];simp
   have hle:=tot_le (D.drop f0) (i+1 - f0);rw[←flat_len ((D.drop f0).take (i+1 - f0)),hfl,List.length_append,data_length] at hle
   have hle2:tot (D.drop f0)≤tot D:=by
    have:tot D=tot (D.take f0)+tot (D.drop f0):=by
     unfold tot;rw[←List.sum_append,←List.map_append,List.take_append_drop]
    rw[this];exact Nat.le_add_left _ _
   obtain⟨x,hx⟩:∃x,D.getD i ByteArray.empty=x:=⟨_,rfl⟩;rw[hx] at HF hfl hle;obtain⟨L,hL⟩:∃L,flat ((D.drop f0).take (i - f0))=L:=⟨_,rfl⟩;rw[hL] at YB hfl hle;have HFL:=Lib.hid hfl;have hbd:L.length+x.size≤140737488355328:=Nat.le_trans hle (Nat.le_trans hle2 HDT.out);clear hsn hfl hle hle2 hx hL
   go_wp2_with (first|((with_reducible refine gate_dst (N:=57) rfl ?_);refine wpList_load_mid rfl 49 _ rfl gt 0 rfl [.int .i64 ch,.int .i64 bi,.int .i64 sz,.int .i64 fr,.string hd,.string tl,.slice As l.length cs_] _ (range_all YT.out) Tryz.underlying49 rfl (by kernel_rfl) ?_))
   clear r2;refine(file_Data.calls k ch bi sz fr hd tl As cs_ l i _ _ _ (Kd.R_reads' HS.out).2.2 hcs HF.out (Tabs.below HT.out YW.out)).mono ?_;rintro e wk_ ⟨rfl,hb⟩;replace HS:=Z_ (Kd.R_below HS.out hb);replace YW:=Z_ (below_step YW.out hb);replace YT:=Z_ (blk_below YT.out hb);replace YB:=Z_ (bldF_below YB.out hb);replace HGB2:=Z_ (Nat.le_trans HGB2.out hb.size);clear hb
   go_wp2_with fail
   refine(wstr_calls gb L x _ YB.out hbd HGB2.out).mono ?_;rintro e wk_ ⟨rfl,hbb,hbw⟩;replace YT:=Z_ ((hbw.block gt HGT.out).trans YT.out);replace YW:=Z_ (YW.out.trans (hbw.mono HGB.out));replace YB:=Z_ hbb;replace HGB2:=Z_ (Nat.le_trans HGB2.out hbw.size);replace HS:=Z_ (Kd.R_step HS.out (fun k_ hk_ _=>hbw.block k_ hk_));clear hbw hbb;go_wp2
   go_roundg d
   case measure=>clear hlt' hi0 g7 g6;omega
   case rel=>
    have hll:=HLL0.out;have hws:=w_succ i (Nat.le_trans (Nat.le_of_lt hlt) hll);clear b1 b2 b3 b4 b5 b6 b7 g6 g7;exact⟨i+1,by first|(rw[hws])|(simp only[hws])|go_num,by rw[←hi,Nat.add_assoc,Nat.add_comm 1 d],Nat.le_succ_of_le hi2,YT,YW,⟨by rw[HFL.out];exact YB.out⟩,HGB2,HS⟩
theorem rangeE_calls(s:ByteArray)(ch bi sz fr:Nat)(hd tl:ByteArray)(l:List ByteArray)(p1 p2 p3 p5 q:Nat)(a b:Int)(w:World)(ho:StrOk s ch bi sz fr hd tl l p1 p2 p3 p5 q)(hab:a<0∨b<a∨(fr:Int)<b):
  Calls Tryz.prog 19 #[.string s,.int .i64 a,.int .i64 b] w fun e w'=>e= .returned (.tuple #[.string ⟨#[]⟩,.int .i64 2501])∧Below w.heap.size w w':=by
 have hu49:=Tryz.underlying49;have SG:=Lib.hid (sget_calls s ch bi sz fr hd tl l p1 p2 p3 p5 q w ho);clear ho
 have hc:a<0∨(¬a<0∧b<a)∨(¬a<0∧¬b<a∧(fr:Int)<b):=by
  by_cases h1:a<0
  ·exact .inl h1
  ·by_cases h2:b<a
   ·exact .inr (.inl ⟨h1,h2⟩)
   ·exact .inr (.inr ⟨h1,h2,by rcases hab with h|h|h<;>first|exact absurd h h1|exact absurd h h2|exact h⟩)
 clear hab
 go_enter Tryz.func19,Tryz.ntmps19
 go_wp2_with fail
 refine SG.out.mono ?_;rintro e w1 ⟨v0,rfl,hr,hb⟩;obtain⟨As,cs_,he,hcs,_⟩:=Kd.R_reads hr;subst he;have HS:=Z_ hr;have YW:=Z_ hb;clear hr hb
 rcases hc with h1|⟨h1,h2⟩|⟨h1,h2,h3⟩
 all_goals
  go_wp2_with (first|(refine X_ 8 #[.int .i64 0,.int .i64 0,.int .i64 0,.int .i64 0,.string ⟨#[]⟩,.string ⟨#[]⟩,.slice none 0 0] 49 ?_;intro gt hg wk_ hbox hb;have HGT0:Aside0 (w.heap.size≤gt):=⟨by rw[hg];exact YW.out.size⟩;have HG_:=Z_ hg;have HB_:=Z_ hb;have YT:=Z_ hbox;clear hbox hb hg)|((with_reducible refine gate_store (t:=49) (p:=8) rfl ?_);refine wpList_store_mid rfl 49 _ _ rfl gt 0 #[.int .i64 ch,.int .i64 bi,.int .i64 sz,.int .i64 fr,.string hd,.string tl,.slice As l.length cs_] rfl rfl (there_blk (vs:= [.int .i64 0,.int .i64 0,.int .i64 0,.int .i64 0,.string ⟨#[]⟩,.string ⟨#[]⟩,.slice none 0 0]) YT.out 0 7 (by decide)) (by kernel_rfl) (by simp[Value.oneCell']) ?_;have nc_:=Z_ (setCells_all (vs:= [.int .i64 ch,.int .i64 bi,.int .i64 sz,.int .i64 fr,.string hd,.string tl,.slice As l.length cs_]) (old:= [.int .i64 0,.int .i64 0,.int .i64 0,.int .i64 0,.string ⟨#[]⟩,.string ⟨#[]⟩,.slice none 0 0]) YT.out rfl);have hb:=below_setCells HB_.out (Nat.le_of_eq HG_.out.symm) [.int .i64 ch,.int .i64 bi,.int .i64 sz,.int .i64 fr,.string hd,.string tl,.slice As l.length cs_] 0;replace HS:=Z_ (Kd.R_below HS.out hb);replace YW:=Z_ (below_step YW.out hb);clear hb HB_ HG_ YT;have YT:=nc_;clear nc_;generalize World.setCells _ _ _ _=wk_ at HS YW YT ⊢;have r2:=blk_cell YT.out 2;have r3:=blk_cell YT.out 3;simp at r2 r3))
  go_ret2;exact⟨rfl,YW.out⟩
theorem rangeZ_calls(s:ByteArray)(ch bi sz fr:Nat)(hd tl:ByteArray)(l:List ByteArray)(p1 p2 p3 p5 q:Nat)(a:Nat)(w:World)(ho:StrOk s ch bi sz fr hd tl l p1 p2 p3 p5 q)(hab:a≤fr):
  Calls Tryz.prog 19 #[.string s,.int .i64 a,.int .i64 a] w fun e w'=>e= .returned (.tuple #[.string ⟨#[]⟩,.int .i64 0])∧Below w.heap.size w w':=by
 have hu49:=Tryz.underlying49;have SG:=Lib.hid (sget_calls s ch bi sz fr hd tl l p1 p2 p3 p5 q w ho);clear ho;have b1:¬((a:Int)<0):=by omega
 have b2:¬((a:Int)<a):=by omega
 have b3:¬((fr:Int)<a):=by omega
 go_enter Tryz.func19,Tryz.ntmps19
 go_wp2_with fail
 refine SG.out.mono ?_;rintro e w1 ⟨v0,rfl,hr,hb⟩;obtain⟨As,cs_,he,hcs,_⟩:=Kd.R_reads hr;subst he;have HS:=Z_ hr;have YW:=Z_ hb;clear hr hb
 go_wp2_with (first|(refine X_ 8 #[.int .i64 0,.int .i64 0,.int .i64 0,.int .i64 0,.string ⟨#[]⟩,.string ⟨#[]⟩,.slice none 0 0] 49 ?_;intro gt hg wk_ hbox hb;have HGT0:Aside0 (w.heap.size≤gt):=⟨by rw[hg];exact YW.out.size⟩;have HG_:=Z_ hg;have HB_:=Z_ hb;have YT:=Z_ hbox;clear hbox hb hg)|((with_reducible refine gate_store (t:=49) (p:=8) rfl ?_);refine wpList_store_mid rfl 49 _ _ rfl gt 0 #[.int .i64 ch,.int .i64 bi,.int .i64 sz,.int .i64 fr,.string hd,.string tl,.slice As l.length cs_] rfl rfl (there_blk (vs:= [.int .i64 0,.int .i64 0,.int .i64 0,.int .i64 0,.string ⟨#[]⟩,.string ⟨#[]⟩,.slice none 0 0]) YT.out 0 7 (by decide)) (by kernel_rfl) (by simp[Value.oneCell']) ?_;have nc_:=Z_ (setCells_all (vs:= [.int .i64 ch,.int .i64 bi,.int .i64 sz,.int .i64 fr,.string hd,.string tl,.slice As l.length cs_]) (old:= [.int .i64 0,.int .i64 0,.int .i64 0,.int .i64 0,.string ⟨#[]⟩,.string ⟨#[]⟩,.slice none 0 0]) YT.out rfl);have hb:=below_setCells HB_.out (Nat.le_of_eq HG_.out.symm) [.int .i64 ch,.int .i64 bi,.int .i64 sz,.int .i64 fr,.string hd,.string tl,.slice As l.length cs_] 0;replace HS:=Z_ (Kd.R_below HS.out hb);replace YW:=Z_ (below_step YW.out hb);clear hb HB_ HG_ YT;have YT:=nc_;clear nc_;generalize World.setCells _ _ _ _=wk_ at HS YW YT ⊢;have r2:=blk_cell YT.out 2;have r3:=blk_cell YT.out 3;simp at r2 r3))
 go_ret2;exact⟨rfl,YW.out⟩
end Go.Proofs.YtfghldonnffldaaGreatDoor
namespace Go.Proofs.YtfghldonnffldaaGreatDoor
open Go.RowKit YtfghldonnffldaaGreatDoorW.PrintWords YtfghldonnffldaaGreatDoorW.PrintLast YtfghldonnffldaaGreatDoorW.PrintMore TBase
open VTwo QSix ZFiv ESev
def W0:ByteArray:=⟨#[82,73,70,70,54,0,0,0,87,65,86,69,102,109,116,32,16,0,0,0,1,0,1,0,114,97,116,101,97,110,100,98,2,0,16,0,100,97,116,97,6,0,0,0,5,0,6,0,7,0,109,111,114,101,3,0,0,0,97,98,99,100]⟩
def E0:ByteArray:=⟨#[68,83,67,84,1,16,2,3,44,12,82,73,70,70,54,0,0,0,87,65,86,69,102,109,116,32,16,0,0,0,1,0,1,0,114,97,116,101,97,110,100,98,2,0,16,0,100,97,116,97,6,0,0,0,109,111,114,101,3,0,0,0,97,98,99,100,13,0,11,0,217,2,14,228,0,0,2,4,0,5,0,6,0,37,16,131,139,2,0,1,2,0,7,0,171,185,219,210]⟩
def HD0:ByteArray:=W0.extract 0 44
def TL0:ByteArray:=W0.extract 50 62
def S1:ByteArray:=E0.extract 74 87
def S2:ByteArray:=E0.extract 87 98
theorem sp0:sput 1 16 2 3 HD0 TL0 [S1,S2]=E0:=by kernel_rfl
theorem many0:stream_Many.f 3 2=some 2:=by kernel_rfl
theorem d1:file_whole_data.f 30 1 16 2 3 HD0 TL0 [S1,S2] 0=some (⟨#[5,0,6,0]⟩,true):=by kernel_rfl
theorem d2:file_whole_data.f 30 1 16 2 3 HD0 TL0 [S1,S2] 1=some (⟨#[7,0]⟩,true):=by kernel_rfl
theorem b0:wave_Build.f 30 1 16 HD0 ⟨(flat [⟨#[5,0,6,0]⟩,⟨#[7,0]⟩]).toArray⟩ TL0=some (W0,0):=by kernel_rfl
theorem w0:descanttop_wav.f 20 1 16 ⟨#[5,0,6,0,7,0]⟩=some W0:=by kernel_rfl
theorem e0:file_Encode.f 30 W0 2=some (E0,0):=by kernel_rfl
theorem pw0:wave_Parse.f 30 W0=some (1,16,HD0,W0.extract 44 50,TL0,0):=by kernel_rfl
theorem fr0:pcm_Frame.f 1 16=some 2:=by kernel_rfl
theorem rr0:((⟨(flat (([⟨#[5,0,6,0]⟩,⟨#[7,0]⟩]:List ByteArray).drop 0 |>.take (2 - 0))).toArray⟩:ByteArray).extract ((0 - 0*2)*2) ((3 - 0*2)*2))=W0.extract 44 50:=by kernel_rfl
theorem ok0:∃p1 p2 p3 p5 q,StrOk E0 1 16 2 3 HD0 TL0 [S1,S2] p1 p2 p3 p5 q:=by
 have h:=sput_ok 1 16 2 3 HD0 TL0 [S1,S2] (by decide) many0 (fun x hx=>List.all_eq_true.1 (show [S1,S2].all szB=true by kernel_rfl) x hx) (by rw[sp0];decide);rw[sp0] at h;exact h
theorem ds0:∀i,i< [S1,S2].length→file_whole_data.f 30 1 16 2 3 HD0 TL0 [S1,S2] (i:Int)=some (([⟨#[5,0,6,0]⟩,⟨#[7,0]⟩]:List ByteArray).getD i ByteArray.empty,true):=by
 intro i hi
 match i,hi with
 |0,_=>exact d1
 |1,_=>exact d2
theorem pg0:pcm_Get.f 30 (W0.extract 44 50) 1 16=some ([[5,6,7]],0):=by kernel_rfl
theorem sg0:segment_Get.f 30 S1 1 16=some (⟨#[5,0,6,0]⟩,0):=by kernel_rfl
theorem sl0:descantlaw0_SameLists.f 30 [[5,6,7]] [[5,6,7]]=some true:=by kernel_rfl
theorem seg0{w:World}{ad:Addr}(h:Kd.string.C w (some ad) ([S1,S2]:List ByteArray).length [S1,S2]):w.cell? ad=some (.string S1):=by
 obtain⟨ad',e,hx⟩:=Kd.at_string h 0 (by decide) (by decide);obtain rfl:=Option.some.inj e
 cases ad
 exact hx
def awk.T11:Bool×List (List Nat×List Nat):=(true,[([],[]),([0],[0]),([1],[1]),([2],[2]),([],[]),([3,4],[3,4]),([5],[5]),([6],[6]),([6],[6]),([7,5,0,1,2,3,4,5,6,7],[7]),([8,9,0,1,2,3,4,5,6,7,8,9],[8])])
def awk.B11:List Nat:= [0,1,3,7,0,31,63,127,127,255,1023]
theorem awk.tab11:rtab .any (opsOf Tryz.f8 11)=awk.T11:=by kernel_rfl
theorem awk.bits11:waitsOk awk.T11.2 awk.B11=true:=by kernel_rfl
theorem num0(w:World):Calls Tryz.prog 12 #[.int .i64 0] w fun e w'=>e= .returned (.int .i64 0)∧w'=w:=by
 go_enter Tryz.func12,Tryz.ntmps12
 go_wp2;go_ret;exact⟨rfl,rfl⟩
section
variable {P:Program} {ops:Array Oper} {rest:List Oper} {o:Oper} {a:Act} {Q:Exit→Act→World→Prop}
theorem lit_event{W:World}(hgd:o.guard=none){N:Tmp}(_hd:o.dst=some N){cs:Array Value}{t n:Nat}
  (hrun:(execOp a.eval o).run P W= .ok (.value (.slice (some ⟨W.heap.size,0,none⟩) n n)) (W.alloc (.cells cs t (0,0))))
  (h:∀g,g=W.heap.size→∀w1,w1.heap[g]?=some (.cells cs t (0,0))→Below W.heap.size W w1→wpList P ops Q rest (a.put o.dst (.slice (some ⟨g,0,none⟩) n n)) w1):wpList P ops Q (o::rest) a W:=
 Kd.event_run hgd hrun (h _ rfl _ (blk_new W _) (below_alloc (Below.refl _ _) _))
end
theorem lists0(w:World)(g1 g2:Nat)(h1:w.heap[g1]?=some (.cells #[.int .i64 5,.int .i64 6,.int .i64 7] 3 (0,0)))(h2:w.heap[g2]?=some (.cells #[.slice (some ⟨g1,0,none⟩) 3 3] 36 (0,0))):
  Kd.C (Kd.slice 3 (Kd.int .i64)) w (some ⟨g2,0,none⟩) ([[5,6,7]]:List (List Int)).length [[5,6,7]]:=by
 refine⟨rfl,by decide,fun _=>⟨_,rfl,fun j p hj=>?_⟩⟩;obtain _|j:=j
 ·obtain rfl:=Option.some.inj hj;refine⟨[.slice (some ⟨g1,0,none⟩) 3 3],rfl,⟨some ⟨g1,0,none⟩,3,rfl,by decide,rfl,by decide,fun _=>⟨_,rfl,fun j p hj=>?_⟩⟩,fun i u hu=>?_⟩
  ·match j,hj with
   |0,hj=>obtain rfl:=Option.some.inj hj;exact⟨[.int .i64 5],rfl,rfl,fun i u hu=>match i,hu with|0,hu=>(blk_cell h1 0).trans hu|_+1,hu=>nomatch hu⟩
   |1,hj=>obtain rfl:=Option.some.inj hj;exact⟨[.int .i64 6],rfl,rfl,fun i u hu=>match i,hu with|0,hu=>(blk_cell h1 1).trans hu|_+1,hu=>nomatch hu⟩
   |2,hj=>obtain rfl:=Option.some.inj hj;exact⟨[.int .i64 7],rfl,rfl,fun i u hu=>match i,hu with|0,hu=>(blk_cell h1 2).trans hu|_+1,hu=>nomatch hu⟩
  ·obtain _|i:=i
   ·exact(blk_cell h2 0).trans hu
   ·cases hu
 ·cases hj
theorem awake_calls(w:World)(hT:Tabs w):Calls Tryz.prog 8 #[] w fun e w'=>e= .returned (.bool true)∧Below w.heap.size w w':=by
 have HT:=Z_ hT;clear hT;have Y1:Aside0 ((w.alloc (.cells #[.int .i64 1,.int .i64 16] 23)).heap[w.heap.size]?=some (.cells #[.int .i64 1,.int .i64 16] 23 (0,0))):=⟨blk_new w _⟩;have YW:Aside0 (Below w.heap.size w (w.alloc (.cells #[.int .i64 1,.int .i64 16] 23))):=⟨below_alloc (Below.refl _ _) _⟩
 go_enter Tryz.func8,Tryz.ntmps8
 go_wp2_with fail
 refine(descanttop_wav.calls 20 1 16 _ _ _ w0).mono ?_;rintro e wk_ ⟨rfl,hb⟩;replace Y1:=Z_ (blk_below Y1.out hb);replace YW:=Z_ (below_step YW.out hb);clear hb
 go_wp2_with fail
 refine(file_Encode.calls 30 W0 2 _ _ _ e0 (Tabs.below HT.out YW.out)).mono ?_;rintro e wk_ ⟨rfl,hb⟩;replace Y1:=Z_ (blk_below Y1.out hb);replace YW:=Z_ (below_step YW.out hb);clear hb
 go_wp2_with fail
 obtain⟨p1,p2,p3,p5,q,ho⟩:=ok0;refine(decode_calls 30 30 E0 1 16 2 3 HD0 TL0 [S1,S2] [⟨#[5,0,6,0]⟩,⟨#[7,0]⟩] p1 p2 p3 p5 q W0 _ (Tabs.below HT.out YW.out) ho rfl ds0 (by decide) b0).mono ?_;rintro e wk_ ⟨rfl,hb⟩;replace Y1:=Z_ (blk_below Y1.out hb);replace YW:=Z_ (below_step YW.out hb);clear hb
 go_wp2_with fail
 refine(sget_calls E0 1 16 2 3 HD0 TL0 [S1,S2] p1 p2 p3 p5 q _ ho).mono ?_;rintro e wk_ ⟨v0,rfl,hr,hb⟩;obtain⟨As,cs_,he,hcs,_⟩:=Kd.R_reads hr;subst he;have HS:=Z_ (Kd.R_lower hr YW.out.size);clear hr;replace Y1:=Z_ (blk_below Y1.out hb);replace YW:=Z_ (below_step YW.out hb);clear hb
 go_wp2_with (first|(refine X_ 7 #[.int .i64 0,.int .i64 0,.int .i64 0,.int .i64 0,.string ⟨#[]⟩,.string ⟨#[]⟩,.slice none 0 0] 49 ?_;intro g7 hg wk_ hbox hb;have HG_:=Z_ hg;have HB_:=Z_ hb;have Y7:=Z_ hbox;clear hbox hb hg)|((with_reducible refine gate_store (t:=49) (p:=7) rfl ?_);refine wpList_store_mid rfl 49 _ _ rfl g7 0 #[.int .i64 1,.int .i64 16,.int .i64 2,.int .i64 3,.string HD0,.string TL0,.slice As [S1,S2].length cs_] rfl rfl (there_blk (vs:= [.int .i64 0,.int .i64 0,.int .i64 0,.int .i64 0,.string ⟨#[]⟩,.string ⟨#[]⟩,.slice none 0 0]) Y7.out 0 7 (by decide)) (by kernel_rfl) (by simp[Value.oneCell']) ?_;have nc_:=Z_ (setCells_all (vs:= [.int .i64 1,.int .i64 16,.int .i64 2,.int .i64 3,.string HD0,.string TL0,.slice As [S1,S2].length cs_]) (old:= [.int .i64 0,.int .i64 0,.int .i64 0,.int .i64 0,.string ⟨#[]⟩,.string ⟨#[]⟩,.slice none 0 0]) Y7.out rfl);have hb:=below_setCells HB_.out (Nat.le_of_eq HG_.out.symm) [.int .i64 1,.int .i64 16,.int .i64 2,.int .i64 3,.string HD0,.string TL0,.slice As [S1,S2].length cs_] 0;replace Y1:=Z_ (blk_below Y1.out hb);replace YW:=Z_ (below_step YW.out hb);replace HS:=Z_ (Kd.R_below HS.out hb);clear hb HB_ HG_ Y7;have Y7:=nc_;clear nc_;generalize World.setCells _ _ _ _=wk_ at Y1 YW HS Y7 ⊢))
 refine(wave_Parse.calls 30 W0 _ _ _ _ _ _ _ pw0).mono ?_;rintro e wk_ ⟨rfl,hb⟩;replace Y1:=Z_ (blk_below Y1.out hb);replace YW:=Z_ (below_step YW.out hb);replace HS:=Z_ (Kd.R_below HS.out hb);replace Y7:=Z_ (blk_below Y7.out hb);clear hb
 go_wp2_with (first|(refine X_ 9 #[.int .i64 0,.int .i64 0,.string ⟨#[]⟩,.string ⟨#[]⟩,.string ⟨#[]⟩] 57 ?_;intro g9 hg wk_ hbox hb;have HG_:=Z_ hg;have HB_:=Z_ hb;have Y9:=Z_ hbox;clear hbox hb hg)|((with_reducible refine gate_store (t:=57) (p:=9) rfl ?_);refine wpList_store_mid rfl 57 _ _ rfl g9 0 #[.int .i64 1,.int .i64 16,.string HD0,.string (W0.extract 44 50),.string TL0] rfl rfl (there_blk (vs:= [.int .i64 0,.int .i64 0,.string ⟨#[]⟩,.string ⟨#[]⟩,.string ⟨#[]⟩]) Y9.out 0 5 (by decide)) (by kernel_rfl) (by simp[Value.oneCell']) ?_;have nc_:=Z_ (setCells_all (vs:= [.int .i64 1,.int .i64 16,.string HD0,.string (W0.extract 44 50),.string TL0]) (old:= [.int .i64 0,.int .i64 0,.string ⟨#[]⟩,.string ⟨#[]⟩,.string ⟨#[]⟩]) Y9.out rfl);have hb:=below_setCells HB_.out (Nat.le_of_eq HG_.out.symm) [.int .i64 1,.int .i64 16,.string HD0,.string (W0.extract 44 50),.string TL0] 0;replace Y1:=Z_ (blk_below Y1.out hb);replace YW:=Z_ (below_step YW.out hb);replace HS:=Z_ (Kd.R_below HS.out hb);replace Y7:=Z_ (blk_below Y7.out hb);clear hb HB_ HG_ Y9;have Y9:=nc_;clear nc_;generalize World.setCells _ _ _ _=wk_ at Y1 YW HS Y7 Y9 ⊢))
 refine(range_calls 30 E0 1 16 2 3 HD0 TL0 [S1,S2] [⟨#[5,0,6,0]⟩,⟨#[7,0]⟩] p1 p2 p3 p5 q 0 3 0 2 2 _ (Tabs.below HT.out YW.out) ho (by decide) (by decide) rfl (fun i=>by omega) (by decide) (by decide) (fun i _ h=>ds0 i h) rfl (by decide) fr0 (by decide) (by decide)).mono ?_;rintro e wk_ ⟨rfl,hb⟩;rw[rr0];replace Y1:=Z_ (blk_below Y1.out hb);replace YW:=Z_ (below_step YW.out hb);replace HS:=Z_ (Kd.R_below HS.out hb);replace Y7:=Z_ (blk_below Y7.out hb);replace Y9:=Z_ (blk_below Y9.out hb);clear hb;have r0:=blk_cell Y1.out 0;have r1:=blk_cell Y1.out 1;have q3:=blk_cell Y9.out 3;simp at r0 r1 q3
 go_wp2_with (first|((with_reducible refine gate_dst (N:=48) rfl ?_);refine wpList_load_mid rfl 23 _ rfl w.heap.size 0 rfl [.int .i64 1,.int .i64 16] _ (range_all Y1.out) Tryz.underlying23 rfl (by kernel_rfl) ?_))
 refine(pcm_Get.calls 30 (W0.extract 44 50) 1 16 [[5,6,7]] 0 _ pg0).mono ?_;rintro e wk_ ⟨v0,rfl,hra,hb⟩;obtain⟨Aa,ca,he,hca,hCa⟩:=Kd.S_reads hra;subst he;have HA:=Z_ hCa;clear hra hCa;clear r0 r1 q3;replace Y1:=Z_ (blk_below Y1.out hb);replace YW:=Z_ (below_step YW.out hb);replace HS:=Z_ (Kd.R_below HS.out hb);replace Y7:=Z_ (blk_below Y7.out hb);replace Y9:=Z_ (blk_below Y9.out hb);clear hb;have q6:=blk_cell Y7.out 6;simp at q6
 go_wp2_with fail
 clear q6;obtain⟨ad,hAd,_⟩:=Kd.at_string (Kd.R_reads' HS.out).2.2 0 (by decide) (by decide);subst hAd;replace Y1:=Z_ (blk_drew Y1.out);replace YW:=Z_ (below_drew1 YW.out);replace HS:=Z_ (Kd.R_drew HS.out);replace Y7:=Z_ (blk_drew Y7.out);replace Y9:=Z_ (blk_drew Y9.out);replace HA:=Z_ (Kd.C_drew HA.out);refine start_ (n:=11) (S:=fun w'=>w'.heap[g7]?=some (.cells #[.int .i64 1,.int .i64 16,.int .i64 2,.int .i64 3,.string HD0,.string TL0,.slice (some ad) [S1,S2].length cs_] 49 (0,0))∧w'.heap[w.heap.size]?=some (.cells #[.int .i64 1,.int .i64 16] 23 (0,0))∧w'.cell? ad=some (.string S1)) (ds:= []) #[false,false,false,false,false,false,false,false,false,false,false] (by kernel_rfl) rfl rfl ⟨Y7.out,Y1.out,seg0 (Kd.R_reads' HS.out).2.2⟩ (fun hHeld=>?_);refine with_tabW awk.tab11 awk.bits11 (fun HT_ HW_=>?_);generalize World.drew _=wk_ at Y1 YW HS Y7 Y9 HA hHeld ⊢;refine P_ 0 57 ?_;refine T_ 1 58 (y:=by rintro w' s0;have r6:=blk_cell s0.1 6;have r0:=blk_cell s0.2.1 0;have r1:=blk_cell s0.2.1 1;simp at r0 r1 r6;have r7:=s0.2.2;go_simp;with_reducible rfl) (h:=?_);refine T_ 2 59 (y:=by rintro w' s0;have r6:=blk_cell s0.1 6;have r0:=blk_cell s0.2.1 0;have r1:=blk_cell s0.2.1 1;simp at r0 r1 r6;have r7:=s0.2.2;go_simp;with_reducible rfl) (h:=?_);refine T_ 3 60 (y:=by rintro w' s0;have r6:=blk_cell s0.1 6;have r0:=blk_cell s0.2.1 0;have r1:=blk_cell s0.2.1 1;simp at r0 r1 r6;have r7:=s0.2.2;go_simp;with_reducible rfl) (h:=?_);refine T_ 4 61 (y:=by rintro w' s0;have r6:=blk_cell s0.1 6;have r0:=blk_cell s0.2.1 0;have r1:=blk_cell s0.2.1 1;simp at r0 r1 r6;have r7:=s0.2.2;go_simp;with_reducible rfl) (h:=?_);refine O_ 5 62 fun K hK=>?_
 refine g_ Tryz.func26 #[.string S1,.agg #[.int .i64 1,.int .i64 16]] ?_;refine(segment_Get.calls 30 S1 1 16 _ _ _ sg0 (Tabs.below HT.out YW.out)).mono ?_;rintro e wk_ ⟨rfl,hb⟩;refine⟨_,rfl,?_⟩;replace Y1:=Z_ (blk_below Y1.out hb);replace YW:=Z_ (below_step YW.out hb);replace HS:=Z_ (Kd.R_below HS.out hb);replace Y7:=Z_ (blk_below Y7.out hb);replace Y9:=Z_ (blk_below Y9.out hb);replace HA:=Z_ (Kd.C_below HA.out hb);clear hb;refine hK.out _ _ ⟨Y7.out,Y1.out,seg0 (Kd.R_reads' HS.out).2.2⟩ (fun hHeld=>?_);clear hK K;refine Nm_ 62 ?_;refine P_ 6 56 ?_;refine P_ 7 63 ?_;refine P_ 8 64 ?_;refine P_ 9 15 ?_;refine P_ 10 16 ?_;refine done_ (done_of HT_.out (by kernel_rfl)) ?_;have q3:=blk_cell Y9.out 3;simp at q3
 go_wp2_with (first|((with_reducible refine gate_dst (N:=101) rfl ?_);(try (refine gate_guard (by rfl) ?_;dsimp only));refine lit_event ?hg (N:=101) ?hd (cs:= #[.int .i64 5,.int .i64 6,.int .i64 7]) (t:=3) (n:=3) ?hr ?_;(case hd=>rfl);(case hg=>rfl);(case hr=>first|(go_simp;done)|(go_simp;rfl));intro gl1 hg wk_ hbox hb;replace YW:=Z_ (below_step YW.out hb);replace HA:=Z_ (Kd.C_below HA.out hb);have L1:=Z_ hbox;clear hbox hb hg)|((with_reducible refine gate_dst (N:=102) rfl ?_);(try (refine gate_guard (by rfl) ?_;dsimp only));refine lit_event ?hg (N:=102) ?hd (cs:= #[.slice (some ⟨gl1,0,none⟩) 3 3]) (t:=36) (n:=1) ?hr ?_;(case hd=>rfl);(case hg=>rfl);(case hr=>first|(go_simp;done)|(go_simp;rfl));intro gl2 hg wk_ hbox hb;replace YW:=Z_ (below_step YW.out hb);replace HA:=Z_ (Kd.C_below HA.out hb);replace L1:=Z_ (blk_below L1.out hb);have L2:=Z_ hbox;clear hbox hb hg)|(go_at_call 12;refine(num0 _).mono ?_;rintro e wk_ ⟨rfl,rfl⟩)|(go_at_call 27;refine(descantlaw0_SameLists.calls 30 Aa ca [[5,6,7]] (some ⟨gl2,0,none⟩) 1 [[5,6,7]] true _ HA.out hca (lists0 _ _ _ L1.out L2.out) (by decide) sl0).mono ?_;rintro e wk_ ⟨rfl,⟨⟨nd,rfl⟩⟩⟩;replace YW:=Z_ (pw_below_drewN YW.out nd);generalize World.drewN _ nd=wk_ at YW ⊢))
 go_ret;exact⟨rfl,YW.out⟩
end Go.Proofs.YtfghldonnffldaaGreatDoor
namespace Go.Proofs.YtfghldonnffldaaGreatDoor
open Go.RowKit YtfghldonnffldaaGreatDoorW.PrintWords YtfghldonnffldaaGreatDoorW.PrintLast YtfghldonnffldaaGreatDoorW.PrintMore TBase
end Go.Proofs.YtfghldonnffldaaGreatDoor
namespace Go.Proofs.YtfghldonnffldaaGreatDoor
open Go.RowKit YtfghldonnffldaaGreatDoorW.PrintWords YtfghldonnffldaaGreatDoorW.PrintLast YtfghldonnffldaaGreatDoorW.PrintMore TBase
open YFou ESev ZFiv
theorem leO_le{α:Type}(g:Nat→Option α)(hm:∀k,LeO (g k) (g (k+1)))(d:Nat):∀k,LeO (g k) (g (k+d)):=by
 induction d with
 |zero=>intro k r h;exact h
 |succ d ih=>intro k r h;exact hm _ _ (ih k r h)
theorem leO_same{α:Type}(g:Nat→Option α)(hm:∀k,LeO (g k) (g (k+1))){k k':Nat}{r r':α}(h:g k=some r)(h':g k'=some r'):r=r':=by
 rcases Nat.le_total k k' with hk|hk
 ·obtain⟨d,rfl⟩:=Nat.exists_eq_add_of_le hk;exact Option.some.inj ((leO_le g hm d k r h).symm.trans h')
 ·obtain⟨d,rfl⟩:=Nat.exists_eq_add_of_le hk;exact Option.some.inj (h.symm.trans (leO_le g hm d k' r' h'))
end Go.Proofs.YtfghldonnffldaaGreatDoor
namespace Go.Proofs.YtfghldonnffldaaGreatDoor
open Go.RowKit YtfghldonnffldaaGreatDoorW.PrintWords YtfghldonnffldaaGreatDoorW.PrintLast YtfghldonnffldaaGreatDoorW.PrintMore TBase
open VTwo ZFiv
theorem wrap_id(x:Int)(h1: -9223372036854775808≤x)(h2:x<9223372036854775808):wrap64 x=x:=by unfold wrap64;omega
abbrev lo(n x:Nat):ByteArray:=strOfNums (Le.bytes n x)
theorem lo_size(n x:Nat):(lo n x).size=n:=by rw[strOfNums_size,Le.bytes_len]
def wvA:ByteArray:=⟨#[87,65,86,69,102,109,116,32,16,0,0,0,1,0]⟩
def wvR:ByteArray:=⟨#[114,97,116,101,97,110,100,98]⟩
def wvD:ByteArray:=⟨#[100,97,116,97]⟩
def wvM:ByteArray:=⟨#[109,111,114,101,3,0,0,0,97,98,99,100]⟩
theorem wvA_size:wvA.size=14:=rfl
theorem wvR_size:wvR.size=8:=rfl
theorem wvD_size:wvD.size=4:=rfl
theorem wvM_size:wvM.size=12:=rfl
theorem frame_nat(ch bi:Nat)(hc:ch=1∨ch=2)(hb:bi=8∨bi=16):wrap64 (Int.tdiv (wrap64 ((ch:Int)*(bi:Int))) 8)=((ch*bi / 8:Nat):Int):=by
 rcases hc with rfl|rfl<;>rcases hb with rfl|rfl<;>kernel_rfl
abbrev fsz(ch bi:Nat):Nat:=ch*bi / 8
theorem fsz_pos(ch bi:Nat)(hc:ch=1∨ch=2)(hb:bi=8∨bi=16):1≤fsz ch bi∧fsz ch bi≤4:=by
 rcases hc with rfl|rfl<;>rcases hb with rfl|rfl<;>decide
theorem pframe_f(ch bi:Nat)(hc:ch=1∨ch=2)(hb:bi=8∨bi=16):pcm_Frame.f (ch:Int) (bi:Int)=some ((fsz ch bi:Nat):Int):=by
 unfold pcm_Frame.f;rw[frame_nat ch bi hc hb]
theorem pframes_f(ch bi:Nat)(hc:ch=1∨ch=2)(hb:bi=8∨bi=16)(d:ByteArray):pcm_Frames.f d (ch:Int) (bi:Int)=some (decide (d.size%fsz ch bi=0)):=by
 have hf:=fsz_pos ch bi hc hb;unfold pcm_Frames.f;rw[pframe_f ch bi hc hb,bs_,if_neg (by omega),←Int.natCast_emod]
 congr 1
 rw[Bool.eq_iff_iff,beq_iff_eq,decide_eq_true_iff];omega
end Go.Proofs.YtfghldonnffldaaGreatDoor
namespace Go.Proofs.YtfghldonnffldaaGreatDoor
open Go.RowKit YtfghldonnffldaaGreatDoorW.PrintWords YtfghldonnffldaaGreatDoorW.PrintLast YtfghldonnffldaaGreatDoorW.PrintMore TBase
open UOne VTwo YFou
theorem fput_k(k:Nat)(hk:20≤k)(n x:Nat)(h1:1≤n)(hn:n≤4)(hx:x<256 ^ n):field_Put.f k (x:Int) (n:Int)=some (lo n x,0):=by
 obtain⟨d,rfl⟩:=Nat.exists_eq_add_of_le hk;exact leO_le (fun k=>field_Put.f k (x:Int) (n:Int)) (fun k=>field_Put.mono _ _ k) d 20 _ (Le.put_f n x h1 hn hx)
theorem mayf(ch bi:Nat)(hc:ch=1∨ch=2)(hb:bi=8∨bi=16):pcm_May.f (ch:Int) (bi:Int)=some true:=by
 rcases hc with rfl|rfl<;>rcases hb with rfl|rfl<;>kernel_rfl
def told(kind by_ many:Nat)(own:ByteArray):ByteArray:=((strOfNums [(kind:Int),(by_:Int),(many:Int)]++lo 2 own.size)++own)++lo 4 (Crc.sum ((strOfNums [(kind:Int),(by_:Int),(many:Int)]++lo 2 own.size)++own).data.toList)
theorem told_f(k kind by_ many:Nat)(own:ByteArray)(hk:20≤k)(h1:kind<256)(h2:by_<256)(h3:many<256)(hs:own.size≤65535):segment_told.f k (kind:Int) (by_:Int) (many:Int) own=some (told kind by_ many own):=by
 have z3:(strOfNums [(kind:Int),(by_:Int),(many:Int)]).size=3:=strOfNums_size _;have m1:(kind:Int)%256=(kind:Int):=by omega
 have m2:(by_:Int)%256=(by_:Int):=by omega
 have m3:(many:Int)%256=(many:Int):=by omega
 have hs2:own.size<256 ^ 2:=Nat.lt_of_le_of_lt hs (by decide);have hcr:Crc.sum ((strOfNums [(kind:Int),(by_:Int),(many:Int)]++lo 2 own.size)++own).data.toList<256 ^ 4:=Crc.sum_lt _;unfold segment_told.f;rw[show field_Put.f k (own.size:Int) 2=some (lo 2 own.size,0) from fput_k k hk 2 own.size (by omega) (by omega) hs2,bs_,bs_,m1,m2,m3];dsimp only;rw[if_pos (by rw[z3,lo_size];omega),if_pos (by rw[ByteArray.size_append,z3,lo_size];omega)];unfold crc_Sum.f;rw[if_pos (by simp only[ByteArray.size_append,z3,lo_size];omega),bs_,show field_Put.f k (Crc.sum ((strOfNums [(kind:Int),(by_:Int),(many:Int)]++lo 2 own.size)++own).data.toList:Int) 4=some (lo 4 (Crc.sum ((strOfNums [(kind:Int),(by_:Int),(many:Int)]++lo 2 own.size)++own).data.toList),0) from fput_k k hk 4 _ (by omega) (by omega) hcr,bs_];dsimp only;rw[if_pos (by simp only[ByteArray.size_append,z3,lo_size];omega)];rfl
theorem told_size(kind by_ many:Nat)(own:ByteArray):(told kind by_ many own).size=9+own.size:=by
 unfold told;simp only[ByteArray.size_append,strOfNums_size,Le.bytes_len,List.length_cons,List.length_nil];omega
def rep(n:Nat)(v:UInt8):ByteArray:=⟨(List.replicate n v).toArray⟩
theorem frame_f(d:ByteArray)(ch bi:Nat)(hc:ch=1∨ch=2)(hb:bi=8∨bi=16):segment_sound_frame.f d (ch:Int) (bi:Int)=some ((fsz ch bi:Nat):Int):=by
 unfold segment_sound_frame.f;rw[pframe_f ch bi hc hb,bs_]
theorem many_f(d:ByteArray)(ch bi m:Nat)(hc:ch=1∨ch=2)(hb:bi=8∨bi=16)(hd:d.size=m*fsz ch bi)(hs:d.size≤100000):segment_sound_many.f d (ch:Int) (bi:Int)=some (m:Int):=by
 have hf:=fsz_pos ch bi hc hb
 have e:((d.size:Int) / ((fsz ch bi:Nat):Int))=(m:Int):=by
  rw[hd,←Int.natCast_ediv,Nat.mul_div_cancel _ (by omega)]
 have hm:m≤100000:=by
  have:m*1≤m*fsz ch bi:=Nat.mul_le_mul_left m hf.1;omega
 unfold segment_sound_many.f;rw[frame_f d ch bi hc hb,bs_,if_neg (by omega),e,wrap_id _ (by omega) (by omega)]
theorem told_list(kind by_ many:Nat)(own:ByteArray):(told kind by_ many own).data.toList=nb [(kind:Int),(by_:Int),(many:Int)]++(nb (Le.bytes 2 own.size)++(own.data.toList++nb (Le.bytes 4 (Crc.sum ((strOfNums [(kind:Int),(by_:Int),(many:Int)]++lo 2 own.size)++own).data.toList)))):=by
 unfold told;simp only[ByteArray.data_append,Array.toList_append,List.append_assoc]
structure ToldAt(s:ByteArray)(kind by_ many:Nat)(own:ByteArray):Prop where
 size:s.size=9+own.size
 b0:bt s 0=(kind:Int)
 b1:bt s 1=(by_:Int)
 b2:bt s 2=(many:Int)
 sz:s.extract 3 5=lo 2 own.size
 body:s.extract 5 (own.size+5)=own
 sum:s.extract (own.size+5) s.size=lo 4 (Crc.sum (s.extract 0 (own.size+5)).data.toList)
theorem told_at(kind by_ many:Nat)(own:ByteArray)(h1:kind<256)(h2:by_<256)(h3:many<256):ToldAt (told kind by_ many own) kind by_ many own:=by
 have h:=told_list kind by_ many own;have hz:=told_size kind by_ many own;have z3:(nb [(kind:Int),(by_:Int),(many:Int)]).length=3:=nb_len _;have e3:(told kind by_ many own).extract 0 (0+3)=strOfNums [(kind:Int),(by_:Int),(many:Int)]:=ext_of _ [] (nb [(kind:Int),(by_:Int),(many:Int)]) _ h 0 (0+3) rfl (by rw[z3])
 have hr:∀x∈ [(kind:Int),(by_:Int),(many:Int)],0≤x∧x≤255:=by
  intro x hx;simp only[List.mem_cons,List.not_mem_nil,or_false] at hx
  rcases hx with rfl|rfl|rfl<;>omega
 have ep:(told kind by_ many own).extract 0 (own.size+5)=(strOfNums [(kind:Int),(by_:Int),(many:Int)]++lo 2 own.size)++own:=by
  refine(ext_of _ [] (nb [(kind:Int),(by_:Int),(many:Int)]++(nb (Le.bytes 2 own.size)++own.data.toList)) (nb (Le.bytes 4 (Crc.sum ((strOfNums [(kind:Int),(by_:Int),(many:Int)]++lo 2 own.size)++own).data.toList))) (by rw[h];simp only[List.append_assoc,List.nil_append]) 0 (own.size+5) rfl (by simp only[List.length_append,strOfNums_size,Le.bytes_len,data_length,List.length_cons,List.length_nil];omega)).trans ?_;refine ByteArray.ext ?_;apply Array.toList_inj.1;simp only[ByteArray.data_append,Array.toList_append,List.append_assoc]
 refine⟨hz,?_,?_,?_,?_,?_,?_⟩
 ·exact(Le.bt_ext _ _ 0 3 0 e3 (by omega) (by omega)).trans (Le.bt_nums _ hr 0)
 ·exact(Le.bt_ext _ _ 0 3 1 e3 (by omega) (by omega)).trans (Le.bt_nums _ hr 1)
 ·exact(Le.bt_ext _ _ 0 3 2 e3 (by omega) (by omega)).trans (Le.bt_nums _ hr 2)
 ·exact ext_of _ (nb [(kind:Int),(by_:Int),(many:Int)]) (nb (Le.bytes 2 own.size)) _ h 3 5 z3 (by rw[nb_len,Le.bytes_len])
 ·exact(ext_of _ (nb [(kind:Int),(by_:Int),(many:Int)]++nb (Le.bytes 2 own.size)) own.data.toList _ (by rw[h];simp only[List.append_assoc];rfl) 5 (own.size+5) (by simp only[List.length_append,nb_len,Le.bytes_len,List.length_cons,List.length_nil]) (by rw[data_length];omega)).trans (arr_list own)
 ·rw[ep];exact ext_of _ (nb [(kind:Int),(by_:Int),(many:Int)]++(nb (Le.bytes 2 own.size)++own.data.toList)) (nb (Le.bytes 4 (Crc.sum ((strOfNums [(kind:Int),(by_:Int),(many:Int)]++lo 2 own.size)++own).data.toList))) [] (by rw[h];simp only[List.append_assoc,List.append_nil]) _ _ (by simp only[List.length_append,strOfNums_size,Le.bytes_len,data_length,List.length_cons,List.length_nil];omega) (by rw[nb_len,Le.bytes_len,hz];omega)
end Go.Proofs.YtfghldonnffldaaGreatDoor
namespace Go.Proofs.YtfghldonnffldaaGreatDoor
open Go.RowKit YtfghldonnffldaaGreatDoorW.PrintWords YtfghldonnffldaaGreatDoorW.PrintLast YtfghldonnffldaaGreatDoorW.PrintMore TBase
open UOne
theorem turnL_len(one:Int→Int→Int×Int)(l:List Int):∀a A B,(turnL one a A B l).length=l.length:=by
 induction l with
 |nil=>intro a A B;rfl
 |cons x r ih=>intro a A B;unfold turnL;rw[List.length_cons,List.length_cons,ih]
theorem turnL_num(l:List Int):∀a A B,COk a A B→(∀x∈l,csB x=true)→∀y∈turnL onePut a A B l,numOk y:=by
 induction l with
 |nil=>intro a A B _ _ y hy;cases hy
 |cons x r ih=>
  intro a A B hc h y hy;have hx:=csB_of (h x List.mem_cons_self);have hg:=cGuess_bd hc;unfold turnL at hy
  rcases List.mem_cons.1 hy with rfl|hy
  ·show -16777216≤x - cGuess a A B∧x - cGuess a A B≤16777216;omega
  ·exact ih _ _ _ (cLearn_ok hc hx) (fun z hz=>h z (List.mem_cons_of_mem _ hz)) y hy
theorem lineP_num{l:List Int}(h:∀x∈l,csB x=true):∀y∈lineP l,numOk y:=turnL_num l _ _ _ zero_ok h
theorem not_odd{l:List Int}(h:∀x∈l,csB x=true):l.any smOdd=false:=by
 rw[List.any_eq_false];intro x hx;unfold smOdd
 simpa using h x hx
theorem numB_all{l:List Int}(h:∀x∈l,numOk x):l.all numB=true:=by
 rw[List.all_eq_true];intro x hx;exact dt_ (h x hx)
theorem resPut_f{l:List Int}(h:∀x∈l,numOk x)(hl:l.length≤256):residual_Put.f l=some (resPut l,0):=by
 unfold residual_Put.f;rw[if_pos ⟨hl,numB_all h⟩]
theorem linePut_f{l:List Int}(h:∀x∈l,csB x=true)(hl:l.length≤256):line_Put.f l=some (lineP l,0):=by
 unfold line_Put.f;rw[if_pos ⟨hl,not_odd h⟩]
def sideT(c:Int)(x h:List Int):List Int:=List.zipWith (fun a b=>a+c*b) x h
theorem set_mid{A T R:List Int}(i:Nat)(hA:i<A.length)(hT:i<T.length)(hl:A.length=T.length):
  ((T.take i++A.drop i).set i (T.getD i 0))=T.take (i+1)++A.drop (i+1):=by
 have h1:(T.take i).length=i:=by rw[List.length_take];omega
 rw[List.set_append_right _ _ (by omega),h1,Nat.sub_self,List.drop_eq_getElem_cons hA,List.set_cons_zero,List.take_succ_eq_append_getElem hT,List.append_assoc,gD_,gE_ hT];rfl
theorem rd_mid{A T:List Int}(i:Nat)(hA:i<A.length)(hT:i≤T.length):rd (T.take i++A.drop i) (i:Int)=A.getD i 0:=by
 have h1:(T.take i).length=i:=by rw[List.length_take];omega
 unfold rd;rw[nC_,gD_,List.getElem?_append_right (by omega),h1,Nat.sub_self,List.getElem?_drop,gD_];rfl
theorem sideT_len{c:Int}{x h:List Int}(hl:x.length=h.length):(sideT c x h).length=x.length:=by
 unfold sideT;rw[List.length_zipWith];omega
theorem sideT_get{c:Int}{x h:List Int}(i:Nat)(hx:i<x.length)(hh:i<h.length):(sideT c x h).getD i 0=x.getD i 0+c*h.getD i 0:=by
 unfold sideT;rw[gD_,List.getElem?_zipWith,gE_ hx,gE_ hh,gD_,gD_,gE_ hx,gE_ hh];rfl
theorem wid64(x:Int)(h1: -9223372036854775808≤x)(h2:x<9223372036854775808):wrap64 x=x:=by unfold wrap64;omega
theorem wsum64(a c h:Int)(ha: -1000000≤a∧a≤1000000)(hc:c=0∨c=1∨c= -1)(hh: -1000000≤h∧h≤1000000):wrap64 (a+wrap64 (c*h))=a+c*h:=by
 rcases hc with rfl|rfl|rfl
 ·rw[wid64 (0*h) (by omega) (by omega),wid64 _ (by omega) (by omega)]
 ·rw[wid64 (1*h) (by omega) (by omega),wid64 _ (by omega) (by omega)]
 ·rw[wid64 (-1*h) (by omega) (by omega),wid64 _ (by omega) (by omega)]
theorem turn_l1(x0:List (List Int))(x1:Int)(x6:List (List Int))(x7:Int)(x14:List (List Int))(x15 x16:Int)(A hr:List Int)(c:Int)(hc:wrap64 (x7*x1)=c)(hc1:c=0∨c=1∨c= -1)
  (h0:0<(x0.length:Int)) (h6:x6.length<5864062014805) (hh:UOne.rd_L1 x0 0=hr) (hl:A.length=hr.length) (hA:∀x∈A,-1000000≤x∧x≤1000000) (hH:∀x∈hr,-1000000≤x∧x≤1000000) (hn:A.length≤1000000) (k:Nat):
  ∀d i,i+d=A.length→side_turn.l1 (k+d+1) x0 x1 x6 x7 ((sideT c A hr).take i++A.drop i) x14 x15 x16 (A.length:Int) (i:Int)=side_turn.l0 k x0 x1 (x6++ [sideT c A hr]) x14 x15 (wrap64 (x16+1)):=by
 intro d
 induction d with
 |zero=>
  intro i hi;obtain rfl:A.length=i:=by omega
  unfold side_turn.l1;rw[if_neg (by omega),if_pos h6,List.drop_length,List.append_nil,List.take_of_length_le (by rw[sideT_len hl];exact Nat.le_refl _)]
 |succ d ih=>
  intro i hi;have h1:i<A.length:=by omega
  have h2:i<hr.length:=by omega
  have e3:((sideT c A hr).take i++A.drop i).length=A.length:=by rw[List.length_append,List.length_take,List.length_drop,sideT_len hl];omega
  have e4:wrap64 ((i:Int)+1)=((i+1:Nat):Int):=by rw[wid64 _ (by omega) (by omega)];omega
  have e5:rd hr (i:Int)=hr.getD i 0:=by unfold rd;rw[nC_]
  have m1:A.getD i 0∈A:=by rw[gD_,gE_ h1];exact List.getElem_mem h1
  have m2:hr.getD i 0∈hr:=by rw[gD_,gE_ h2];exact List.getElem_mem h2
  rw[show k+(d+1)+1=(k+d+1)+1 from rfl];unfold side_turn.l1
  rw[hh,if_pos (by omega),if_pos (by omega),e3,if_pos (by omega),if_pos h0,if_pos (by omega),e4,nC_,rd_mid i h1 (by rw[sideT_len hl];omega),hc,e5,wsum64 _ _ _ (hA _ m1) hc1 (hH _ m2),←sideT_get i h1 h2,
   set_mid (R:= []) i h1 (by rw[sideT_len hl];exact h1) (by rw[sideT_len hl])]
  exact ih (i+1) (by omega)
theorem sideT_zero{x h:List Int}(hl:x.length=h.length):sideT 0 x h=x:=by
 apply List.ext_getElem (sideT_len hl);intro i h1 h2;refine(List.getElem_zipWith (h:=h1)).trans ?_;omega
theorem sideRow_ok{n:Nat}{l:List Int}(hl:l.length=n)(h:∀x∈l,csB x=true):sideRow n l=true:=by
 unfold sideRow;rw[not_odd h,hl];simp
end Go.Proofs.YtfghldonnffldaaGreatDoor
