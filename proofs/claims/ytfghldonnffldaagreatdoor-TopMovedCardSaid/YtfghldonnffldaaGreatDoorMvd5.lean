/- Walks of the program's functions, and the laws of what they compute, for TopMoved: one file of several. -/
import Derived.Test.YtfghldonnffldaaGreatDoorProg
import Derived.Below
import Derived.Deep.Draws
import Derived.Deep.AppendLies
import Derived.Maps.AppendAt
import Derived.OwnWalk
import Derived.Laws.BytesArg
import Derived.Laws.MakeOwn
import Derived.Laws.OwnMore
import Derived.Deep.OwnRows
import Derived.Tactics
import Derived.Lib.ConvBytes
import Derived.Laws.Slices
import Derived.WalkKit
import Derived.KernelRfl
import Derived.RowKit3
import Derived.Deep.LoopGhost
import Derived.Deep.QuietTactic
import Derived.BigQuiet
import Derived.WideLaws
import Derived.Deep.DeepCutAuto
import Derived.Deep.CutBlock
import Derived.Deep.RegionHeld3
import Derived.Laws.Rows
import Derived.Lib.AppendStr
import Derived.ArgAppend
import Derived.Laws.IdiomCopy
import Derived.OrdersHeld
import Derived.Laws.BitsLemmas
import Derived.RowKit
import Derived.Test.YtfghldonnffldaaGreatDoorMvd4
set_option linter.unusedVariables false
set_option linter.unusedSimpArgs false
set_option maxRecDepth 100000
set_option maxHeartbeats 8000000
namespace Go.Proofs.YtfghldonnffldaaGreatDoor.ZFiv
open Go.RowKit TBase UOne VTwo XThr YFou YtfghldonnffldaaGreatDoorW.PrintWords YtfghldonnffldaaGreatDoorW.PrintLast YtfghldonnffldaaGreatDoorW.PrintMore
attribute [local go_sem] max2_int min2_int max_two min_two max_three min_three max_four min_four
def wave_Parse.j0:Nat→ByteArray→List (S116)→Int→Int→Bool→Option (Int×Int×ByteArray×ByteArray×ByteArray×Int)
 |0,_,_,_,_,_=>none
 |k+1,x0,x4,x6,x8,H7=>if H7=true then(some (0,0,(⟨#[]⟩:ByteArray),(⟨#[]⟩:ByteArray),(⟨#[]⟩:ByteArray),2100)) else(if 0≤x6 then(if x6<(x4.length:Int) then(if 0≤((rd_T116 x4 x6).f1) then(if((rd_T116 x4 x6).f1)≤(wrap64 (((rd_T116 x4 x6).f1)+16)) then(if(wrap64 (((rd_T116 x4 x6).f1)+16))≤(x0.size:Int) then((wave_format.f k (x0.extract (((rd_T116 x4 x6).f1):Int).toNat ((wrap64 (((rd_T116 x4 x6).f1)+16)):Int).toNat)).bind fun qw=>(if 0≤x8 then(if x8<(x4.length:Int) then(if 0≤((rd_T116 x4 x8).f1) then(if((rd_T116 x4 x8).f1)≤(wrap64 (((rd_T116 x4 x8).f1)+((rd_T116 x4 x8).f2))) then(if(wrap64 (((rd_T116 x4 x8).f1)+((rd_T116 x4 x8).f2)))≤(x0.size:Int) then(if qw.2.2=true then((pcm_Frames.f (x0.extract (((rd_T116 x4 x8).f1):Int).toNat ((wrap64 (((rd_T116 x4 x8).f1)+((rd_T116 x4 x8).f2))):Int).toNat) qw.1 qw.2.1).bind fun t119=>(if t119=true then(if((rd_T116 x4 x8).f1)≤(x0.size:Int) then(if 0≤(wrap64 (((rd_T116 x4 x8).f1)+((x0.extract (((rd_T116 x4 x8).f1):Int).toNat ((wrap64 (((rd_T116 x4 x8).f1)+((rd_T116 x4 x8).f2))):Int).toNat).size:Int))) then(if(wrap64 (((rd_T116 x4 x8).f1)+((x0.extract (((rd_T116 x4 x8).f1):Int).toNat ((wrap64 (((rd_T116 x4 x8).f1)+((rd_T116 x4 x8).f2))):Int).toNat).size:Int)))≤(x0.size:Int) then(some (qw.1,qw.2.1,x0.extract 0 (((rd_T116 x4 x8).f1):Int).toNat,x0.extract (((rd_T116 x4 x8).f1):Int).toNat ((wrap64 (((rd_T116 x4 x8).f1)+((rd_T116 x4 x8).f2))):Int).toNat,x0.extract ((wrap64 (((rd_T116 x4 x8).f1)+((x0.extract (((rd_T116 x4 x8).f1):Int).toNat ((wrap64 (((rd_T116 x4 x8).f1)+((rd_T116 x4 x8).f2))):Int).toNat).size:Int))):Int).toNat x0.size,0)) else(none)) else(none)) else(none)) else(some (0,0,(⟨#[]⟩:ByteArray),(⟨#[]⟩:ByteArray),(⟨#[]⟩:ByteArray),2100)))) else(some (0,0,(⟨#[]⟩:ByteArray),(⟨#[]⟩:ByteArray),(⟨#[]⟩:ByteArray),2100))) else(none)) else(none)) else(none)) else(none)) else(none))) else(none)) else(none)) else(none)) else(none)) else(none))
def wave_Parse.f(k:Nat)(a0:ByteArray):Option (Int×Int×ByteArray×ByteArray×ByteArray×Int):=(riff_Chunks.f k a0).bind fun dA=>((wave_one.f dA.1 (⟨#[102,109,116,32]⟩:ByteArray)).bind fun eO=>((wave_one.f dA.1 (⟨#[100,97,116,97]⟩:ByteArray)).bind fun gz=>(if dA.2=0 then(if eO.2=true then(if gz.2=true then(if gz.1<eO.1 then(wave_Parse.j0 k a0 dA.1 eO.1 gz.1 true) else(if 0≤eO.1 then(if eO.1<(dA.1.length:Int) then(wave_Parse.j0 k a0 dA.1 eO.1 gz.1 (((rd_T116 dA.1 eO.1).f2) !=16)) else(none)) else(none))) else(wave_Parse.j0 k a0 dA.1 eO.1 gz.1 true)) else(wave_Parse.j0 k a0 dA.1 eO.1 gz.1 true)) else(wave_Parse.j0 k a0 dA.1 eO.1 gz.1 true))))
def wave_Parse.T6:Bool×List (List Nat×List Nat):=(true,[([],[]),([],[]),([],[]),([1,2],[1,2]),([3],[3]),([4],[4]),([],[]),([],[]),([6,7],[6,7]),([8],[8]),([9],[9]),([10],[10]),([0,5,11],[0,5,11]),([12],[12]),([13],[13]),([14],[14]),([14],[14]),([],[]),([17,15,13,0,1,2,3,4,5,6,7,8,9,10,11,12,13,14,15,17],[15,17]),([16,18,0,1,2,3,4,5,6,7,8,9,10,11,12,13,14,15,16,17,18],[16])])
def wave_Parse.B6:List Nat:= [0,0,0,6,14,30,0,0,192,448,960,1984,4095,8191,16383,32767,32767,0,196607,524287]
theorem wave_Parse.tab6:rtab .any (opsOf Tryz.f24 6)=wave_Parse.T6:=by kernel_rfl
theorem wave_Parse.bits6:waitsOk wave_Parse.T6.2 wave_Parse.B6=true:=by kernel_rfl
def wave_Parse.T11:Bool×List (List Nat×List Nat):=(true,[([],[]),([],[]),([],[]),([1,2],[1,2]),([],[]),([],[]),([],[]),([],[]),([7],[7]),([6,8],[6,8]),([5,9],[5,9]),([0,3,4,10],[0,3,4,10]),([11,0,1,2,3,4,5,6,7,8,9,10,11],[11]),([12,0,1,2,3,4,5,6,7,8,9,10,11,12],[])])
def wave_Parse.B11:List Nat:= [0,0,0,6,0,0,0,0,128,448,992,2047,4095,8191]
theorem wave_Parse.tab11:rtab .any (opsOf Tryz.f24 11)=wave_Parse.T11:=by kernel_rfl
theorem wave_Parse.bits11:waitsOk wave_Parse.T11.2 wave_Parse.B11=true:=by kernel_rfl
theorem wave_Parse.calls(k:Nat)(a0:ByteArray)(r1:Int)(r2:Int)(r3:ByteArray)(r4:ByteArray)(r5:ByteArray)(r6:Int)(w:World)(h:wave_Parse.f k a0=some (r1,r2,r3,r4,r5,r6)):
  Calls Tryz.prog 24 #[.string a0] w fun e w'=>e= .returned (.tuple #[.agg #[.int .i64 r1,.int .i64 r2,.string r3,.string r4,.string r5],.int .i64 r6])∧Below w.heap.size w w':=by
 have Ep:=Tryz.underlying57;have fH:=Tryz.underlying23;have HB:=Z_ (Below.refl w.heap.size w);have H:((riff_Chunks.f k a0).bind fun dA=>((wave_one.f dA.1 (⟨#[102,109,116,32]⟩:ByteArray)).bind fun eO=>((wave_one.f dA.1 (⟨#[100,97,116,97]⟩:ByteArray)).bind fun gz=>(if dA.2=0 then(if eO.2=true then(if gz.2=true then(if gz.1<eO.1 then(wave_Parse.j0 k a0 dA.1 eO.1 gz.1 true) else(if 0≤eO.1 then(if eO.1<(dA.1.length:Int) then(wave_Parse.j0 k a0 dA.1 eO.1 gz.1 (((rd_T116 dA.1 eO.1).f2) !=16)) else(none)) else(none))) else(wave_Parse.j0 k a0 dA.1 eO.1 gz.1 true)) else(wave_Parse.j0 k a0 dA.1 eO.1 gz.1 true)) else(wave_Parse.j0 k a0 dA.1 eO.1 gz.1 true)))))=some (r1,r2,r3,r4,r5,r6):=h;clear h;replace H:=Ob_ H;obtain⟨⟨ah,bG⟩,fU,H⟩:=H;(try dsimp only at H);have A2:=Z_ fU;clear fU;replace H:=Ob_ H;obtain⟨⟨ag,t107⟩,jw,H⟩:=H;(try dsimp only at H);have A3:=Z_ jw;clear jw;replace H:=Ob_ H;obtain⟨⟨aM,t109⟩,Bi,H⟩:=H;(try dsimp only at H);have A4:=Z_ Bi;clear Bi;have Rt:=Z_ H;clear H
 go_enter Tryz.func24,Tryz.ntmps24
 go_upto_region 4 with (first|(refine X_ 2 #[.int .i64 0,.int .i64 0,.string (⟨#[]⟩:ByteArray),.string (⟨#[]⟩:ByteArray),.string (⟨#[]⟩:ByteArray)] 57 ?_;intro az hg w6 hbox hb;have aa:=Z_ (hbox);have iy:=Z_ (G2_ hg:w.heap.size≤_);have nu:=iy;replace HB:=Hb_ hb;clear hb hbox hg)|(refine G_ 16 Tryz.func58 #[.string a0] ?_;refine(riff_Chunks.calls k a0 ah bG _ A2.out).mono ?_;rintro e w7 ⟨yl,rfl,ho0,hb⟩;refine⟨_,rfl,?_⟩;have dI:=Z_ (Kd.R_lower ho0 (below_size B_));replace aa:=Z_ (blk_below (K_ aa) hb);replace HB:=Hb_ hb;(try clear hb);(try clear ho0);obtain⟨Ru,Aw,Wd⟩:=Kd.R_slice dI.out;subst Wd)|(refine G_ 21 Tryz.func59 #[.slice Ru ah.length Aw,.string (⟨#[102,109,116,32]⟩:ByteArray)] ?_;refine(wave_one.calls _ _ ah (⟨#[102,109,116,32]⟩:ByteArray) ag t107 _ (C_ (Kd.R_reads' dI.out).2.2) ((Kd.R_reads' dI.out).2.1) A3.out).mono ?_;rintro e w9 ⟨rfl,hb⟩;refine⟨_,rfl,?_⟩;replace dI:=Z_ (Kd.R_below (R_ dI) hb);replace aa:=Z_ (blk_below (K_ aa) hb);replace HB:=Hb_ hb;(try clear hb))|(refine G_ 26 Tryz.func59 #[.slice Ru ah.length Aw,.string (⟨#[100,97,116,97]⟩:ByteArray)] ?_;refine(wave_one.calls _ _ ah (⟨#[100,97,116,97]⟩:ByteArray) aM t109 _ (C_ (Kd.R_reads' dI.out).2.2) ((Kd.R_reads' dI.out).2.1) A4.out).mono ?_;rintro e o5 ⟨rfl,hb⟩;refine⟨_,rfl,?_⟩;replace dI:=Z_ (Kd.R_below (R_ dI) hb);replace aa:=Z_ (blk_below (K_ aa) hb);replace HB:=Hb_ hb;(try clear hb)))
 (try simp only[Act.put,List.setIfInBounds_toArray,List.set_cons_zero,List.set_cons_succ])
 go_cut [51] (fun v51 wc=>∃(kq:Nat) (ve:Bool),v51= .bool ve∧Aside0 (wave_Parse.j0 kq a0 ah ag aM ve=some (r1,r2,r3,r4,r5,r6))∧Aside0 (kq≤k)∧Aside0 (Kd.R k116 116 wc w.heap.size (fun _=>True) (.slice Ru ah.length Aw) ah)∧Aside0 (wc.heap[az]?=some (.cells #[.int .i64 0,.int .i64 0,.string (⟨#[]⟩:ByteArray),.string (⟨#[]⟩:ByteArray),.string (⟨#[]⟩:ByteArray)] 57 (0,0)))∧Aside0 (Below w.heap.size w wc))
 case first=>
  have H:=Rt.out;clear Rt
  by_cases c11:bG=0
  ·rw[if_pos c11] at H;have c11b0:(bG==0)=true:=beq_iff_eq.mpr c11;have c11b1:(bG !=0)=false:=bne_eq_false_iff_eq.mpr c11;clear c11;(first|rw[c11b0]|(simp only[i64_w,i32_w];rw[c11b0])|skip)
   by_cases c12:t107=true
   ·subst c12;rw[if_pos rfl] at H
    by_cases c13:t109=true
    ·subst c13;rw[if_pos rfl] at H
     by_cases c14:aM<ag
     ·rw[if_pos c14] at H;have c14b0:=dt_ c14;clear c14;have H':=Z_ H;clear H;go_wp2;go_meet
      case rel=>exact⟨_,(true),(E1_),H',⟨L_⟩,⟨R_ dI⟩,⟨by(with_reducible repeat (first|refine blk_drewN ?_ _|refine blk_drew ?_|refine blk_alloc ?_ _));exact aa.out⟩,⟨B_⟩⟩
     ·rw[if_neg c14] at H;have c14b0:=df_ c14;clear c14
      by_cases c15:0≤ag
      ·rw[if_pos c15] at H;have c15b0:=dt_ c15;clear c15
       by_cases c16:ag<(ah.length:Int)
       ·rw[if_pos c16] at H;have c16b0:=dt_ c16;clear c16;have H':=Z_ H;clear H;have lm:0≤(ag:Int):=od_ A_;have lq:ag<(ah.length:Int):=od_ A_;obtain⟨pV,xS,eT,Ay,Az⟩:=at_T116 (Kd.R_reads' dI.out).2.2 ag lm lq
        cases xS
        replace lm:=eq_true lm;replace lq:=eq_true lq;go_wp2;go_meet
        case rel=>exact⟨_,((((rd_T116 ah ag).f2) !=16)),(E1_),H',⟨L_⟩,⟨R_ dI⟩,⟨by(with_reducible repeat (first|refine blk_drewN ?_ _|refine blk_drew ?_|refine blk_alloc ?_ _));exact aa.out⟩,⟨B_⟩⟩
       ·rw[if_neg c16] at H;exact absurd H (by simp)
      ·rw[if_neg c15] at H;exact absurd H (by simp)
    ·replace c13:=Bool.eq_false_iff.mpr c13;subst c13;rw[if_neg (show ¬(false=true) by decide)] at H;have H':=Z_ H;clear H;go_wp2;go_meet
     case rel=>exact⟨_,(true),(E1_),H',⟨L_⟩,⟨R_ dI⟩,⟨by(with_reducible repeat (first|refine blk_drewN ?_ _|refine blk_drew ?_|refine blk_alloc ?_ _));exact aa.out⟩,⟨B_⟩⟩
   ·replace c12:=Bool.eq_false_iff.mpr c12;subst c12;rw[if_neg (show ¬(false=true) by decide)] at H;have H':=Z_ H;clear H;go_wp2;go_meet
    case rel=>exact⟨_,(true),(E1_),H',⟨L_⟩,⟨R_ dI⟩,⟨by(with_reducible repeat (first|refine blk_drewN ?_ _|refine blk_drew ?_|refine blk_alloc ?_ _));exact aa.out⟩,⟨B_⟩⟩
  ·rw[if_neg c11] at H;have c11b0:(bG==0)=false:=beq_eq_false_iff_ne.mpr c11;have c11b1:(bG !=0)=true:=bne_iff_ne.mpr c11;(first|rw[c11b0]|(simp only[i64_w,i32_w];rw[c11b0])|skip);have H':=Z_ H;clear H;go_wp2;go_meet
   case rel=>exact⟨_,(true),(E1_),H',⟨L_⟩,⟨R_ dI⟩,⟨by(with_reducible repeat (first|refine blk_drewN ?_ _|refine blk_drew ?_|refine blk_alloc ?_ _));exact aa.out⟩,⟨B_⟩⟩
 case rest=>
  clear Rt
  try clear c1
  try clear p1
  try clear q1
  try clear hx1
  try clear c2
  try clear p2
  try clear c5
  try clear c11
  try clear c11b0
  try clear c11b1
  try clear qD
  try clear qE
  try clear qW
  try clear c12
  try clear c13
  try clear c14
  try clear c14b0
  try clear c15
  try clear c15b0
  try clear c16
  try clear c16b0
  try clear eT
  try clear Ay
  try clear Az
  try clear lm
  try clear lq
  obtain⟨kq,ve,rfl,HA,Xq,HO_4,aa,HB⟩:=hcut
  cases kq with
  |zero=>exact absurd HA.out (by simp[wave_Parse.j0])
  |succ EZ=>
   have H:=HA.out;clear HA;simp only[wave_Parse.j0] at H
   by_cases c17:ve=true
   ·subst c17;rw[if_pos rfl] at H;simp only[Option.some.injEq,Prod.mk.injEq] at H;obtain⟨rfl,rfl,rfl,rfl,rfl,rfl⟩:=H;have KV:=cz_ aa 0;have KW:=cz_ aa 1;have KX:=cz_ aa 2;have KY:=cz_ aa 3;have KZ:=cz_ aa 4;have K3:=fz_ aa 0;have K4:=fz_ aa 1;have K5:=fz_ aa 2;have K6:=fz_ aa 3;have K7:=fz_ aa 4;go_wp2;refine bodyPost_ret (results_ct rfl _ _ az 57 #[.int .i64 0,.int .i64 0,.string (⟨#[]⟩:ByteArray),.string (⟨#[]⟩:ByteArray),.string (⟨#[]⟩:ByteArray)] (0,0) _ rfl (by(with_reducible repeat (first|refine blk_drewN ?_ _|refine blk_drew ?_|refine blk_alloc ?_ _));refine blk_put (cs:= #[.int .i64 0,.int .i64 0,.string (⟨#[]⟩:ByteArray),.string (⟨#[]⟩:ByteArray),.string (⟨#[]⟩:ByteArray)]) ?_ 4 _ rfl;(with_reducible repeat (first|refine blk_drewN ?_ _|refine blk_drew ?_|refine blk_alloc ?_ _));refine blk_put (cs:= #[.int .i64 0,.int .i64 0,.string (⟨#[]⟩:ByteArray),.string (⟨#[]⟩:ByteArray),.string (⟨#[]⟩:ByteArray)]) ?_ 3 _ rfl;(with_reducible repeat (first|refine blk_drewN ?_ _|refine blk_drew ?_|refine blk_alloc ?_ _));refine blk_put (cs:= #[.int .i64 0,.int .i64 0,.string (⟨#[]⟩:ByteArray),.string (⟨#[]⟩:ByteArray),.string (⟨#[]⟩:ByteArray)]) ?_ 2 _ rfl;(with_reducible repeat (first|refine blk_drewN ?_ _|refine blk_drew ?_|refine blk_alloc ?_ _));refine blk_put (cs:= #[.int .i64 0,.int .i64 0,.string (⟨#[]⟩:ByteArray),.string (⟨#[]⟩:ByteArray),.string (⟨#[]⟩:ByteArray)]) ?_ 1 _ rfl;(with_reducible repeat (first|refine blk_drewN ?_ _|refine blk_drew ?_|refine blk_alloc ?_ _));refine blk_put (cs:= #[.int .i64 0,.int .i64 0,.string (⟨#[]⟩:ByteArray),.string (⟨#[]⟩:ByteArray),.string (⟨#[]⟩:ByteArray)]) ?_ 0 _ rfl;(with_reducible repeat (first|refine blk_drewN ?_ _|refine blk_drew ?_|refine blk_alloc ?_ _));exact aa.out) Tryz.underlying57 rfl (by kernel_rfl)) rfl ?_;exact⟨E_,B_⟩
   ·replace c17:=Bool.eq_false_iff.mpr c17;subst c17;rw[if_neg (show ¬(false=true) by decide)] at H
    by_cases c19:0≤ag
    ·rw[if_pos c19] at H;have c19b0:=dt_ c19;clear c19
     by_cases c20:ag<(ah.length:Int)
     ·rw[if_pos c20] at H;have c20b0:=dt_ c20;clear c20
      by_cases c21:0≤((rd_T116 ah ag).f1)
      ·rw[if_pos c21] at H;have c21b0:=eq_true c21;have c21b1:=dt_ c21;clear c21
       by_cases qF:((rd_T116 ah ag).f1)≤(wrap64 (((rd_T116 ah ag).f1)+16))
       ·rw[if_pos qF] at H;have c22b0:=eq_true qF;have c22b1:=dt_ qF
        by_cases c23:(wrap64 (((rd_T116 ah ag).f1)+16))≤(a0.size:Int)
        ·rw[if_pos c23] at H;have c23b0:=eq_true c23;have c23b1:=dt_ c23;replace H:=Ob_ H;obtain⟨⟨bY,bQ,AA⟩,IQ,H⟩:=H;(try dsimp only at H);have Er:=Z_ IQ;clear IQ
         by_cases qK:0≤aM
         ·rw[if_pos qK] at H;have c25b0:=dt_ qK;clear qK
          by_cases o6:aM<(ah.length:Int)
          ·rw[if_pos o6] at H;have c26b0:=dt_ o6;clear o6
           by_cases jI:0≤((rd_T116 ah aM).f1)
           ·rw[if_pos jI] at H;have c27b0:=eq_true jI;have c27b1:=dt_ jI;clear jI
            by_cases c28:((rd_T116 ah aM).f1)≤(wrap64 (((rd_T116 ah aM).f1)+((rd_T116 ah aM).f2)))
            ·rw[if_pos c28] at H;have c28b0:=eq_true c28;have c28b1:=dt_ c28
             by_cases jS:(wrap64 (((rd_T116 ah aM).f1)+((rd_T116 ah aM).f2)))≤(a0.size:Int)
             ·rw[if_pos jS] at H;have c29b0:=eq_true jS;have c29b1:=dt_ jS
              by_cases lJ:AA=true
              ·subst lJ;rw[if_pos rfl] at H;replace H:=Ob_ H;obtain⟨t119,IR,H⟩:=H;(try dsimp only at H);have Rv:=Z_ IR;clear IR
               by_cases c32:t119=true
               ·subst c32;rw[if_pos rfl] at H;have c33b0:=eq_true (od_ A_:0≤((rd_T116 ah aM).f1))
                by_cases c34:((rd_T116 ah aM).f1)≤(a0.size:Int)
                ·rw[if_pos c34] at H;have c34b0:=eq_true c34;have c34b1:=dt_ c34;clear c34;obtain⟨AC,mM⟩:∃j_:Int,(wrap64 (((rd_T116 ah aM).f1)+((a0.extract (((rd_T116 ah aM).f1):Int).toNat ((wrap64 (((rd_T116 ah aM).f1)+((rd_T116 ah aM).f2))):Int).toNat).size:Int)))=j_:=⟨_,rfl⟩;(first|rw[mM] at H|simp only[mM] at H);(try rw[mM] at Er);(try rw[mM] at Rv);have hji35w:(IntKind.i64.wrap (((rd_T116 ah aM).f1)+((a0.extract (((rd_T116 ah aM).f1):Int).toNat ((wrap64 (((rd_T116 ah aM).f1)+((rd_T116 ah aM).f2))):Int).toNat).size:Int)))=AC:=(i64_w _).trans mM
                 by_cases qL:0≤(AC)
                 ·rw[if_pos qL] at H;have c36b0:=eq_true qL;have c36b1:=dt_ qL;clear qL
                  by_cases c37:(AC)≤(a0.size:Int)
                  ·rw[if_pos c37] at H;have c37b0:=eq_true c37;have c37b1:=dt_ c37;clear c37;simp only[Option.some.injEq,Prod.mk.injEq] at H;obtain⟨rfl,rfl,rfl,rfl,rfl,rfl⟩:=H
                   try go_wp2
                   replace HO_4:=Z_ (Kd.R_drew HO_4.out);replace aa:=Z_ (blk_drew aa.out);replace HB:=Z_ (below_drew1 HB.out);have gJ:0≤(ag:Int):=od_ A_;have gK:ag<(ah.length:Int):=od_ A_;obtain⟨ak,nP,bR,gY,gZ⟩:=at_T116 (Kd.R_reads' HO_4.out).2.2 ag gJ gK
                   cases nP
                   replace gJ:=eq_true gJ;replace gK:=eq_true gK;have gq:0≤(ag:Int):=od_ A_;have gu:ag<(ah.length:Int):=od_ A_;obtain⟨jh,mG,dh,ib,ic⟩:=at_T116 (Kd.R_reads' HO_4.out).2.2 ag gq gu;obtain rfl:ak=jh:=(by injection mG);replace gq:=eq_true gq;replace gu:=eq_true gu;refine start_ (n:=20) (S:=fun w'=>w'.cell? (ak.add ((ag).toNat*3))=some (.string ((rd_T116 ah ag).f0))∧w'.cell? ⟨(ak.add ((ag).toNat*3)).block,(ak.add ((ag).toNat*3)).off+1,none⟩=some (.int .i64 ((rd_T116 ah ag).f1))∧w'.cell? ⟨(ak.add ((ag).toNat*3)).block,(ak.add ((ag).toNat*3)).off+2,none⟩=some (.int .i64 ((rd_T116 ah ag).f2))∧w'.cell? (ak.add ((ag).toNat*3))=some (.string ((rd_T116 ah ag).f0))∧w'.cell? ⟨(ak.add ((ag).toNat*3)).block,(ak.add ((ag).toNat*3)).off+1,none⟩=some (.int .i64 ((rd_T116 ah ag).f1))∧w'.cell? ⟨(ak.add ((ag).toNat*3)).block,(ak.add ((ag).toNat*3)).off+2,none⟩=some (.int .i64 ((rd_T116 ah ag).f2))) (ds:= []) #[false,false,false,false,false,false,false,false,false,false,false,false,false,false,false,false,false,false,false,false] (by kernel_rfl) rfl rfl ⟨bR,gY,gZ,dh,ib,ic⟩ (fun hHeld=>?_);refine with_tabW wave_Parse.tab6 wave_Parse.bits6 (fun HT_ HW_=>?_);generalize wc.drew=JY at HO_4 aa HB bR gY gZ dh ib ic hHeld ⊢;refine P_ 0 54 ?_;refine P_ 1 55 ?_;refine P_ 2 56 ?_;refine P_ 3 57 ?_;refine P_ 4 58 ?_;refine P_ 6 60 ?_;refine P_ 7 61 ?_;refine P_ 8 62 ?_;refine P_ 9 63 ?_;refine T_ 5 59 (y:=by rintro w' ⟨s0,s1,s2,s3,s4,s5⟩;go_simp;with_reducible rfl) (h:=?_);refine T_ 10 64 (y:=by rintro w' ⟨s0,s1,s2,s3,s4,s5⟩;go_simp;with_reducible rfl) (h:=?_);refine P_ 11 65 ?_;refine P_ 12 66 ?_;refine join_ (σ:=Nat) 2 #[true,true,true,true,true,true,true,true,true,true,true,true,true,true,true,true,true,true,false,false] (fun s_=> [(67,.tuple #[.agg #[.int .i64 bY,.int .i64 bQ],.bool true]),(10,.pointer (some ⟨s_,0,none⟩)),(53,.tuple #[.agg #[.int .i64 bY,.int .i64 bQ],.bool true]),(68,.agg #[.int .i64 bY,.int .i64 bQ]),(69,.bool true)]) (fun s_ w'=>(w'.cell? (ak.add ((ag).toNat*3))=some (.string ((rd_T116 ah ag).f0))∧w'.cell? ⟨(ak.add ((ag).toNat*3)).block,(ak.add ((ag).toNat*3)).off+1,none⟩=some (.int .i64 ((rd_T116 ah ag).f1))∧w'.cell? ⟨(ak.add ((ag).toNat*3)).block,(ak.add ((ag).toNat*3)).off+2,none⟩=some (.int .i64 ((rd_T116 ah ag).f2))∧w'.cell? (ak.add ((ag).toNat*3))=some (.string ((rd_T116 ah ag).f0))∧w'.cell? ⟨(ak.add ((ag).toNat*3)).block,(ak.add ((ag).toNat*3)).off+1,none⟩=some (.int .i64 ((rd_T116 ah ag).f1))∧w'.cell? ⟨(ak.add ((ag).toNat*3)).block,(ak.add ((ag).toNat*3)).off+2,none⟩=some (.int .i64 ((rd_T116 ah ag).f2)))∧(Kd.R k116 116 w' w.heap.size (fun _=>True) (.slice (some ak) ah.length Aw) ah)∧(w'.heap[az]?=some (.cells #[.int .i64 0,.int .i64 0,.string (⟨#[]⟩:ByteArray),.string (⟨#[]⟩:ByteArray),.string (⟨#[]⟩:ByteArray)] 57 (0,0)))∧(w'.heap[s_]?=some (.cells #[.int .i64 0,.int .i64 0] 23 (0,0)))∧(w.heap.size≤s_)∧(w.heap.size≤s_)∧(az≠s_)∧(s_≠az)∧(Below w.heap.size w w')) ?_ ?_;rotate_left
                   ·intro hCont;refine two_ (i:=13) (j:=17) (Ni:=some 67) (Nj:=some 10) #[true,true,true,true,true,true,true,true,true,true,true,true,true,true,false,false,false,false,false,false] #[true,true,true,true,true,true,true,true,true,true,true,true,true,false,false,false,false,true,false,false] rfl rfl rfl rfl (two_of HT_.out (by kernel_rfl)) (by decide) (by decide) (fun K hK=>?_) (fun K hK=>?_)
                    ·skip
                     refine g_ Tryz.func60 #[.string (a0.extract (((rd_T116 ah ag).f1):Int).toNat ((wrap64 (((rd_T116 ah ag).f1)+16)):Int).toNat)] ?_
                     with_reducible refine(wave_format.calls EZ (a0.extract (((rd_T116 ah ag).f1):Int).toNat ((wrap64 (((rd_T116 ah ag).f1)+16)):Int).toNat) bY bQ true _ Er.out).mono ?_
                     rintro e Jr ⟨rfl,hb⟩;have fE:=Hc_ hb hHeld.1;have gD:=Hc_ hb hHeld.2.1;have gF:=Hc_ hb hHeld.2.2.1;have gG:=Hc_ hb hHeld.2.2.2.1;have gH:=Hc_ hb hHeld.2.2.2.2.1;have gI:=Hc_ hb hHeld.2.2.2.2.2;refine⟨_,rfl,?_⟩;replace HO_4:=Z_ (Kd.R_below (R_ HO_4) hb);replace aa:=Z_ (blk_below (K_ aa) hb);replace HB:=Hb_ hb;(try clear hb);(try clear hb2);(try clear hk);(try clear hi);refine hK.out _ _ ⟨fE,gD,gF,gG,gH,gI⟩ (fun hHeld=>?_);clear hK K;refine Nm_ 67 ?_;refine P_ 14 53 ?_;refine P_ 15 68 ?_;refine P_ 16 69 ?_;refine O_ 17 10 fun K hK=>?_
                     refine box_step ?hg (N:=10) ?hd (cs:= #[.int .i64 0,.int .i64 0]) (t:=23) ?hr ?_;(case hd=>rfl);(case hg=>rfl);(case hr=>first|(go_simp;done)|(go_simp;rfl));intro ai hg TS hbox hb;have fE:=Hc_ hb hHeld.1;have gD:=Hc_ hb hHeld.2.1;have gF:=Hc_ hb hHeld.2.2.1;have gG:=Hc_ hb hHeld.2.2.2.1;have gH:=Hc_ hb hHeld.2.2.2.2.1;have gI:=Hc_ hb hHeld.2.2.2.2.2;replace HO_4:=Z_ (Kd.R_below (R_ HO_4) hb);have aD:=Z_ (hbox);have ig:=Z_ ((G2_ hg:w.heap.size≤_));have ik:=Z_ ((G2_ hg:w.heap.size≤_));replace HB:=Hb_ hb;have aI:=Z_ ((by rw[hg];exact Nat.ne_of_lt (blk_lt (g:=az) (o:= .cells #[.int .i64 0,.int .i64 0,.string (⟨#[]⟩:ByteArray),.string (⟨#[]⟩:ByteArray),.string (⟨#[]⟩:ByteArray)] 57 (0,0)) (K_ aa)):az≠ai));have aH:=Z_ ((by rw[hg];exact Nat.ne_of_gt (blk_lt (g:=az) (o:= .cells #[.int .i64 0,.int .i64 0,.string (⟨#[]⟩:ByteArray),.string (⟨#[]⟩:ByteArray),.string (⟨#[]⟩:ByteArray)] 57 (0,0)) (K_ aa)):ai≠az));replace aa:=Z_ (blk_below (K_ aa) hb);clear hb hbox hg;refine hK.out _ _ ⟨fE,gD,gF,gG,gH,gI⟩ (fun hHeld=>?_);clear hK K;refine Nm_ 10 ?_;exact norm_ (by simp only[putAll,Act.put,List.setIfInBounds_toArray,List.set_cons_zero,List.set_cons_succ]) (hCont (ai) _ ⟨hHeld,(R_ HO_4),(K_ aa),(K_ aD),ig.out,ik.out,aI.out,aH.out,B_⟩)
                    ·skip
                     refine box_step ?hg (N:=10) ?hd (cs:= #[.int .i64 0,.int .i64 0]) (t:=23) ?hr ?_;(case hd=>rfl);(case hg=>rfl);(case hr=>first|(go_simp;done)|(go_simp;rfl));intro ai hg Jr hbox hb;have fE:=Hc_ hb hHeld.1;have gD:=Hc_ hb hHeld.2.1;have gF:=Hc_ hb hHeld.2.2.1;have gG:=Hc_ hb hHeld.2.2.2.1;have gH:=Hc_ hb hHeld.2.2.2.2.1;have gI:=Hc_ hb hHeld.2.2.2.2.2;replace HO_4:=Z_ (Kd.R_below (R_ HO_4) hb);have aD:=Z_ (hbox);have ig:=Z_ ((G2_ hg:w.heap.size≤_));have ik:=Z_ ((G2_ hg:w.heap.size≤_));replace HB:=Hb_ hb;have aI:=Z_ ((by rw[hg];exact Nat.ne_of_lt (blk_lt (g:=az) (o:= .cells #[.int .i64 0,.int .i64 0,.string (⟨#[]⟩:ByteArray),.string (⟨#[]⟩:ByteArray),.string (⟨#[]⟩:ByteArray)] 57 (0,0)) (K_ aa)):az≠ai));have aH:=Z_ ((by rw[hg];exact Nat.ne_of_gt (blk_lt (g:=az) (o:= .cells #[.int .i64 0,.int .i64 0,.string (⟨#[]⟩:ByteArray),.string (⟨#[]⟩:ByteArray),.string (⟨#[]⟩:ByteArray)] 57 (0,0)) (K_ aa)):ai≠az));replace aa:=Z_ (blk_below (K_ aa) hb);clear hb hbox hg;refine hK.out _ _ ⟨fE,gD,gF,gG,gH,gI⟩ (fun hHeld=>?_);clear hK K;refine Nm_ 10 ?_;refine O_ 13 67 fun K hK=>?_
                     refine g_ Tryz.func60 #[.string (a0.extract (((rd_T116 ah ag).f1):Int).toNat ((wrap64 (((rd_T116 ah ag).f1)+16)):Int).toNat)] ?_
                     with_reducible refine(wave_format.calls EZ (a0.extract (((rd_T116 ah ag).f1):Int).toNat ((wrap64 (((rd_T116 ah ag).f1)+16)):Int).toNat) bY bQ true _ Er.out).mono ?_
                     rintro e TS ⟨rfl,hb⟩;have fE:=Hc_ hb hHeld.1;have gD:=Hc_ hb hHeld.2.1;have gF:=Hc_ hb hHeld.2.2.1;have gG:=Hc_ hb hHeld.2.2.2.1;have gH:=Hc_ hb hHeld.2.2.2.2.1;have gI:=Hc_ hb hHeld.2.2.2.2.2;refine⟨_,rfl,?_⟩;replace HO_4:=Z_ (Kd.R_below (R_ HO_4) hb);replace aa:=Z_ (blk_below (K_ aa) hb);replace aD:=Z_ (blk_below (K_ aD) hb);replace HB:=Hb_ hb;(try clear hb);(try clear hb2);(try clear hk);(try clear hi);refine hK.out _ _ ⟨fE,gD,gF,gG,gH,gI⟩ (fun hHeld=>?_);clear hK K;refine Nm_ 67 ?_;refine P_ 14 53 ?_;refine P_ 15 68 ?_;refine P_ 16 69 ?_;exact norm_ (by simp only[putAll,Act.put,List.setIfInBounds_toArray,List.set_cons_zero,List.set_cons_succ]) (hCont (ai) _ ⟨hHeld,(R_ HO_4),(K_ aa),(K_ aD),ig.out,ik.out,aI.out,aH.out,B_⟩)
                   rintro ai vR ⟨hS_,tY,tZ,qM,uf,ug,BV,BX,BZ⟩;have bU:Aside0 (Kd.R k116 116 vR w.heap.size (fun _=>True) (.slice (some ak) ah.length Aw) ah):=⟨tY⟩;have bN:Aside0 (vR.heap[az]?=some (.cells #[.int .i64 0,.int .i64 0,.string (⟨#[]⟩:ByteArray),.string (⟨#[]⟩:ByteArray),.string (⟨#[]⟩:ByteArray)] 57 (0,0))):=⟨tZ⟩;have eX:Aside0 (vR.heap[ai]?=some (.cells #[.int .i64 0,.int .i64 0] 23 (0,0))):=⟨qM⟩;have j6:Aside0 (w.heap.size≤ai):=⟨uf⟩;have mD:Aside0 (w.heap.size≤ai):=⟨ug⟩;have uy:Aside0 (az≠ai):=⟨BV⟩;have yg:Aside0 (ai≠az):=⟨BX⟩;have Ca:Aside0 (Below w.heap.size w vR):=⟨BZ⟩;clear HO_4;clear aa;clear HB;clear tY tZ qM uf ug BV BX BZ;have HO_4:=bU;have aa:=bN;have aD:=eX;have ig:=j6;have ik:=mD;have aI:=uy;have aH:=yg;have HB:=Ca;clear bU bN eX j6 mD uy yg Ca;have hHeld:vR.cell? (ak.add ((ag).toNat*3))=some (.string ((rd_T116 ah ag).f0))∧vR.cell? ⟨(ak.add ((ag).toNat*3)).block,(ak.add ((ag).toNat*3)).off+1,none⟩=some (.int .i64 ((rd_T116 ah ag).f1))∧vR.cell? ⟨(ak.add ((ag).toNat*3)).block,(ak.add ((ag).toNat*3)).off+2,none⟩=some (.int .i64 ((rd_T116 ah ag).f2))∧vR.cell? (ak.add ((ag).toNat*3))=some (.string ((rd_T116 ah ag).f0))∧vR.cell? ⟨(ak.add ((ag).toNat*3)).block,(ak.add ((ag).toNat*3)).off+1,none⟩=some (.int .i64 ((rd_T116 ah ag).f1))∧vR.cell? ⟨(ak.add ((ag).toNat*3)).block,(ak.add ((ag).toNat*3)).off+2,none⟩=some (.int .i64 ((rd_T116 ah ag).f2)):=hS_;refine norm_ (a':=?_) ?_ ?_;rotate_left
                   ·simp only[putAll,Act.put,List.setIfInBounds_toArray,List.set_cons_zero,List.set_cons_succ];rfl
                   refine one_ (i:=18) (N:=none) #[true,true,true,true,true,true,true,true,true,true,true,true,true,true,true,true,true,true,true,false] rfl rfl (one_of HT_.out (by kernel_rfl)) (by decide) (fun K hK=>?_);have We:vR.cell? ⟨ai,0,none⟩=some (.int .i64 0):=(blk_cell aD.out 0).trans rfl;have TT:=blk_frozen aD.out 0;have K8:=aI.out;have K9:=aH.out;have Wh:vR.cell? ⟨ai,1,none⟩=some (.int .i64 0):=(blk_cell aD.out 1).trans rfl;have TU:=blk_frozen aD.out 1;have Lb:=aI.out;have Lc:=aH.out;refine skip_ (w1:=?_) (by rfl) rfl ?_ ?_;rotate_left
                   ·go_simp
                    rfl
                   refine hK.out _ _ ⟨((cell_far (p:=⟨ai,_,none⟩) (by exact Wb_ (Kd.own_blk (Kd.R_ne HO_4.out aD.out (by decide)))) _).trans (((cell_far (p:=⟨ai,_,none⟩) (by exact Wb_ (Kd.own_blk (Kd.R_ne HO_4.out aD.out (by decide)))) _).trans (hHeld.1)))),((cell_far (p:=⟨ai,_,none⟩) (by exact Wb_ (Kd.own_blk (Kd.R_ne HO_4.out aD.out (by decide)))) _).trans (((cell_far (p:=⟨ai,_,none⟩) (by exact Wb_ (Kd.own_blk (Kd.R_ne HO_4.out aD.out (by decide)))) _).trans (hHeld.2.1)))),((cell_far (p:=⟨ai,_,none⟩) (by exact Wb_ (Kd.own_blk (Kd.R_ne HO_4.out aD.out (by decide)))) _).trans (((cell_far (p:=⟨ai,_,none⟩) (by exact Wb_ (Kd.own_blk (Kd.R_ne HO_4.out aD.out (by decide)))) _).trans (hHeld.2.2.1)))),((cell_far (p:=⟨ai,_,none⟩) (by exact Wb_ (Kd.own_blk (Kd.R_ne HO_4.out aD.out (by decide)))) _).trans (((cell_far (p:=⟨ai,_,none⟩) (by exact Wb_ (Kd.own_blk (Kd.R_ne HO_4.out aD.out (by decide)))) _).trans (hHeld.2.2.2.1)))),((cell_far (p:=⟨ai,_,none⟩) (by exact Wb_ (Kd.own_blk (Kd.R_ne HO_4.out aD.out (by decide)))) _).trans (((cell_far (p:=⟨ai,_,none⟩) (by exact Wb_ (Kd.own_blk (Kd.R_ne HO_4.out aD.out (by decide)))) _).trans (hHeld.2.2.2.2.1)))),((cell_far (p:=⟨ai,_,none⟩) (by exact Wb_ (Kd.own_blk (Kd.R_ne HO_4.out aD.out (by decide)))) _).trans (((cell_far (p:=⟨ai,_,none⟩) (by exact Wb_ (Kd.own_blk (Kd.R_ne HO_4.out aD.out (by decide)))) _).trans (hHeld.2.2.2.2.2))))⟩ (fun hHeld=>?_);clear hK K;refine P_ 19 11 ?_;refine done_ (done_of HT_.out (by kernel_rfl)) ?_;have mO:0≤(aM:Int):=od_ A_;have mQ:aM<(ah.length:Int):=od_ A_;obtain⟨qx,e117,dL,dM,dN⟩:=at_T116 (Kd.R_reads' HO_4.out).2.2 aM mO mQ;obtain rfl:ak=qx:=(by injection e117);have dO:ak.block≠ai:=Kd.own_blk (Kd.R_ne HO_4.out aD.out (by decide));have dP:ak.block≠ai:=Kd.own_blk (Kd.R_ne HO_4.out aD.out (by decide));replace dL:=Cf_ ai 0 (.int .i64 bY) dL (Wb_ dO);replace dM:=Cf_ ai 0 (.int .i64 bY) dM (Wb_ dO);replace dN:=Cf_ ai 0 (.int .i64 bY) dN (Wb_ dO);replace dL:=Cf_ ai 1 (.int .i64 bQ) dL (Wb_ dP);replace dM:=Cf_ ai 1 (.int .i64 bQ) dM (Wb_ dP);replace dN:=Cf_ ai 1 (.int .i64 bQ) dN (Wb_ dP);clear dO;clear dP;replace mO:=eq_true mO;replace mQ:=eq_true mQ;have mR:0≤(aM:Int):=od_ A_;have mU:aM<(ah.length:Int):=od_ A_;obtain⟨qy,e118,dQ,dR,dS⟩:=at_T116 (Kd.R_reads' HO_4.out).2.2 aM mR mU;obtain rfl:ak=qy:=(by injection e118);have dU:ak.block≠ai:=Kd.own_blk (Kd.R_ne HO_4.out aD.out (by decide));have dV:ak.block≠ai:=Kd.own_blk (Kd.R_ne HO_4.out aD.out (by decide));replace dQ:=Cf_ ai 0 (.int .i64 bY) dQ (Wb_ dU);replace dR:=Cf_ ai 0 (.int .i64 bY) dR (Wb_ dU);replace dS:=Cf_ ai 0 (.int .i64 bY) dS (Wb_ dU);replace dQ:=Cf_ ai 1 (.int .i64 bQ) dQ (Wb_ dV);replace dR:=Cf_ ai 1 (.int .i64 bQ) dR (Wb_ dV);replace dS:=Cf_ ai 1 (.int .i64 bQ) dS (Wb_ dV);clear dU;clear dV;replace mR:=eq_true mR;replace mU:=eq_true mU;have TV:=aH.out;have TW:=aI.out;have Ld:=cz_ aD 0;have Lg:=cz_ aD 1;have Lh:=fz_ aD 0;have Li:=fz_ aD 1
                   try go_wp2_with (first|(go_at_call 61;refine(pcm_Frames.calls (a0.extract (((rd_T116 ah aM).f1):Int).toNat ((wrap64 (((rd_T116 ah aM).f1)+((rd_T116 ah aM).f2))):Int).toNat) bY bQ true _ Rv.out).mono ?_;rintro e TP ⟨rfl,hb⟩;replace HO_4:=Z_ (Kd.R_below (by(with_reducible repeat (first|apply Kd.R_alloc|apply Kd.R_drewN|apply Kd.R_drew));exact(Kd.R_mono (Kd.R_far (p:=⟨ai,1,none⟩) (Kd.R_far (p:=⟨ai,0,none⟩) (Kd.R_types HO_4.out aD.out (by decide)) (fun _ hk=>hk.2) (.int .i64 bY)) (fun _ hk=>hk.2) (.int .i64 bQ)) (fun _ h_=>h_.1))) hb);replace aa:=Z_ (blk_below (g:=az) (o:= .cells #[.int .i64 0,.int .i64 0,.string (⟨#[]⟩:ByteArray),.string (⟨#[]⟩:ByteArray),.string (⟨#[]⟩:ByteArray)] 57 (0,0)) (by(with_reducible repeat (first|refine blk_drewN ?_ _|refine blk_drew ?_|refine blk_alloc ?_ _));refine blk_far ?_ aI.out _;(with_reducible repeat (first|refine blk_drewN ?_ _|refine blk_drew ?_|refine blk_alloc ?_ _));refine blk_far ?_ aI.out _;(with_reducible repeat (first|refine blk_drewN ?_ _|refine blk_drew ?_|refine blk_alloc ?_ _));exact aa.out) hb);replace aD:=Z_ (blk_below (g:=ai) (o:= .cells #[.int .i64 bY,.int .i64 bQ] 23 (0,0)) (by(with_reducible repeat (first|refine blk_drewN ?_ _|refine blk_drew ?_|refine blk_alloc ?_ _));refine blk_put (cs:= #[.int .i64 bY,.int .i64 0]) ?_ 1 _ rfl;(with_reducible repeat (first|refine blk_drewN ?_ _|refine blk_drew ?_|refine blk_alloc ?_ _));refine blk_put (cs:= #[.int .i64 0,.int .i64 0]) ?_ 0 _ rfl;(with_reducible repeat (first|refine blk_drewN ?_ _|refine blk_drew ?_|refine blk_alloc ?_ _));exact aD.out) hb);replace HB:=Hb_ hb;(try clear hb)))
                   obtain⟨D8,TY⟩:∃D:ByteArray,(a0.extract (((rd_T116 ah aM).f1):Int).toNat ((wrap64 (((rd_T116 ah aM).f1)+((rd_T116 ah aM).f2))):Int).toNat)=D:=⟨_,rfl⟩;rw[TY] at mM hji35w ⊢;replace HO_4:=Z_ (Kd.R_drew HO_4.out);replace aa:=Z_ (blk_drew aa.out);replace aD:=Z_ (blk_drew aD.out);replace HB:=Z_ (below_drew1 HB.out);refine start_ (n:=14) (S:=fun w'=>w'.cell? ⟨ai,0,none⟩=some (.int .i64 bY)∧w'.cell? ⟨ai,1,none⟩=some (.int .i64 bQ)) (ds:= []) #[false,false,false,false,false,false,false,false,false,false,false,false,false,false] (by kernel_rfl) rfl rfl ⟨(blk_cell aD.out 0).trans rfl,(blk_cell aD.out 1).trans rfl⟩ (fun hHeld=>?_);refine with_tabW wave_Parse.tab11 wave_Parse.bits11 (fun HT_ HW_=>?_);generalize TP.drew=IU at HO_4 aa aD HB hHeld ⊢;refine P_ 1 95 ?_;refine P_ 2 96 ?_;refine P_ 3 97 ?_;refine P_ 4 98 ?_;refine P_ 5 99 ?_;refine P_ 6 100 ?_;refine P_ 7 101 ?_;refine P_ 8 102 ?_;refine P_ 9 103 ?_;refine P_ 10 104 ?_;refine T_ 0 94 (y:=by rintro w' ⟨s0,s1⟩;go_simp;with_reducible rfl) (h:=?_);refine P_ 11 105 ?_;refine one_ (i:=12) (N:=none) #[true,true,true,true,true,true,true,true,true,true,true,true,true,false] rfl rfl (one_of HT_.out (by kernel_rfl)) (by decide) (fun K hK=>?_);have Wi:IU.cell? ⟨az,0,none⟩=some (.int .i64 0):=(blk_cell aa.out 0).trans rfl;have TZ:=blk_frozen aa.out 0;have Lj:=aH.out;have Ll:=aI.out;have Wj:IU.cell? ⟨az,1,none⟩=some (.int .i64 0):=(blk_cell aa.out 1).trans rfl;have Ua:=blk_frozen aa.out 1;have Ls:=aH.out;have Lt:=aI.out;have Wl:IU.cell? ⟨az,2,none⟩=some (.string (⟨#[]⟩:ByteArray)):=(blk_cell aa.out 2).trans rfl;have Ub:=blk_frozen aa.out 2;have Lu:=aH.out;have Lv:=aI.out;have Wm:IU.cell? ⟨az,3,none⟩=some (.string (⟨#[]⟩:ByteArray)):=(blk_cell aa.out 3).trans rfl;have Uc:=blk_frozen aa.out 3;have Lx:=aH.out;have LA:=aI.out;have Wn:IU.cell? ⟨az,4,none⟩=some (.string (⟨#[]⟩:ByteArray)):=(blk_cell aa.out 4).trans rfl;have Ud:=blk_frozen aa.out 4;have LB:=aH.out;have LC:=aI.out;refine skip_ (w1:=?_) (by rfl) rfl ?_ ?_;rotate_left
                   ·go_simp
                    rfl
                   refine hK.out _ _ ⟨((cell_far (p:=⟨az,_,none⟩) aH.out _).trans (((cell_far (p:=⟨az,_,none⟩) aH.out _).trans (((cell_far (p:=⟨az,_,none⟩) aH.out _).trans (((cell_far (p:=⟨az,_,none⟩) aH.out _).trans (((cell_far (p:=⟨az,_,none⟩) aH.out _).trans (hHeld.1)))))))))),((cell_far (p:=⟨az,_,none⟩) aH.out _).trans (((cell_far (p:=⟨az,_,none⟩) aH.out _).trans (((cell_far (p:=⟨az,_,none⟩) aH.out _).trans (((cell_far (p:=⟨az,_,none⟩) aH.out _).trans (((cell_far (p:=⟨az,_,none⟩) aH.out _).trans (hHeld.2))))))))))⟩ (fun hHeld=>?_);clear hK K;refine P_ 13 3 ?_;refine done_ (done_of HT_.out (by kernel_rfl)) ?_
                   try go_wp2
                   refine bodyPost_ret (results_ct rfl _ _ az 57 #[.int .i64 bY,.int .i64 bQ,.string (a0.extract 0 (((rd_T116 ah aM).f1):Int).toNat),.string D8,.string (a0.extract ((AC):Int).toNat a0.size)] (0,0) _ rfl (by(with_reducible repeat (first|refine blk_drewN ?_ _|refine blk_drew ?_|refine blk_alloc ?_ _));refine blk_put (cs:= #[.int .i64 bY,.int .i64 bQ,.string (a0.extract 0 (((rd_T116 ah aM).f1):Int).toNat),.string D8,.string (⟨#[]⟩:ByteArray)]) ?_ 4 _ rfl;(with_reducible repeat (first|refine blk_drewN ?_ _|refine blk_drew ?_|refine blk_alloc ?_ _));refine blk_put (cs:= #[.int .i64 bY,.int .i64 bQ,.string (a0.extract 0 (((rd_T116 ah aM).f1):Int).toNat),.string (⟨#[]⟩:ByteArray),.string (⟨#[]⟩:ByteArray)]) ?_ 3 _ rfl;(with_reducible repeat (first|refine blk_drewN ?_ _|refine blk_drew ?_|refine blk_alloc ?_ _));refine blk_put (cs:= #[.int .i64 bY,.int .i64 bQ,.string (⟨#[]⟩:ByteArray),.string (⟨#[]⟩:ByteArray),.string (⟨#[]⟩:ByteArray)]) ?_ 2 _ rfl;(with_reducible repeat (first|refine blk_drewN ?_ _|refine blk_drew ?_|refine blk_alloc ?_ _));refine blk_put (cs:= #[.int .i64 bY,.int .i64 0,.string (⟨#[]⟩:ByteArray),.string (⟨#[]⟩:ByteArray),.string (⟨#[]⟩:ByteArray)]) ?_ 1 _ rfl;(with_reducible repeat (first|refine blk_drewN ?_ _|refine blk_drew ?_|refine blk_alloc ?_ _));refine blk_put (cs:= #[.int .i64 0,.int .i64 0,.string (⟨#[]⟩:ByteArray),.string (⟨#[]⟩:ByteArray),.string (⟨#[]⟩:ByteArray)]) ?_ 0 _ rfl;(with_reducible repeat (first|refine blk_drewN ?_ _|refine blk_drew ?_|refine blk_alloc ?_ _));exact aa.out) Tryz.underlying57 rfl (by kernel_rfl)) rfl ?_;exact⟨by first|(rw[TY];rfl)|rfl|(simp[errW_none,errW_some]<;>rfl)|(simp only[←mM];first|rfl|(simp[errW_none,errW_some]<;>rfl))|(simp[*,errW_none,errW_some]<;>rfl),B_⟩
                  ·rw[if_neg c37] at H;exact absurd H (by simp)
                 ·rw[if_neg qL] at H;exact absurd H (by simp)
                ·rw[if_neg c34] at H;exact absurd H (by simp)
               ·replace c32:=Bool.eq_false_iff.mpr c32;subst c32;rw[if_neg (show ¬(false=true) by decide)] at H;simp only[Option.some.injEq,Prod.mk.injEq] at H;obtain⟨rfl,rfl,rfl,rfl,rfl,rfl⟩:=H
                try go_wp2
                replace HO_4:=Z_ (Kd.R_drew HO_4.out);replace aa:=Z_ (blk_drew aa.out);replace HB:=Z_ (below_drew1 HB.out);have gJ:0≤(ag:Int):=od_ A_;have gK:ag<(ah.length:Int):=od_ A_;obtain⟨ak,nP,bR,gY,gZ⟩:=at_T116 (Kd.R_reads' HO_4.out).2.2 ag gJ gK
                cases nP
                replace gJ:=eq_true gJ;replace gK:=eq_true gK;have gq:0≤(ag:Int):=od_ A_;have gu:ag<(ah.length:Int):=od_ A_;obtain⟨jh,mG,dh,ib,ic⟩:=at_T116 (Kd.R_reads' HO_4.out).2.2 ag gq gu;obtain rfl:ak=jh:=(by injection mG);replace gq:=eq_true gq;replace gu:=eq_true gu;refine start_ (n:=20) (S:=fun w'=>w'.cell? (ak.add ((ag).toNat*3))=some (.string ((rd_T116 ah ag).f0))∧w'.cell? ⟨(ak.add ((ag).toNat*3)).block,(ak.add ((ag).toNat*3)).off+1,none⟩=some (.int .i64 ((rd_T116 ah ag).f1))∧w'.cell? ⟨(ak.add ((ag).toNat*3)).block,(ak.add ((ag).toNat*3)).off+2,none⟩=some (.int .i64 ((rd_T116 ah ag).f2))∧w'.cell? (ak.add ((ag).toNat*3))=some (.string ((rd_T116 ah ag).f0))∧w'.cell? ⟨(ak.add ((ag).toNat*3)).block,(ak.add ((ag).toNat*3)).off+1,none⟩=some (.int .i64 ((rd_T116 ah ag).f1))∧w'.cell? ⟨(ak.add ((ag).toNat*3)).block,(ak.add ((ag).toNat*3)).off+2,none⟩=some (.int .i64 ((rd_T116 ah ag).f2))) (ds:= []) #[false,false,false,false,false,false,false,false,false,false,false,false,false,false,false,false,false,false,false,false] (by kernel_rfl) rfl rfl ⟨bR,gY,gZ,dh,ib,ic⟩ (fun hHeld=>?_);refine with_tabW wave_Parse.tab6 wave_Parse.bits6 (fun HT_ HW_=>?_);generalize wc.drew=Xr at HO_4 aa HB bR gY gZ dh ib ic hHeld ⊢;refine P_ 0 54 ?_;refine P_ 1 55 ?_;refine P_ 2 56 ?_;refine P_ 3 57 ?_;refine P_ 4 58 ?_;refine P_ 6 60 ?_;refine P_ 7 61 ?_;refine P_ 8 62 ?_;refine P_ 9 63 ?_;refine T_ 5 59 (y:=by rintro w' ⟨s0,s1,s2,s3,s4,s5⟩;go_simp;with_reducible rfl) (h:=?_);refine T_ 10 64 (y:=by rintro w' ⟨s0,s1,s2,s3,s4,s5⟩;go_simp;with_reducible rfl) (h:=?_);refine P_ 11 65 ?_;refine P_ 12 66 ?_;refine join_ (σ:=Nat) 2 #[true,true,true,true,true,true,true,true,true,true,true,true,true,true,true,true,true,true,false,false] (fun s_=> [(67,.tuple #[.agg #[.int .i64 bY,.int .i64 bQ],.bool true]),(10,.pointer (some ⟨s_,0,none⟩)),(53,.tuple #[.agg #[.int .i64 bY,.int .i64 bQ],.bool true]),(68,.agg #[.int .i64 bY,.int .i64 bQ]),(69,.bool true)]) (fun s_ w'=>(w'.cell? (ak.add ((ag).toNat*3))=some (.string ((rd_T116 ah ag).f0))∧w'.cell? ⟨(ak.add ((ag).toNat*3)).block,(ak.add ((ag).toNat*3)).off+1,none⟩=some (.int .i64 ((rd_T116 ah ag).f1))∧w'.cell? ⟨(ak.add ((ag).toNat*3)).block,(ak.add ((ag).toNat*3)).off+2,none⟩=some (.int .i64 ((rd_T116 ah ag).f2))∧w'.cell? (ak.add ((ag).toNat*3))=some (.string ((rd_T116 ah ag).f0))∧w'.cell? ⟨(ak.add ((ag).toNat*3)).block,(ak.add ((ag).toNat*3)).off+1,none⟩=some (.int .i64 ((rd_T116 ah ag).f1))∧w'.cell? ⟨(ak.add ((ag).toNat*3)).block,(ak.add ((ag).toNat*3)).off+2,none⟩=some (.int .i64 ((rd_T116 ah ag).f2)))∧(Kd.R k116 116 w' w.heap.size (fun _=>True) (.slice (some ak) ah.length Aw) ah)∧(w'.heap[az]?=some (.cells #[.int .i64 0,.int .i64 0,.string (⟨#[]⟩:ByteArray),.string (⟨#[]⟩:ByteArray),.string (⟨#[]⟩:ByteArray)] 57 (0,0)))∧(w'.heap[s_]?=some (.cells #[.int .i64 0,.int .i64 0] 23 (0,0)))∧(w.heap.size≤s_)∧(w.heap.size≤s_)∧(az≠s_)∧(s_≠az)∧(Below w.heap.size w w')) ?_ ?_;rotate_left
                ·intro hCont;refine two_ (i:=13) (j:=17) (Ni:=some 67) (Nj:=some 10) #[true,true,true,true,true,true,true,true,true,true,true,true,true,true,false,false,false,false,false,false] #[true,true,true,true,true,true,true,true,true,true,true,true,true,false,false,false,false,true,false,false] rfl rfl rfl rfl (two_of HT_.out (by kernel_rfl)) (by decide) (by decide) (fun K hK=>?_) (fun K hK=>?_)
                 ·skip
                  refine g_ Tryz.func60 #[.string (a0.extract (((rd_T116 ah ag).f1):Int).toNat ((wrap64 (((rd_T116 ah ag).f1)+16)):Int).toNat)] ?_
                  with_reducible refine(wave_format.calls EZ (a0.extract (((rd_T116 ah ag).f1):Int).toNat ((wrap64 (((rd_T116 ah ag).f1)+16)):Int).toNat) bY bQ true _ Er.out).mono ?_
                  rintro e Wo ⟨rfl,hb⟩;have fE:=Hc_ hb hHeld.1;have gD:=Hc_ hb hHeld.2.1;have gF:=Hc_ hb hHeld.2.2.1;have gG:=Hc_ hb hHeld.2.2.2.1;have gH:=Hc_ hb hHeld.2.2.2.2.1;have gI:=Hc_ hb hHeld.2.2.2.2.2;refine⟨_,rfl,?_⟩;replace HO_4:=Z_ (Kd.R_below (R_ HO_4) hb);replace aa:=Z_ (blk_below (K_ aa) hb);replace HB:=Hb_ hb;(try clear hb);(try clear hb2);(try clear hk);(try clear hi);refine hK.out _ _ ⟨fE,gD,gF,gG,gH,gI⟩ (fun hHeld=>?_);clear hK K;refine Nm_ 67 ?_;refine P_ 14 53 ?_;refine P_ 15 68 ?_;refine P_ 16 69 ?_;refine O_ 17 10 fun K hK=>?_
                  refine box_step ?hg (N:=10) ?hd (cs:= #[.int .i64 0,.int .i64 0]) (t:=23) ?hr ?_;(case hd=>rfl);(case hg=>rfl);(case hr=>first|(go_simp;done)|(go_simp;rfl));intro ai hg Wp hbox hb;have fE:=Hc_ hb hHeld.1;have gD:=Hc_ hb hHeld.2.1;have gF:=Hc_ hb hHeld.2.2.1;have gG:=Hc_ hb hHeld.2.2.2.1;have gH:=Hc_ hb hHeld.2.2.2.2.1;have gI:=Hc_ hb hHeld.2.2.2.2.2;replace HO_4:=Z_ (Kd.R_below (R_ HO_4) hb);have aD:=Z_ (hbox);have ig:=Z_ ((G2_ hg:w.heap.size≤_));have ik:=Z_ ((G2_ hg:w.heap.size≤_));replace HB:=Hb_ hb;have aI:=Z_ ((by rw[hg];exact Nat.ne_of_lt (blk_lt (g:=az) (o:= .cells #[.int .i64 0,.int .i64 0,.string (⟨#[]⟩:ByteArray),.string (⟨#[]⟩:ByteArray),.string (⟨#[]⟩:ByteArray)] 57 (0,0)) (K_ aa)):az≠ai));have aH:=Z_ ((by rw[hg];exact Nat.ne_of_gt (blk_lt (g:=az) (o:= .cells #[.int .i64 0,.int .i64 0,.string (⟨#[]⟩:ByteArray),.string (⟨#[]⟩:ByteArray),.string (⟨#[]⟩:ByteArray)] 57 (0,0)) (K_ aa)):ai≠az));replace aa:=Z_ (blk_below (K_ aa) hb);clear hb hbox hg;refine hK.out _ _ ⟨fE,gD,gF,gG,gH,gI⟩ (fun hHeld=>?_);clear hK K;refine Nm_ 10 ?_;exact norm_ (by simp only[putAll,Act.put,List.setIfInBounds_toArray,List.set_cons_zero,List.set_cons_succ]) (hCont (ai) _ ⟨hHeld,(R_ HO_4),(K_ aa),(K_ aD),ig.out,ik.out,aI.out,aH.out,B_⟩)
                 ·skip
                  refine box_step ?hg (N:=10) ?hd (cs:= #[.int .i64 0,.int .i64 0]) (t:=23) ?hr ?_;(case hd=>rfl);(case hg=>rfl);(case hr=>first|(go_simp;done)|(go_simp;rfl));intro ai hg Wo hbox hb;have fE:=Hc_ hb hHeld.1;have gD:=Hc_ hb hHeld.2.1;have gF:=Hc_ hb hHeld.2.2.1;have gG:=Hc_ hb hHeld.2.2.2.1;have gH:=Hc_ hb hHeld.2.2.2.2.1;have gI:=Hc_ hb hHeld.2.2.2.2.2;replace HO_4:=Z_ (Kd.R_below (R_ HO_4) hb);have aD:=Z_ (hbox);have ig:=Z_ ((G2_ hg:w.heap.size≤_));have ik:=Z_ ((G2_ hg:w.heap.size≤_));replace HB:=Hb_ hb;have aI:=Z_ ((by rw[hg];exact Nat.ne_of_lt (blk_lt (g:=az) (o:= .cells #[.int .i64 0,.int .i64 0,.string (⟨#[]⟩:ByteArray),.string (⟨#[]⟩:ByteArray),.string (⟨#[]⟩:ByteArray)] 57 (0,0)) (K_ aa)):az≠ai));have aH:=Z_ ((by rw[hg];exact Nat.ne_of_gt (blk_lt (g:=az) (o:= .cells #[.int .i64 0,.int .i64 0,.string (⟨#[]⟩:ByteArray),.string (⟨#[]⟩:ByteArray),.string (⟨#[]⟩:ByteArray)] 57 (0,0)) (K_ aa)):ai≠az));replace aa:=Z_ (blk_below (K_ aa) hb);clear hb hbox hg;refine hK.out _ _ ⟨fE,gD,gF,gG,gH,gI⟩ (fun hHeld=>?_);clear hK K;refine Nm_ 10 ?_;refine O_ 13 67 fun K hK=>?_
                  refine g_ Tryz.func60 #[.string (a0.extract (((rd_T116 ah ag).f1):Int).toNat ((wrap64 (((rd_T116 ah ag).f1)+16)):Int).toNat)] ?_
                  with_reducible refine(wave_format.calls EZ (a0.extract (((rd_T116 ah ag).f1):Int).toNat ((wrap64 (((rd_T116 ah ag).f1)+16)):Int).toNat) bY bQ true _ Er.out).mono ?_
                  rintro e Wp ⟨rfl,hb⟩;have fE:=Hc_ hb hHeld.1;have gD:=Hc_ hb hHeld.2.1;have gF:=Hc_ hb hHeld.2.2.1;have gG:=Hc_ hb hHeld.2.2.2.1;have gH:=Hc_ hb hHeld.2.2.2.2.1;have gI:=Hc_ hb hHeld.2.2.2.2.2;refine⟨_,rfl,?_⟩;replace HO_4:=Z_ (Kd.R_below (R_ HO_4) hb);replace aa:=Z_ (blk_below (K_ aa) hb);replace aD:=Z_ (blk_below (K_ aD) hb);replace HB:=Hb_ hb;(try clear hb);(try clear hb2);(try clear hk);(try clear hi);refine hK.out _ _ ⟨fE,gD,gF,gG,gH,gI⟩ (fun hHeld=>?_);clear hK K;refine Nm_ 67 ?_;refine P_ 14 53 ?_;refine P_ 15 68 ?_;refine P_ 16 69 ?_;exact norm_ (by simp only[putAll,Act.put,List.setIfInBounds_toArray,List.set_cons_zero,List.set_cons_succ]) (hCont (ai) _ ⟨hHeld,(R_ HO_4),(K_ aa),(K_ aD),ig.out,ik.out,aI.out,aH.out,B_⟩)
                rintro ai vY ⟨hS_,tY,tZ,qM,uf,ug,BV,BX,BZ⟩;have bU:Aside0 (Kd.R k116 116 vY w.heap.size (fun _=>True) (.slice (some ak) ah.length Aw) ah):=⟨tY⟩;have bN:Aside0 (vY.heap[az]?=some (.cells #[.int .i64 0,.int .i64 0,.string (⟨#[]⟩:ByteArray),.string (⟨#[]⟩:ByteArray),.string (⟨#[]⟩:ByteArray)] 57 (0,0))):=⟨tZ⟩;have eX:Aside0 (vY.heap[ai]?=some (.cells #[.int .i64 0,.int .i64 0] 23 (0,0))):=⟨qM⟩;have j6:Aside0 (w.heap.size≤ai):=⟨uf⟩;have mD:Aside0 (w.heap.size≤ai):=⟨ug⟩;have uy:Aside0 (az≠ai):=⟨BV⟩;have yg:Aside0 (ai≠az):=⟨BX⟩;have Ca:Aside0 (Below w.heap.size w vY):=⟨BZ⟩;clear HO_4;clear aa;clear HB;clear tY tZ qM uf ug BV BX BZ;have HO_4:=bU;have aa:=bN;have aD:=eX;have ig:=j6;have ik:=mD;have aI:=uy;have aH:=yg;have HB:=Ca;clear bU bN eX j6 mD uy yg Ca;have hHeld:vY.cell? (ak.add ((ag).toNat*3))=some (.string ((rd_T116 ah ag).f0))∧vY.cell? ⟨(ak.add ((ag).toNat*3)).block,(ak.add ((ag).toNat*3)).off+1,none⟩=some (.int .i64 ((rd_T116 ah ag).f1))∧vY.cell? ⟨(ak.add ((ag).toNat*3)).block,(ak.add ((ag).toNat*3)).off+2,none⟩=some (.int .i64 ((rd_T116 ah ag).f2))∧vY.cell? (ak.add ((ag).toNat*3))=some (.string ((rd_T116 ah ag).f0))∧vY.cell? ⟨(ak.add ((ag).toNat*3)).block,(ak.add ((ag).toNat*3)).off+1,none⟩=some (.int .i64 ((rd_T116 ah ag).f1))∧vY.cell? ⟨(ak.add ((ag).toNat*3)).block,(ak.add ((ag).toNat*3)).off+2,none⟩=some (.int .i64 ((rd_T116 ah ag).f2)):=hS_;refine norm_ (a':=?_) ?_ ?_;rotate_left
                ·simp only[putAll,Act.put,List.setIfInBounds_toArray,List.set_cons_zero,List.set_cons_succ];rfl
                refine one_ (i:=18) (N:=none) #[true,true,true,true,true,true,true,true,true,true,true,true,true,true,true,true,true,true,true,false] rfl rfl (one_of HT_.out (by kernel_rfl)) (by decide) (fun K hK=>?_);have Wq:vY.cell? ⟨ai,0,none⟩=some (.int .i64 0):=(blk_cell aD.out 0).trans rfl;have Ue:=blk_frozen aD.out 0;have LH:=aI.out;have LJ:=aH.out;have Ws:vY.cell? ⟨ai,1,none⟩=some (.int .i64 0):=(blk_cell aD.out 1).trans rfl;have Uf:=blk_frozen aD.out 1;have LK:=aI.out;have LP:=aH.out;refine skip_ (w1:=?_) (by rfl) rfl ?_ ?_;rotate_left
                ·go_simp
                 rfl
                refine hK.out _ _ ⟨((cell_far (p:=⟨ai,_,none⟩) (by exact Wb_ (Kd.own_blk (Kd.R_ne HO_4.out aD.out (by decide)))) _).trans (((cell_far (p:=⟨ai,_,none⟩) (by exact Wb_ (Kd.own_blk (Kd.R_ne HO_4.out aD.out (by decide)))) _).trans (hHeld.1)))),((cell_far (p:=⟨ai,_,none⟩) (by exact Wb_ (Kd.own_blk (Kd.R_ne HO_4.out aD.out (by decide)))) _).trans (((cell_far (p:=⟨ai,_,none⟩) (by exact Wb_ (Kd.own_blk (Kd.R_ne HO_4.out aD.out (by decide)))) _).trans (hHeld.2.1)))),((cell_far (p:=⟨ai,_,none⟩) (by exact Wb_ (Kd.own_blk (Kd.R_ne HO_4.out aD.out (by decide)))) _).trans (((cell_far (p:=⟨ai,_,none⟩) (by exact Wb_ (Kd.own_blk (Kd.R_ne HO_4.out aD.out (by decide)))) _).trans (hHeld.2.2.1)))),((cell_far (p:=⟨ai,_,none⟩) (by exact Wb_ (Kd.own_blk (Kd.R_ne HO_4.out aD.out (by decide)))) _).trans (((cell_far (p:=⟨ai,_,none⟩) (by exact Wb_ (Kd.own_blk (Kd.R_ne HO_4.out aD.out (by decide)))) _).trans (hHeld.2.2.2.1)))),((cell_far (p:=⟨ai,_,none⟩) (by exact Wb_ (Kd.own_blk (Kd.R_ne HO_4.out aD.out (by decide)))) _).trans (((cell_far (p:=⟨ai,_,none⟩) (by exact Wb_ (Kd.own_blk (Kd.R_ne HO_4.out aD.out (by decide)))) _).trans (hHeld.2.2.2.2.1)))),((cell_far (p:=⟨ai,_,none⟩) (by exact Wb_ (Kd.own_blk (Kd.R_ne HO_4.out aD.out (by decide)))) _).trans (((cell_far (p:=⟨ai,_,none⟩) (by exact Wb_ (Kd.own_blk (Kd.R_ne HO_4.out aD.out (by decide)))) _).trans (hHeld.2.2.2.2.2))))⟩ (fun hHeld=>?_);clear hK K;refine P_ 19 11 ?_;refine done_ (done_of HT_.out (by kernel_rfl)) ?_;have mO:0≤(aM:Int):=od_ A_;have mQ:aM<(ah.length:Int):=od_ A_;obtain⟨qx,e117,dL,dM,dN⟩:=at_T116 (Kd.R_reads' HO_4.out).2.2 aM mO mQ;obtain rfl:ak=qx:=(by injection e117);have dO:ak.block≠ai:=Kd.own_blk (Kd.R_ne HO_4.out aD.out (by decide));have dP:ak.block≠ai:=Kd.own_blk (Kd.R_ne HO_4.out aD.out (by decide));replace dL:=Cf_ ai 0 (.int .i64 bY) dL (Wb_ dO);replace dM:=Cf_ ai 0 (.int .i64 bY) dM (Wb_ dO);replace dN:=Cf_ ai 0 (.int .i64 bY) dN (Wb_ dO);replace dL:=Cf_ ai 1 (.int .i64 bQ) dL (Wb_ dP);replace dM:=Cf_ ai 1 (.int .i64 bQ) dM (Wb_ dP);replace dN:=Cf_ ai 1 (.int .i64 bQ) dN (Wb_ dP);clear dO;clear dP;replace mO:=eq_true mO;replace mQ:=eq_true mQ;have mR:0≤(aM:Int):=od_ A_;have mU:aM<(ah.length:Int):=od_ A_;obtain⟨qy,e118,dQ,dR,dS⟩:=at_T116 (Kd.R_reads' HO_4.out).2.2 aM mR mU;obtain rfl:ak=qy:=(by injection e118);have dU:ak.block≠ai:=Kd.own_blk (Kd.R_ne HO_4.out aD.out (by decide));have dV:ak.block≠ai:=Kd.own_blk (Kd.R_ne HO_4.out aD.out (by decide));replace dQ:=Cf_ ai 0 (.int .i64 bY) dQ (Wb_ dU);replace dR:=Cf_ ai 0 (.int .i64 bY) dR (Wb_ dU);replace dS:=Cf_ ai 0 (.int .i64 bY) dS (Wb_ dU);replace dQ:=Cf_ ai 1 (.int .i64 bQ) dQ (Wb_ dV);replace dR:=Cf_ ai 1 (.int .i64 bQ) dR (Wb_ dV);replace dS:=Cf_ ai 1 (.int .i64 bQ) dS (Wb_ dV);clear dU;clear dV;replace mR:=eq_true mR;replace mU:=eq_true mU;have Ug:=aH.out;have Uh:=aI.out;have LQ:=cz_ aD 0;have LU:=cz_ aD 1;have LV:=fz_ aD 0;have LX:=fz_ aD 1
                try go_wp2_with (first|(go_at_call 61;refine(pcm_Frames.calls (a0.extract (((rd_T116 ah aM).f1):Int).toNat ((wrap64 (((rd_T116 ah aM).f1)+((rd_T116 ah aM).f2))):Int).toNat) bY bQ false _ Rv.out).mono ?_;rintro e Xt ⟨rfl,hb⟩;replace HO_4:=Z_ (Kd.R_below (by(with_reducible repeat (first|apply Kd.R_alloc|apply Kd.R_drewN|apply Kd.R_drew));exact(Kd.R_mono (Kd.R_far (p:=⟨ai,1,none⟩) (Kd.R_far (p:=⟨ai,0,none⟩) (Kd.R_types HO_4.out aD.out (by decide)) (fun _ hk=>hk.2) (.int .i64 bY)) (fun _ hk=>hk.2) (.int .i64 bQ)) (fun _ h_=>h_.1))) hb);replace aa:=Z_ (blk_below (g:=az) (o:= .cells #[.int .i64 0,.int .i64 0,.string (⟨#[]⟩:ByteArray),.string (⟨#[]⟩:ByteArray),.string (⟨#[]⟩:ByteArray)] 57 (0,0)) (by(with_reducible repeat (first|refine blk_drewN ?_ _|refine blk_drew ?_|refine blk_alloc ?_ _));refine blk_far ?_ aI.out _;(with_reducible repeat (first|refine blk_drewN ?_ _|refine blk_drew ?_|refine blk_alloc ?_ _));refine blk_far ?_ aI.out _;(with_reducible repeat (first|refine blk_drewN ?_ _|refine blk_drew ?_|refine blk_alloc ?_ _));exact aa.out) hb);replace aD:=Z_ (blk_below (g:=ai) (o:= .cells #[.int .i64 bY,.int .i64 bQ] 23 (0,0)) (by(with_reducible repeat (first|refine blk_drewN ?_ _|refine blk_drew ?_|refine blk_alloc ?_ _));refine blk_put (cs:= #[.int .i64 bY,.int .i64 0]) ?_ 1 _ rfl;(with_reducible repeat (first|refine blk_drewN ?_ _|refine blk_drew ?_|refine blk_alloc ?_ _));refine blk_put (cs:= #[.int .i64 0,.int .i64 0]) ?_ 0 _ rfl;(with_reducible repeat (first|refine blk_drewN ?_ _|refine blk_drew ?_|refine blk_alloc ?_ _));exact aD.out) hb);replace HB:=Hb_ hb;(try clear hb);have LY:=cz_ aa 0;have LZ:=cz_ aa 1;have L6:=cz_ aa 2;have L8:=cz_ aa 3;have L9:=cz_ aa 4;have Ma:=fz_ aa 0;have Mc:=fz_ aa 1;have Md:=fz_ aa 2;have Me:=fz_ aa 3;have Mf:=fz_ aa 4))
                refine bodyPost_ret (results_ct rfl _ _ az 57 #[.int .i64 0,.int .i64 0,.string (⟨#[]⟩:ByteArray),.string (⟨#[]⟩:ByteArray),.string (⟨#[]⟩:ByteArray)] (0,0) _ rfl (by(with_reducible repeat (first|refine blk_drewN ?_ _|refine blk_drew ?_|refine blk_alloc ?_ _));refine blk_put (cs:= #[.int .i64 0,.int .i64 0,.string (⟨#[]⟩:ByteArray),.string (⟨#[]⟩:ByteArray),.string (⟨#[]⟩:ByteArray)]) ?_ 4 _ rfl;(with_reducible repeat (first|refine blk_drewN ?_ _|refine blk_drew ?_|refine blk_alloc ?_ _));refine blk_put (cs:= #[.int .i64 0,.int .i64 0,.string (⟨#[]⟩:ByteArray),.string (⟨#[]⟩:ByteArray),.string (⟨#[]⟩:ByteArray)]) ?_ 3 _ rfl;(with_reducible repeat (first|refine blk_drewN ?_ _|refine blk_drew ?_|refine blk_alloc ?_ _));refine blk_put (cs:= #[.int .i64 0,.int .i64 0,.string (⟨#[]⟩:ByteArray),.string (⟨#[]⟩:ByteArray),.string (⟨#[]⟩:ByteArray)]) ?_ 2 _ rfl;(with_reducible repeat (first|refine blk_drewN ?_ _|refine blk_drew ?_|refine blk_alloc ?_ _));refine blk_put (cs:= #[.int .i64 0,.int .i64 0,.string (⟨#[]⟩:ByteArray),.string (⟨#[]⟩:ByteArray),.string (⟨#[]⟩:ByteArray)]) ?_ 1 _ rfl;(with_reducible repeat (first|refine blk_drewN ?_ _|refine blk_drew ?_|refine blk_alloc ?_ _));refine blk_put (cs:= #[.int .i64 0,.int .i64 0,.string (⟨#[]⟩:ByteArray),.string (⟨#[]⟩:ByteArray),.string (⟨#[]⟩:ByteArray)]) ?_ 0 _ rfl;(with_reducible repeat (first|refine blk_drewN ?_ _|refine blk_drew ?_|refine blk_alloc ?_ _));exact aa.out) Tryz.underlying57 rfl (by kernel_rfl)) rfl ?_;exact⟨E_,B_⟩
              ·replace lJ:=Bool.eq_false_iff.mpr lJ;subst lJ;rw[if_neg (show ¬(false=true) by decide)] at H;simp only[Option.some.injEq,Prod.mk.injEq] at H;obtain⟨rfl,rfl,rfl,rfl,rfl,rfl⟩:=H
               try go_wp2
               replace HO_4:=Z_ (Kd.R_drew HO_4.out);replace aa:=Z_ (blk_drew aa.out);replace HB:=Z_ (below_drew1 HB.out);have gJ:0≤(ag:Int):=od_ A_;have gK:ag<(ah.length:Int):=od_ A_;obtain⟨ak,nP,bR,gY,gZ⟩:=at_T116 (Kd.R_reads' HO_4.out).2.2 ag gJ gK
               cases nP
               replace gJ:=eq_true gJ;replace gK:=eq_true gK;have gq:0≤(ag:Int):=od_ A_;have gu:ag<(ah.length:Int):=od_ A_;obtain⟨jh,mG,dh,ib,ic⟩:=at_T116 (Kd.R_reads' HO_4.out).2.2 ag gq gu;obtain rfl:ak=jh:=(by injection mG);replace gq:=eq_true gq;replace gu:=eq_true gu;refine start_ (n:=20) (S:=fun w'=>w'.cell? (ak.add ((ag).toNat*3))=some (.string ((rd_T116 ah ag).f0))∧w'.cell? ⟨(ak.add ((ag).toNat*3)).block,(ak.add ((ag).toNat*3)).off+1,none⟩=some (.int .i64 ((rd_T116 ah ag).f1))∧w'.cell? ⟨(ak.add ((ag).toNat*3)).block,(ak.add ((ag).toNat*3)).off+2,none⟩=some (.int .i64 ((rd_T116 ah ag).f2))∧w'.cell? (ak.add ((ag).toNat*3))=some (.string ((rd_T116 ah ag).f0))∧w'.cell? ⟨(ak.add ((ag).toNat*3)).block,(ak.add ((ag).toNat*3)).off+1,none⟩=some (.int .i64 ((rd_T116 ah ag).f1))∧w'.cell? ⟨(ak.add ((ag).toNat*3)).block,(ak.add ((ag).toNat*3)).off+2,none⟩=some (.int .i64 ((rd_T116 ah ag).f2))) (ds:= []) #[false,false,false,false,false,false,false,false,false,false,false,false,false,false,false,false,false,false,false,false] (by kernel_rfl) rfl rfl ⟨bR,gY,gZ,dh,ib,ic⟩ (fun hHeld=>?_);refine with_tabW wave_Parse.tab6 wave_Parse.bits6 (fun HT_ HW_=>?_);generalize wc.drew=Xu at HO_4 aa HB bR gY gZ dh ib ic hHeld ⊢;refine P_ 0 54 ?_;refine P_ 1 55 ?_;refine P_ 2 56 ?_;refine P_ 3 57 ?_;refine P_ 4 58 ?_;refine P_ 6 60 ?_;refine P_ 7 61 ?_;refine P_ 8 62 ?_;refine P_ 9 63 ?_;refine T_ 5 59 (y:=by rintro w' ⟨s0,s1,s2,s3,s4,s5⟩;go_simp;with_reducible rfl) (h:=?_);refine T_ 10 64 (y:=by rintro w' ⟨s0,s1,s2,s3,s4,s5⟩;go_simp;with_reducible rfl) (h:=?_);refine P_ 11 65 ?_;refine P_ 12 66 ?_;refine join_ (σ:=Nat) 2 #[true,true,true,true,true,true,true,true,true,true,true,true,true,true,true,true,true,true,false,false] (fun s_=> [(67,.tuple #[.agg #[.int .i64 bY,.int .i64 bQ],.bool false]),(10,.pointer (some ⟨s_,0,none⟩)),(53,.tuple #[.agg #[.int .i64 bY,.int .i64 bQ],.bool false]),(68,.agg #[.int .i64 bY,.int .i64 bQ]),(69,.bool false)]) (fun s_ w'=>(w'.cell? (ak.add ((ag).toNat*3))=some (.string ((rd_T116 ah ag).f0))∧w'.cell? ⟨(ak.add ((ag).toNat*3)).block,(ak.add ((ag).toNat*3)).off+1,none⟩=some (.int .i64 ((rd_T116 ah ag).f1))∧w'.cell? ⟨(ak.add ((ag).toNat*3)).block,(ak.add ((ag).toNat*3)).off+2,none⟩=some (.int .i64 ((rd_T116 ah ag).f2))∧w'.cell? (ak.add ((ag).toNat*3))=some (.string ((rd_T116 ah ag).f0))∧w'.cell? ⟨(ak.add ((ag).toNat*3)).block,(ak.add ((ag).toNat*3)).off+1,none⟩=some (.int .i64 ((rd_T116 ah ag).f1))∧w'.cell? ⟨(ak.add ((ag).toNat*3)).block,(ak.add ((ag).toNat*3)).off+2,none⟩=some (.int .i64 ((rd_T116 ah ag).f2)))∧(Kd.R k116 116 w' w.heap.size (fun _=>True) (.slice (some ak) ah.length Aw) ah)∧(w'.heap[az]?=some (.cells #[.int .i64 0,.int .i64 0,.string (⟨#[]⟩:ByteArray),.string (⟨#[]⟩:ByteArray),.string (⟨#[]⟩:ByteArray)] 57 (0,0)))∧(w'.heap[s_]?=some (.cells #[.int .i64 0,.int .i64 0] 23 (0,0)))∧(w.heap.size≤s_)∧(w.heap.size≤s_)∧(az≠s_)∧(s_≠az)∧(Below w.heap.size w w')) ?_ ?_;rotate_left
               ·intro hCont;refine two_ (i:=13) (j:=17) (Ni:=some 67) (Nj:=some 10) #[true,true,true,true,true,true,true,true,true,true,true,true,true,true,false,false,false,false,false,false] #[true,true,true,true,true,true,true,true,true,true,true,true,true,false,false,false,false,true,false,false] rfl rfl rfl rfl (two_of HT_.out (by kernel_rfl)) (by decide) (by decide) (fun K hK=>?_) (fun K hK=>?_)
                ·skip
                 refine g_ Tryz.func60 #[.string (a0.extract (((rd_T116 ah ag).f1):Int).toNat ((wrap64 (((rd_T116 ah ag).f1)+16)):Int).toNat)] ?_
                 with_reducible refine(wave_format.calls EZ (a0.extract (((rd_T116 ah ag).f1):Int).toNat ((wrap64 (((rd_T116 ah ag).f1)+16)):Int).toNat) bY bQ false _ Er.out).mono ?_
                 rintro e Ae ⟨rfl,hb⟩;have fE:=Hc_ hb hHeld.1;have gD:=Hc_ hb hHeld.2.1;have gF:=Hc_ hb hHeld.2.2.1;have gG:=Hc_ hb hHeld.2.2.2.1;have gH:=Hc_ hb hHeld.2.2.2.2.1;have gI:=Hc_ hb hHeld.2.2.2.2.2;refine⟨_,rfl,?_⟩;replace HO_4:=Z_ (Kd.R_below (R_ HO_4) hb);replace aa:=Z_ (blk_below (K_ aa) hb);replace HB:=Hb_ hb;(try clear hb);(try clear hb2);(try clear hk);(try clear hi);refine hK.out _ _ ⟨fE,gD,gF,gG,gH,gI⟩ (fun hHeld=>?_);clear hK K;refine Nm_ 67 ?_;refine P_ 14 53 ?_;refine P_ 15 68 ?_;refine P_ 16 69 ?_;refine O_ 17 10 fun K hK=>?_
                 refine box_step ?hg (N:=10) ?hd (cs:= #[.int .i64 0,.int .i64 0]) (t:=23) ?hr ?_;(case hd=>rfl);(case hg=>rfl);(case hr=>first|(go_simp;done)|(go_simp;rfl));intro ai hg Wt hbox hb;have fE:=Hc_ hb hHeld.1;have gD:=Hc_ hb hHeld.2.1;have gF:=Hc_ hb hHeld.2.2.1;have gG:=Hc_ hb hHeld.2.2.2.1;have gH:=Hc_ hb hHeld.2.2.2.2.1;have gI:=Hc_ hb hHeld.2.2.2.2.2;replace HO_4:=Z_ (Kd.R_below (R_ HO_4) hb);have aD:=Z_ (hbox);have ig:=Z_ ((G2_ hg:w.heap.size≤_));have ik:=Z_ ((G2_ hg:w.heap.size≤_));replace HB:=Hb_ hb;have aI:=Z_ ((by rw[hg];exact Nat.ne_of_lt (blk_lt (g:=az) (o:= .cells #[.int .i64 0,.int .i64 0,.string (⟨#[]⟩:ByteArray),.string (⟨#[]⟩:ByteArray),.string (⟨#[]⟩:ByteArray)] 57 (0,0)) (K_ aa)):az≠ai));have aH:=Z_ ((by rw[hg];exact Nat.ne_of_gt (blk_lt (g:=az) (o:= .cells #[.int .i64 0,.int .i64 0,.string (⟨#[]⟩:ByteArray),.string (⟨#[]⟩:ByteArray),.string (⟨#[]⟩:ByteArray)] 57 (0,0)) (K_ aa)):ai≠az));replace aa:=Z_ (blk_below (K_ aa) hb);clear hb hbox hg;refine hK.out _ _ ⟨fE,gD,gF,gG,gH,gI⟩ (fun hHeld=>?_);clear hK K;refine Nm_ 10 ?_;exact norm_ (by simp only[putAll,Act.put,List.setIfInBounds_toArray,List.set_cons_zero,List.set_cons_succ]) (hCont (ai) _ ⟨hHeld,(R_ HO_4),(K_ aa),(K_ aD),ig.out,ik.out,aI.out,aH.out,B_⟩)
                ·skip
                 refine box_step ?hg (N:=10) ?hd (cs:= #[.int .i64 0,.int .i64 0]) (t:=23) ?hr ?_;(case hd=>rfl);(case hg=>rfl);(case hr=>first|(go_simp;done)|(go_simp;rfl));intro ai hg Ae hbox hb;have fE:=Hc_ hb hHeld.1;have gD:=Hc_ hb hHeld.2.1;have gF:=Hc_ hb hHeld.2.2.1;have gG:=Hc_ hb hHeld.2.2.2.1;have gH:=Hc_ hb hHeld.2.2.2.2.1;have gI:=Hc_ hb hHeld.2.2.2.2.2;replace HO_4:=Z_ (Kd.R_below (R_ HO_4) hb);have aD:=Z_ (hbox);have ig:=Z_ ((G2_ hg:w.heap.size≤_));have ik:=Z_ ((G2_ hg:w.heap.size≤_));replace HB:=Hb_ hb;have aI:=Z_ ((by rw[hg];exact Nat.ne_of_lt (blk_lt (g:=az) (o:= .cells #[.int .i64 0,.int .i64 0,.string (⟨#[]⟩:ByteArray),.string (⟨#[]⟩:ByteArray),.string (⟨#[]⟩:ByteArray)] 57 (0,0)) (K_ aa)):az≠ai));have aH:=Z_ ((by rw[hg];exact Nat.ne_of_gt (blk_lt (g:=az) (o:= .cells #[.int .i64 0,.int .i64 0,.string (⟨#[]⟩:ByteArray),.string (⟨#[]⟩:ByteArray),.string (⟨#[]⟩:ByteArray)] 57 (0,0)) (K_ aa)):ai≠az));replace aa:=Z_ (blk_below (K_ aa) hb);clear hb hbox hg;refine hK.out _ _ ⟨fE,gD,gF,gG,gH,gI⟩ (fun hHeld=>?_);clear hK K;refine Nm_ 10 ?_;refine O_ 13 67 fun K hK=>?_
                 refine g_ Tryz.func60 #[.string (a0.extract (((rd_T116 ah ag).f1):Int).toNat ((wrap64 (((rd_T116 ah ag).f1)+16)):Int).toNat)] ?_
                 with_reducible refine(wave_format.calls EZ (a0.extract (((rd_T116 ah ag).f1):Int).toNat ((wrap64 (((rd_T116 ah ag).f1)+16)):Int).toNat) bY bQ false _ Er.out).mono ?_
                 rintro e Wt ⟨rfl,hb⟩;have fE:=Hc_ hb hHeld.1;have gD:=Hc_ hb hHeld.2.1;have gF:=Hc_ hb hHeld.2.2.1;have gG:=Hc_ hb hHeld.2.2.2.1;have gH:=Hc_ hb hHeld.2.2.2.2.1;have gI:=Hc_ hb hHeld.2.2.2.2.2;refine⟨_,rfl,?_⟩;replace HO_4:=Z_ (Kd.R_below (R_ HO_4) hb);replace aa:=Z_ (blk_below (K_ aa) hb);replace aD:=Z_ (blk_below (K_ aD) hb);replace HB:=Hb_ hb;(try clear hb);(try clear hb2);(try clear hk);(try clear hi);refine hK.out _ _ ⟨fE,gD,gF,gG,gH,gI⟩ (fun hHeld=>?_);clear hK K;refine Nm_ 67 ?_;refine P_ 14 53 ?_;refine P_ 15 68 ?_;refine P_ 16 69 ?_;exact norm_ (by simp only[putAll,Act.put,List.setIfInBounds_toArray,List.set_cons_zero,List.set_cons_succ]) (hCont (ai) _ ⟨hHeld,(R_ HO_4),(K_ aa),(K_ aD),ig.out,ik.out,aI.out,aH.out,B_⟩)
               rintro ai vZ ⟨hS_,tY,tZ,qM,uf,ug,BV,BX,BZ⟩;have bU:Aside0 (Kd.R k116 116 vZ w.heap.size (fun _=>True) (.slice (some ak) ah.length Aw) ah):=⟨tY⟩;have bN:Aside0 (vZ.heap[az]?=some (.cells #[.int .i64 0,.int .i64 0,.string (⟨#[]⟩:ByteArray),.string (⟨#[]⟩:ByteArray),.string (⟨#[]⟩:ByteArray)] 57 (0,0))):=⟨tZ⟩;have eX:Aside0 (vZ.heap[ai]?=some (.cells #[.int .i64 0,.int .i64 0] 23 (0,0))):=⟨qM⟩;have j6:Aside0 (w.heap.size≤ai):=⟨uf⟩;have mD:Aside0 (w.heap.size≤ai):=⟨ug⟩;have uy:Aside0 (az≠ai):=⟨BV⟩;have yg:Aside0 (ai≠az):=⟨BX⟩;have Ca:Aside0 (Below w.heap.size w vZ):=⟨BZ⟩;clear HO_4;clear aa;clear HB;clear tY tZ qM uf ug BV BX BZ;have HO_4:=bU;have aa:=bN;have aD:=eX;have ig:=j6;have ik:=mD;have aI:=uy;have aH:=yg;have HB:=Ca;clear bU bN eX j6 mD uy yg Ca;have hHeld:vZ.cell? (ak.add ((ag).toNat*3))=some (.string ((rd_T116 ah ag).f0))∧vZ.cell? ⟨(ak.add ((ag).toNat*3)).block,(ak.add ((ag).toNat*3)).off+1,none⟩=some (.int .i64 ((rd_T116 ah ag).f1))∧vZ.cell? ⟨(ak.add ((ag).toNat*3)).block,(ak.add ((ag).toNat*3)).off+2,none⟩=some (.int .i64 ((rd_T116 ah ag).f2))∧vZ.cell? (ak.add ((ag).toNat*3))=some (.string ((rd_T116 ah ag).f0))∧vZ.cell? ⟨(ak.add ((ag).toNat*3)).block,(ak.add ((ag).toNat*3)).off+1,none⟩=some (.int .i64 ((rd_T116 ah ag).f1))∧vZ.cell? ⟨(ak.add ((ag).toNat*3)).block,(ak.add ((ag).toNat*3)).off+2,none⟩=some (.int .i64 ((rd_T116 ah ag).f2)):=hS_;refine norm_ (a':=?_) ?_ ?_;rotate_left
               ·simp only[putAll,Act.put,List.setIfInBounds_toArray,List.set_cons_zero,List.set_cons_succ];rfl
               refine one_ (i:=18) (N:=none) #[true,true,true,true,true,true,true,true,true,true,true,true,true,true,true,true,true,true,true,false] rfl rfl (one_of HT_.out (by kernel_rfl)) (by decide) (fun K hK=>?_);have Wu:vZ.cell? ⟨ai,0,none⟩=some (.int .i64 0):=(blk_cell aD.out 0).trans rfl;have Ui:=blk_frozen aD.out 0;have Mg:=aI.out;have Mh:=aH.out;have Wv:vZ.cell? ⟨ai,1,none⟩=some (.int .i64 0):=(blk_cell aD.out 1).trans rfl;have Uj:=blk_frozen aD.out 1;have Mi:=aI.out;have Mj:=aH.out;refine skip_ (w1:=?_) (by rfl) rfl ?_ ?_;rotate_left
               ·go_simp
                rfl
               refine hK.out _ _ ⟨((cell_far (p:=⟨ai,_,none⟩) (by exact Wb_ (Kd.own_blk (Kd.R_ne HO_4.out aD.out (by decide)))) _).trans (((cell_far (p:=⟨ai,_,none⟩) (by exact Wb_ (Kd.own_blk (Kd.R_ne HO_4.out aD.out (by decide)))) _).trans (hHeld.1)))),((cell_far (p:=⟨ai,_,none⟩) (by exact Wb_ (Kd.own_blk (Kd.R_ne HO_4.out aD.out (by decide)))) _).trans (((cell_far (p:=⟨ai,_,none⟩) (by exact Wb_ (Kd.own_blk (Kd.R_ne HO_4.out aD.out (by decide)))) _).trans (hHeld.2.1)))),((cell_far (p:=⟨ai,_,none⟩) (by exact Wb_ (Kd.own_blk (Kd.R_ne HO_4.out aD.out (by decide)))) _).trans (((cell_far (p:=⟨ai,_,none⟩) (by exact Wb_ (Kd.own_blk (Kd.R_ne HO_4.out aD.out (by decide)))) _).trans (hHeld.2.2.1)))),((cell_far (p:=⟨ai,_,none⟩) (by exact Wb_ (Kd.own_blk (Kd.R_ne HO_4.out aD.out (by decide)))) _).trans (((cell_far (p:=⟨ai,_,none⟩) (by exact Wb_ (Kd.own_blk (Kd.R_ne HO_4.out aD.out (by decide)))) _).trans (hHeld.2.2.2.1)))),((cell_far (p:=⟨ai,_,none⟩) (by exact Wb_ (Kd.own_blk (Kd.R_ne HO_4.out aD.out (by decide)))) _).trans (((cell_far (p:=⟨ai,_,none⟩) (by exact Wb_ (Kd.own_blk (Kd.R_ne HO_4.out aD.out (by decide)))) _).trans (hHeld.2.2.2.2.1)))),((cell_far (p:=⟨ai,_,none⟩) (by exact Wb_ (Kd.own_blk (Kd.R_ne HO_4.out aD.out (by decide)))) _).trans (((cell_far (p:=⟨ai,_,none⟩) (by exact Wb_ (Kd.own_blk (Kd.R_ne HO_4.out aD.out (by decide)))) _).trans (hHeld.2.2.2.2.2))))⟩ (fun hHeld=>?_);clear hK K;refine P_ 19 11 ?_;refine done_ (done_of HT_.out (by kernel_rfl)) ?_;have mO:0≤(aM:Int):=od_ A_;have mQ:aM<(ah.length:Int):=od_ A_;obtain⟨qx,e117,dL,dM,dN⟩:=at_T116 (Kd.R_reads' HO_4.out).2.2 aM mO mQ;obtain rfl:ak=qx:=(by injection e117);have dO:ak.block≠ai:=Kd.own_blk (Kd.R_ne HO_4.out aD.out (by decide));have dP:ak.block≠ai:=Kd.own_blk (Kd.R_ne HO_4.out aD.out (by decide));replace dL:=Cf_ ai 0 (.int .i64 bY) dL (Wb_ dO);replace dM:=Cf_ ai 0 (.int .i64 bY) dM (Wb_ dO);replace dN:=Cf_ ai 0 (.int .i64 bY) dN (Wb_ dO);replace dL:=Cf_ ai 1 (.int .i64 bQ) dL (Wb_ dP);replace dM:=Cf_ ai 1 (.int .i64 bQ) dM (Wb_ dP);replace dN:=Cf_ ai 1 (.int .i64 bQ) dN (Wb_ dP);clear dO;clear dP;replace mO:=eq_true mO;replace mQ:=eq_true mQ;have mR:0≤(aM:Int):=od_ A_;have mU:aM<(ah.length:Int):=od_ A_;obtain⟨qy,e118,dQ,dR,dS⟩:=at_T116 (Kd.R_reads' HO_4.out).2.2 aM mR mU;obtain rfl:ak=qy:=(by injection e118);have dU:ak.block≠ai:=Kd.own_blk (Kd.R_ne HO_4.out aD.out (by decide));have dV:ak.block≠ai:=Kd.own_blk (Kd.R_ne HO_4.out aD.out (by decide));replace dQ:=Cf_ ai 0 (.int .i64 bY) dQ (Wb_ dU);replace dR:=Cf_ ai 0 (.int .i64 bY) dR (Wb_ dU);replace dS:=Cf_ ai 0 (.int .i64 bY) dS (Wb_ dU);replace dQ:=Cf_ ai 1 (.int .i64 bQ) dQ (Wb_ dV);replace dR:=Cf_ ai 1 (.int .i64 bQ) dR (Wb_ dV);replace dS:=Cf_ ai 1 (.int .i64 bQ) dS (Wb_ dV);clear dU;clear dV;replace mR:=eq_true mR;replace mU:=eq_true mU;have Uk:=aI.out;have Ul:=aH.out;have Mk:=cz_ aa 0;have Ml:=cz_ aa 1;have Mm:=cz_ aa 2;have Mo:=cz_ aa 3;have Mq:=cz_ aa 4;have Mr:=fz_ aa 0;have Ms:=fz_ aa 1;have Mt:=fz_ aa 2;have Mv:=fz_ aa 3;have Mw:=fz_ aa 4
               try go_wp2
               refine bodyPost_ret (results_ct rfl _ _ az 57 #[.int .i64 0,.int .i64 0,.string (⟨#[]⟩:ByteArray),.string (⟨#[]⟩:ByteArray),.string (⟨#[]⟩:ByteArray)] (0,0) _ rfl (by(with_reducible repeat (first|refine blk_drewN ?_ _|refine blk_drew ?_|refine blk_alloc ?_ _));refine blk_put (cs:= #[.int .i64 0,.int .i64 0,.string (⟨#[]⟩:ByteArray),.string (⟨#[]⟩:ByteArray),.string (⟨#[]⟩:ByteArray)]) ?_ 4 _ rfl;(with_reducible repeat (first|refine blk_drewN ?_ _|refine blk_drew ?_|refine blk_alloc ?_ _));refine blk_put (cs:= #[.int .i64 0,.int .i64 0,.string (⟨#[]⟩:ByteArray),.string (⟨#[]⟩:ByteArray),.string (⟨#[]⟩:ByteArray)]) ?_ 3 _ rfl;(with_reducible repeat (first|refine blk_drewN ?_ _|refine blk_drew ?_|refine blk_alloc ?_ _));refine blk_put (cs:= #[.int .i64 0,.int .i64 0,.string (⟨#[]⟩:ByteArray),.string (⟨#[]⟩:ByteArray),.string (⟨#[]⟩:ByteArray)]) ?_ 2 _ rfl;(with_reducible repeat (first|refine blk_drewN ?_ _|refine blk_drew ?_|refine blk_alloc ?_ _));refine blk_put (cs:= #[.int .i64 0,.int .i64 0,.string (⟨#[]⟩:ByteArray),.string (⟨#[]⟩:ByteArray),.string (⟨#[]⟩:ByteArray)]) ?_ 1 _ rfl;(with_reducible repeat (first|refine blk_drewN ?_ _|refine blk_drew ?_|refine blk_alloc ?_ _));refine blk_put (cs:= #[.int .i64 0,.int .i64 0,.string (⟨#[]⟩:ByteArray),.string (⟨#[]⟩:ByteArray),.string (⟨#[]⟩:ByteArray)]) ?_ 0 _ rfl;(with_reducible repeat (first|refine blk_drewN ?_ _|refine blk_drew ?_|refine blk_alloc ?_ _));refine blk_far ?_ aI.out _;(with_reducible repeat (first|refine blk_drewN ?_ _|refine blk_drew ?_|refine blk_alloc ?_ _));refine blk_far ?_ aI.out _;(with_reducible repeat (first|refine blk_drewN ?_ _|refine blk_drew ?_|refine blk_alloc ?_ _));exact aa.out) Tryz.underlying57 rfl (by kernel_rfl)) rfl ?_;exact⟨E_,B_⟩
             ·rw[if_neg jS] at H;exact absurd H (by simp)
            ·rw[if_neg c28] at H;exact absurd H (by simp)
           ·rw[if_neg jI] at H;exact absurd H (by simp)
          ·rw[if_neg o6] at H;exact absurd H (by simp)
         ·rw[if_neg qK] at H;exact absurd H (by simp)
        ·rw[if_neg c23] at H;exact absurd H (by simp)
       ·rw[if_neg qF] at H;exact absurd H (by simp)
      ·rw[if_neg c21] at H;exact absurd H (by simp)
     ·rw[if_neg c20] at H;exact absurd H (by simp)
    ·rw[if_neg c19] at H;exact absurd H (by simp)
end Go.Proofs.YtfghldonnffldaaGreatDoor.ZFiv
namespace Go.Proofs.YtfghldonnffldaaGreatDoor.ZFiv
open Go.RowKit TBase UOne VTwo XThr YFou YtfghldonnffldaaGreatDoorW.PrintWords YtfghldonnffldaaGreatDoorW.PrintLast YtfghldonnffldaaGreatDoorW.PrintMore
attribute [local go_sem] max2_int min2_int max_two min_two max_three min_three max_four min_four
attribute [local go_sem high] eqA57
def wave_Build.j0:Nat→Bool→Int→Int→ByteArray→ByteArray→ByteArray→Option (ByteArray×Int)
 |0,_,_,_,_,_,_=>none
 |k+1,Ww,AJ,AL,kI,kJ,lU=>if Ww=true then(some ((⟨#[]⟩:ByteArray),2100)) else(if kI.size+kJ.size≤9223372036854775807 then(if(kI++kJ).size+lU.size≤9223372036854775807 then((wave_Parse.f k ((kI++kJ)++lU)).bind fun fP=>(if fP.2.2.2.2.2=0 then(if((!(fP.1==AJ) || (!(fP.2.1==AL))) || (!(fP.2.2.1.toList==kI.toList) || (!(fP.2.2.2.1.toList==kJ.toList) || (!(fP.2.2.2.2.1.toList==lU.toList)))))=true then(some ((⟨#[]⟩:ByteArray),2100)) else(some ((kI++kJ)++lU,0))) else(some ((⟨#[]⟩:ByteArray),2100)))) else(none)) else(none))
def wave_Build.f(k:Nat)(ae:Int)(af:Int)(ax:ByteArray)(aQ:ByteArray)(aW:ByteArray):Option (ByteArray×Int):=if(ax.size:Int)>4096 then(wave_Build.j0 k true ae af ax aQ aW) else(if(aQ.size:Int)>4096 then(wave_Build.j0 k true ae af ax aQ aW) else(wave_Build.j0 k (decide ((aW.size:Int)>4096)) ae af ax aQ aW))
theorem wave_Build.calls(k:Nat)(ae:Int)(af:Int)(ax:ByteArray)(aQ:ByteArray)(aW:ByteArray)(r1:ByteArray)(r2:Int)(w:World)(h:wave_Build.f k ae af ax aQ aW=some (r1,r2)):
  Calls Tryz.prog 33 #[.agg #[.int .i64 ae,.int .i64 af,.string ax,.string aQ,.string aW]] w fun e w'=>e= .returned (.tuple #[.string r1,.int .i64 r2])∧Below w.heap.size w w':=by
 have Ep:=Tryz.underlying57;have HB:=Z_ (Below.refl w.heap.size w);have H:(if(ax.size:Int)>4096 then(wave_Build.j0 k true ae af ax aQ aW) else(if(aQ.size:Int)>4096 then(wave_Build.j0 k true ae af ax aQ aW) else(wave_Build.j0 k (decide ((aW.size:Int)>4096)) ae af ax aQ aW)))=some (r1,r2):=h;clear h;have l8:=Z_ H;clear H
 go_enter Tryz.func33,Tryz.ntmps33
 go_upto_region 1 with (first|((try (refine gate_guard (by rfl) ?_;dsimp only));refine X_ 1 #[.int .i64 ae,.int .i64 af,.string ax,.string aQ,.string aW] 57 ?_;intro iE hg w3 hbox hb;have aC:=Z_ (hbox);have IV:=Z_ (G2_ hg:w.heap.size≤_);have Um:=IV;replace HB:=Hb_ hb;clear hb hbox hg))
 (try simp only[Act.put,List.setIfInBounds_toArray,List.set_cons_zero,List.set_cons_succ])
 go_cut [22] (fun v22 wc=>∃(kq:Nat) (vg:Bool),v22= .bool vg∧Aside0 (wave_Build.j0 kq vg ae af ax aQ aW=some (r1,r2))∧Aside0 (kq≤k)∧Aside0 (wc.heap[iE]?=some (.cells #[.int .i64 ae,.int .i64 af,.string ax,.string aQ,.string aW] 57 (0,0)))∧Aside0 (Below w.heap.size w wc))
 case first=>
  have H:=l8.out;clear l8
  by_cases c4:(ax.size:Int)>4096
  ·rw[if_pos c4] at H;have c4b0:decide (4096<(ax.size:Int))=true:=dt_ c4;have c4b1:decide (4096<ax.size)=true:=dt_ (by omega);clear c4;(first|rw[c4b0]|(simp only[i64_w,i32_w];rw[c4b0])|skip);have H':=Z_ H;clear H;have jE:=cz_ aC 0;have jF:=cz_ aC 1;have kT:=cz_ aC 2;have xG:=cz_ aC 3;have xH:=cz_ aC 4;have jG:=fz_ aC 0;have jH:=fz_ aC 1;have kU:=fz_ aC 2;have xI:=fz_ aC 3;have xJ:=fz_ aC 4;go_wp2;go_meet
   case rel=>exact⟨_,(true),(E1_),H',⟨L_⟩,⟨(K_ aC)⟩,⟨B_⟩⟩
  ·rw[if_neg c4] at H;have c4b0:decide (4096<(ax.size:Int))=false:=df_ c4;have c4b1:decide (4096<ax.size)=false:=df_ (by omega);clear c4;(first|rw[c4b0]|(simp only[i64_w,i32_w];rw[c4b0])|skip)
   by_cases c6:(aQ.size:Int)>4096
   ·rw[if_pos c6] at H;have c6b0:decide (4096<(aQ.size:Int))=true:=dt_ c6;have c6b1:decide (4096<aQ.size)=true:=dt_ (by omega);clear c6;have H':=Z_ H;clear H;have kP:=cz_ aC 0;have kQ:=cz_ aC 1;have mg:=cz_ aC 2;have oM:=cz_ aC 3;have oN:=cz_ aC 4;have kR:=fz_ aC 0;have kS:=fz_ aC 1;have mh:=fz_ aC 2;have oO:=fz_ aC 3;have oP:=fz_ aC 4;go_wp2;go_meet
    case rel=>exact⟨_,(true),(E1_),H',⟨L_⟩,⟨(K_ aC)⟩,⟨B_⟩⟩
   ·rw[if_neg c6] at H;have c6b0:decide (4096<(aQ.size:Int))=false:=df_ c6;have c6b1:decide (4096<aQ.size)=false:=df_ (by omega);clear c6;have H':=Z_ H;clear H;have kV:=cz_ aC 0;have kW:=cz_ aC 1;have xc:=cz_ aC 2;have Es:=cz_ aC 3;have Et:=cz_ aC 4;have kX:=fz_ aC 0;have kY:=fz_ aC 1;have xe:=fz_ aC 2;have Eu:=fz_ aC 3;have Ev:=fz_ aC 4;go_wp2;go_meet
    case rel=>exact⟨_,(decide ((aW.size:Int)>4096)),(E1_),H',⟨L_⟩,⟨(K_ aC)⟩,⟨B_⟩⟩
 case rest=>
  clear l8
  try clear p2
  try clear c3
  try clear c4
  try clear c4b0
  try clear c4b1
  try clear c6
  try clear c6b0
  try clear c6b1
  try clear jE
  try clear jF
  try clear kT
  try clear xG
  try clear xH
  try clear kP
  try clear kQ
  try clear mg
  try clear oM
  try clear oN
  try clear kV
  try clear kW
  try clear xc
  try clear Es
  try clear Et
  try clear jG
  try clear jH
  try clear kU
  try clear xI
  try clear xJ
  try clear kR
  try clear kS
  try clear mh
  try clear oO
  try clear oP
  try clear kX
  try clear kY
  try clear xe
  try clear Eu
  try clear Ev
  obtain⟨kq,vg,rfl,HA,qR,aC,HB⟩:=hcut
  cases kq with
  |zero=>exact absurd HA.out (by simp[wave_Build.j0])
  |succ oZ=>
   have H:=HA.out;clear HA;simp only[wave_Build.j0] at H
   by_cases c9:vg=true
   ·subst c9;rw[if_pos rfl] at H;simp only[Option.some.injEq,Prod.mk.injEq] at H;obtain⟨rfl,rfl⟩:=H;go_wp2;go_ret2;exact⟨E_,B_⟩
   ·replace c9:=Bool.eq_false_iff.mpr c9;subst c9;rw[if_neg (show ¬(false=true) by decide)] at H
    by_cases c10:ax.size+aQ.size≤9223372036854775807
    ·rw[if_pos c10] at H;have c10b0:=eq_true c10;have c10b1:=dt_ c10
     try have c10b2:(9223372036854775807<ax.size+aQ.size)=False:=eq_false (Nat.not_lt.2 c10)
     by_cases c11:(ax++aQ).size+aW.size≤9223372036854775807
     ·rw[if_pos c11] at H;have c11b0:=eq_true c11;have c11b1:=dt_ c11
      try have c11b2:(9223372036854775807<(ax++aQ).size+aW.size)=False:=eq_false (Nat.not_lt.2 c11)
      (try (have c11b3:=c11b2;simp only[ByteArray.size_append] at c11b3));replace H:=Ob_ H;obtain⟨⟨fI,iw,bz,t124,bJ,bu⟩,IW,H⟩:=H;(try dsimp only at H);have Rw:=Z_ IW;clear IW
      by_cases c13:bu=0
      ·rw[if_pos c13] at H;have c13b0:(bu==0)=true:=beq_iff_eq.mpr c13;have c13b1:(bu !=0)=false:=bne_eq_false_iff_eq.mpr c13;clear c13
       by_cases c14:((!(fI==ae) || (!(iw==af))) || (!(bz.toList==ax.toList) || (!(t124.toList==aQ.toList) || (!(bJ.toList==aW.toList)))))=true
       ·rw[if_pos c14] at H;have c14b0:((!(fI==ae) || (!(iw==af))) || (!(bz.toList==ax.toList) || (!(t124.toList==aQ.toList) || (!(bJ.toList==aW.toList)))))=true:=c14;clear c14;simp only[Option.some.injEq,Prod.mk.injEq] at H;obtain⟨rfl,rfl⟩:=H;have jN:=cz_ aC 0;have jO:=cz_ aC 1;have zB:=cz_ aC 2;have zC:=cz_ aC 3;have zD:=cz_ aC 4;have jP:=fz_ aC 0;have jQ:=fz_ aC 1;have zF:=fz_ aC 2;have zG:=fz_ aC 3;have zH:=fz_ aC 4
        go_wp2_with (first|(refine G_ 33 Tryz.func24 #[.string ((ax++aQ)++aW)] ?_;refine(wave_Parse.calls oZ ((ax++aQ)++aW) fI iw bz t124 bJ bu _ Rw.out).mono ?_;rintro e w16 ⟨rfl,hb⟩;refine⟨_,rfl,?_⟩;replace aC:=Z_ (blk_below (K_ aC) hb);replace HB:=Hb_ hb;(try clear hb))|((try (refine gate_guard (by rfl) ?_;dsimp only));refine X_ 5 #[.int .i64 0,.int .i64 0,.string (⟨#[]⟩:ByteArray),.string (⟨#[]⟩:ByteArray),.string (⟨#[]⟩:ByteArray)] 57 ?_;intro lI hg Db hbox hb;have bZ:=Z_ (hbox);have qz:=Z_ (G2_ hg:w.heap.size≤_);have Cb:=qz;replace HB:=Hb_ hb;have iF:=Z_ ((by rw[hg];exact Nat.ne_of_lt (blk_lt (g:=iE) (o:= .cells #[.int .i64 ae,.int .i64 af,.string ax,.string aQ,.string aW] 57 (0,0)) (K_ aC)):iE≠lI));have iG:=Z_ ((by rw[hg];exact Nat.ne_of_gt (blk_lt (g:=iE) (o:= .cells #[.int .i64 ae,.int .i64 af,.string ax,.string aQ,.string aW] 57 (0,0)) (K_ aC)):lI≠iE));replace aC:=Z_ (blk_below (K_ aC) hb);clear hb hbox hg;have Un:=iG.out;have Uo:=iF.out;have zI:=cz_ bZ 0;have zJ:=cz_ bZ 1;have zK:=cz_ bZ 2;have zL:=cz_ bZ 3;have zM:=cz_ bZ 4;have zN:=fz_ bZ 0;have zO:=fz_ bZ 1;have zP:=fz_ bZ 2;have zQ:=fz_ bZ 3;have zR:=fz_ bZ 4;have Mx:=cz_ aC 0;have MB:=cz_ aC 1;have MC:=cz_ aC 2;have ME:=cz_ aC 3;have MF:=cz_ aC 4;have MG:=fz_ aC 0;have MH:=fz_ aC 1;have MI:=fz_ aC 2;have MJ:=fz_ aC 3;have MK:=fz_ aC 4))
        go_ret2;exact⟨E_,B_⟩
       ·rw[if_neg c14] at H;have c14b0:((!(fI==ae) || (!(iw==af))) || (!(bz.toList==ax.toList) || (!(t124.toList==aQ.toList) || (!(bJ.toList==aW.toList)))))=false:=by simpa using c14
        clear c14;simp only[Option.some.injEq,Prod.mk.injEq] at H;obtain⟨rfl,rfl⟩:=H;have oz:=cz_ aC 0;have oC:=cz_ aC 1;have ML:=cz_ aC 2;have MM:=cz_ aC 3;have MN:=cz_ aC 4;have oD:=fz_ aC 0;have oF:=fz_ aC 1;have MO:=fz_ aC 2;have MP:=fz_ aC 3;have MQ:=fz_ aC 4
        go_wp2_with (first|(refine G_ 33 Tryz.func24 #[.string ((ax++aQ)++aW)] ?_;refine(wave_Parse.calls oZ ((ax++aQ)++aW) fI iw bz t124 bJ bu _ Rw.out).mono ?_;rintro e zS ⟨rfl,hb⟩;refine⟨_,rfl,?_⟩;replace aC:=Z_ (blk_below (K_ aC) hb);replace HB:=Hb_ hb;(try clear hb))|((try (refine gate_guard (by rfl) ?_;dsimp only));refine X_ 5 #[.int .i64 0,.int .i64 0,.string (⟨#[]⟩:ByteArray),.string (⟨#[]⟩:ByteArray),.string (⟨#[]⟩:ByteArray)] 57 ?_;intro lI hg Cu hbox hb;have bZ:=Z_ (hbox);have qz:=Z_ (G2_ hg:w.heap.size≤_);have Cb:=qz;replace HB:=Hb_ hb;have iF:=Z_ ((by rw[hg];exact Nat.ne_of_lt (blk_lt (g:=iE) (o:= .cells #[.int .i64 ae,.int .i64 af,.string ax,.string aQ,.string aW] 57 (0,0)) (K_ aC)):iE≠lI));have iG:=Z_ ((by rw[hg];exact Nat.ne_of_gt (blk_lt (g:=iE) (o:= .cells #[.int .i64 ae,.int .i64 af,.string ax,.string aQ,.string aW] 57 (0,0)) (K_ aC)):lI≠iE));replace aC:=Z_ (blk_below (K_ aC) hb);clear hb hbox hg;have Uq:=iG.out;have Ur:=iF.out;have sD:=cz_ bZ 0;have sF:=cz_ bZ 1;have MR:=cz_ bZ 2;have MS:=cz_ bZ 3;have MU:=cz_ bZ 4;have sG:=fz_ bZ 0;have sH:=fz_ bZ 1;have MV:=fz_ bZ 2;have MW:=fz_ bZ 3;have MX:=fz_ bZ 4;have MZ:=cz_ aC 0;have M0:=cz_ aC 1;have M4:=cz_ aC 2;have M5:=cz_ aC 3;have M6:=cz_ aC 4;have M7:=fz_ aC 0;have M8:=fz_ aC 1;have M9:=fz_ aC 2;have Na:=fz_ aC 3;have Nb:=fz_ aC 4))
        go_ret2;exact⟨E_,B_⟩
      ·rw[if_neg c13] at H;have c13b0:(bu==0)=false:=beq_eq_false_iff_ne.mpr c13;have c13b1:(bu !=0)=true:=bne_iff_ne.mpr c13;simp only[Option.some.injEq,Prod.mk.injEq] at H;obtain⟨rfl,rfl⟩:=H;have Nc:=cz_ aC 0;have Nf:=cz_ aC 1;have Ng:=cz_ aC 2;have Nh:=cz_ aC 3;have Nk:=cz_ aC 4;have Nl:=fz_ aC 0;have Nn:=fz_ aC 1;have Np:=fz_ aC 2;have Nq:=fz_ aC 3;have Nr:=fz_ aC 4
       go_wp2_with (first|(refine G_ 33 Tryz.func24 #[.string ((ax++aQ)++aW)] ?_;refine(wave_Parse.calls oZ ((ax++aQ)++aW) fI iw bz t124 bJ bu _ Rw.out).mono ?_;rintro e V3 ⟨rfl,hb⟩;refine⟨_,rfl,?_⟩;replace aC:=Z_ (blk_below (K_ aC) hb);replace HB:=Hb_ hb;(try clear hb))|((try (refine gate_guard (by rfl) ?_;dsimp only));refine X_ 5 #[.int .i64 0,.int .i64 0,.string (⟨#[]⟩:ByteArray),.string (⟨#[]⟩:ByteArray),.string (⟨#[]⟩:ByteArray)] 57 ?_;intro lI hg vW hbox hb;have bZ:=Z_ (hbox);have qz:=Z_ (G2_ hg:w.heap.size≤_);have Cb:=qz;replace HB:=Hb_ hb;have iF:=Z_ ((by rw[hg];exact Nat.ne_of_lt (blk_lt (g:=iE) (o:= .cells #[.int .i64 ae,.int .i64 af,.string ax,.string aQ,.string aW] 57 (0,0)) (K_ aC)):iE≠lI));have iG:=Z_ ((by rw[hg];exact Nat.ne_of_gt (blk_lt (g:=iE) (o:= .cells #[.int .i64 ae,.int .i64 af,.string ax,.string aQ,.string aW] 57 (0,0)) (K_ aC)):lI≠iE));replace aC:=Z_ (blk_below (K_ aC) hb);clear hb hbox hg;have Us:=iG.out;have Ut:=iF.out;have Ns:=cz_ bZ 0;have Nt:=cz_ bZ 1;have Nu:=cz_ bZ 2;have Nv:=cz_ bZ 3;have Nw:=cz_ bZ 4;have Ny:=fz_ bZ 0;have Nz:=fz_ bZ 1;have NA:=fz_ bZ 2;have NB:=fz_ bZ 3;have NC:=fz_ bZ 4))
       go_ret2;exact⟨E_,B_⟩
     ·rw[if_neg c11] at H;exact absurd H (by simp)
    ·rw[if_neg c10] at H;exact absurd H (by simp)
end Go.Proofs.YtfghldonnffldaaGreatDoor.ZFiv
namespace Go.Proofs.YtfghldonnffldaaGreatDoor.ZFiv
open Go.RowKit TBase UOne VTwo XThr YFou YtfghldonnffldaaGreatDoorW.PrintWords YtfghldonnffldaaGreatDoorW.PrintLast YtfghldonnffldaaGreatDoorW.PrintMore
attribute [local go_sem] max2_int min2_int max_two min_two max_three min_three max_four min_four
end Go.Proofs.YtfghldonnffldaaGreatDoor.ZFiv
namespace Go.Proofs.YtfghldonnffldaaGreatDoor.QSix
open Go.RowKit TBase UOne VTwo XThr YFou ZFiv YtfghldonnffldaaGreatDoorW.PrintWords YtfghldonnffldaaGreatDoorW.PrintLast YtfghldonnffldaaGreatDoorW.PrintMore
attribute [local go_sem] max2_int min2_int max_two min_two max_three min_three max_four min_four
theorem info9:(Tryz.prog.info? 9).map (fun i=>(i.zero,i.size,i.bytes))=some (some (.string ⟨#[]⟩),1,16):=by kernel_rfl
mutual
def file_Encode.j0:Nat→Int→Bool→Int→Int→ByteArray→ByteArray→ByteArray→Option (ByteArray×Int)
 |0,_,_,_,_,_,_,_=>none
 |k+1,x1,x28,jr,jv,lV,fC,lW=>if x28=true then(some ((⟨#[]⟩:ByteArray),2400)) else((pcm_Frame.f jr jv).bind fun aM=>(if aM=0 then(none) else(file_Encode.l0 k x1 aM 0 jr jv lV fC lW jr jv x1 (wrap64 ((fC.size:Int) / aM)) lV lW ([]:List ByteArray))))
def file_Encode.l0:Nat→Int→Int→Int→Int→Int→ByteArray→ByteArray→ByteArray→Int→Int→Int→Int→ByteArray→ByteArray→List ByteArray→Option (ByteArray×Int)
 |0,_,_,_,_,_,_,_,_,_,_,_,_,_,_,_=>none
 |k+1,x1,x8,qC,jr,jv,lV,fC,lW,vk,vv,vw,vz,vB,vC,oQ=>if qC<(fC.size:Int) then(if 0≤qC then(if qC≤(mn (wrap64 (qC+(wrap64 (x1*x8)))) (fC.size:Int)) then(if(mn (wrap64 (qC+(wrap64 (x1*x8)))) (fC.size:Int))≤(fC.size:Int) then((segment_Put.f k (fC.extract (qC:Int).toNat ((mn (wrap64 (qC+(wrap64 (x1*x8)))) (fC.size:Int)):Int).toNat) jr jv).bind fun iC=>(if oQ.length<8796093022208 then(file_Encode.l0 k x1 x8 (wrap64 (qC+(wrap64 (x1*x8)))) jr jv lV fC lW vk vv vw vz vB vC (oQ++ [iC.1])) else(none))) else(none)) else(none)) else(none)) else((stream_Put.f vk vv vw vz vB vC oQ).bind fun Cc=>(if Cc.2=0 then(some (Cc.1,0)) else(some ((⟨#[]⟩:ByteArray),2400))))
end
def file_Encode.f(k:Nat)(a0:ByteArray)(a1:Int):Option (ByteArray×Int):=(wave_Parse.f k a0).bind fun bA=>(if bA.2.2.2.2.2=0 then(if a1<1 then(file_Encode.j0 k a1 true bA.1 bA.2.1 bA.2.2.1 bA.2.2.2.1 bA.2.2.2.2.1) else(file_Encode.j0 k a1 (decide (a1>64)) bA.1 bA.2.1 bA.2.2.1 bA.2.2.2.1 bA.2.2.2.2.1)) else(file_Encode.j0 k a1 true bA.1 bA.2.1 bA.2.2.1 bA.2.2.2.1 bA.2.2.2.2.1))
def file_Encode.T5:Bool×List (List Nat×List Nat):=(true,[([],[]),([0],[0]),([],[]),([],[]),([3],[3]),([4],[4]),([],[]),([5,6],[5,6]),([],[]),([8],[8]),([],[]),([10],[10]),([1,2,7,9,11],[1,2,7,9,11]),([],[]),([13,12,0,1,2,3,4,5,6,7,8,9,10,11,12,13],[12,13])])
def file_Encode.B5:List Nat:= [0,1,0,0,8,24,0,120,0,256,0,1024,4095,0,16383]
theorem file_Encode.tab5:rtab .any (opsOf Tryz.f10 5)=file_Encode.T5:=by kernel_rfl
theorem file_Encode.bits5:waitsOk file_Encode.T5.2 file_Encode.B5=true:=by kernel_rfl
def file_Encode.T9:Bool×List (List Nat×List Nat):=(true,[([],[]),([0],[0]),([],[]),([],[]),([],[]),([],[]),([4,5],[4,5]),([3,6],[3,6]),([],[]),([8],[8]),([9],[9]),([7,10],[7,10]),([1,2,11],[1,2,11]),([],[]),([13],[13]),([12,14],[12,14]),([15],[15]),([16],[16]),([16],[16]),([17,15,0,1,2,3,4,5,6,7,8,9,10,11,12,13,14,15,16,17],[17]),([18,19,0,1,2,3,4,5,6,7,8,9,10,11,12,13,14,15,16,17,18,19],[18])])
def file_Encode.B9:List Nat:= [0,1,0,0,0,0,48,120,0,256,768,2040,4095,0,8192,32767,65535,131071,131071,262143,1048575]
theorem file_Encode.tab9:rtab .any (opsOf Tryz.f10 9)=file_Encode.T9:=by kernel_rfl
theorem file_Encode.bits9:waitsOk file_Encode.T9.2 file_Encode.B9=true:=by kernel_rfl
theorem file_Encode.calls(k:Nat)(a0:ByteArray)(a1:Int)(r1:ByteArray)(r2:Int)(w:World)(h:file_Encode.f k a0 a1=some (r1,r2))(hT:Tabs w:=by exact Tabs.below hT B_):
  Calls Tryz.prog 10 #[.string a0,.int .i64 a1] w fun e w'=>e= .returned (.tuple #[.string r1,.int .i64 r2])∧Below w.heap.size w w':=by
 have Ep:=Tryz.underlying57;have fH:=Tryz.underlying23;have lM:=Tryz.underlying49;have HB:=Z_ (Below.refl w.heap.size w);have H:((wave_Parse.f k a0).bind fun bA=>(if bA.2.2.2.2.2=0 then(if a1<1 then(file_Encode.j0 k a1 true bA.1 bA.2.1 bA.2.2.1 bA.2.2.2.1 bA.2.2.2.2.1) else(file_Encode.j0 k a1 (decide (a1>64)) bA.1 bA.2.1 bA.2.2.1 bA.2.2.2.1 bA.2.2.2.2.1)) else(file_Encode.j0 k a1 true bA.1 bA.2.1 bA.2.2.1 bA.2.2.2.1 bA.2.2.2.2.1)))=some (r1,r2):=h;clear h;replace H:=Ob_ H;obtain⟨⟨bv,ah,bG,dm,t105,ag⟩,jw,H⟩:=H;(try dsimp only at H);have A3:=Z_ jw;clear jw;have En:=Z_ H;clear H
 go_enter Tryz.func10,Tryz.ntmps10
 go_upto_region 2 with (first|(refine G_ 16 Tryz.func24 #[.string a0] ?_;refine(wave_Parse.calls k a0 bv ah bG dm t105 ag _ A3.out).mono ?_;rintro e w5 ⟨rfl,hb⟩;refine⟨_,rfl,?_⟩;replace HB:=Hb_ hb;(try clear hb))|(refine X_ 6 #[.int .i64 0,.int .i64 0,.string (⟨#[]⟩:ByteArray),.string (⟨#[]⟩:ByteArray),.string (⟨#[]⟩:ByteArray)] 57 ?_;intro fG hg w6 hbox hb;have aG:=Z_ (hbox);have IX:=Z_ (G2_ hg:w.heap.size≤_);have Uu:=IX;replace HB:=Hb_ hb;clear hb hbox hg;have kP:=cz_ aG 0;have kQ:=cz_ aG 1;have mg:=cz_ aG 2;have oM:=cz_ aG 3;have oN:=cz_ aG 4;have kR:=fz_ aG 0;have kS:=fz_ aG 1;have mh:=fz_ aG 2;have oO:=fz_ aG 3;have oP:=fz_ aG 4))
 (try simp only[Act.put,List.setIfInBounds_toArray,List.set_cons_zero,List.set_cons_succ])
 go_cut [28] (fun v28 wc=>∃(kq:Nat) (vD:Bool),v28= .bool vD∧Aside0 (file_Encode.j0 kq a1 vD bv ah bG dm t105=some (r1,r2))∧Aside0 (kq≤k)∧Aside0 (wc.heap[fG]?=some (.cells #[.int .i64 bv,.int .i64 ah,.string bG,.string dm,.string t105] 57 (0,0)))∧Aside0 (Below w.heap.size w wc))
 case first=>
  have H:=En.out;clear En
  by_cases c8:ag=0
  ·rw[if_pos c8] at H;have c8b0:(ag==0)=true:=beq_iff_eq.mpr c8;have c8b1:(ag !=0)=false:=bne_eq_false_iff_eq.mpr c8;clear c8;(first|rw[c8b0]|(simp only[i64_w,i32_w];rw[c8b0])|skip)
   by_cases c9:a1<1
   ·rw[if_pos c9] at H;have c9b0:=dt_ c9;clear c9;have H':=Z_ H;clear H;go_wp2;go_meet
    case rel=>exact⟨_,(true),(E1_),H',⟨L_⟩,⟨(blk_put (cs:= #[.int .i64 bv,.int .i64 ah,.string bG,.string dm,.string (⟨#[]⟩:ByteArray)]) (blk_put (cs:= #[.int .i64 bv,.int .i64 ah,.string bG,.string (⟨#[]⟩:ByteArray),.string (⟨#[]⟩:ByteArray)]) (blk_put (cs:= #[.int .i64 bv,.int .i64 ah,.string (⟨#[]⟩:ByteArray),.string (⟨#[]⟩:ByteArray),.string (⟨#[]⟩:ByteArray)]) (blk_put (cs:= #[.int .i64 bv,.int .i64 0,.string (⟨#[]⟩:ByteArray),.string (⟨#[]⟩:ByteArray),.string (⟨#[]⟩:ByteArray)]) (blk_put (cs:= #[.int .i64 0,.int .i64 0,.string (⟨#[]⟩:ByteArray),.string (⟨#[]⟩:ByteArray),.string (⟨#[]⟩:ByteArray)]) (K_ aG) 0 _ rfl) 1 _ rfl) 2 _ rfl) 3 _ rfl) 4 _ rfl)⟩,⟨B_⟩⟩
   ·rw[if_neg c9] at H;have c9b0:=df_ c9;clear c9;have H':=Z_ H;clear H;go_wp2;go_meet
    case rel=>exact⟨_,(decide (a1>64)),(E1_),H',⟨L_⟩,⟨(blk_put (cs:= #[.int .i64 bv,.int .i64 ah,.string bG,.string dm,.string (⟨#[]⟩:ByteArray)]) (blk_put (cs:= #[.int .i64 bv,.int .i64 ah,.string bG,.string (⟨#[]⟩:ByteArray),.string (⟨#[]⟩:ByteArray)]) (blk_put (cs:= #[.int .i64 bv,.int .i64 ah,.string (⟨#[]⟩:ByteArray),.string (⟨#[]⟩:ByteArray),.string (⟨#[]⟩:ByteArray)]) (blk_put (cs:= #[.int .i64 bv,.int .i64 0,.string (⟨#[]⟩:ByteArray),.string (⟨#[]⟩:ByteArray),.string (⟨#[]⟩:ByteArray)]) (blk_put (cs:= #[.int .i64 0,.int .i64 0,.string (⟨#[]⟩:ByteArray),.string (⟨#[]⟩:ByteArray),.string (⟨#[]⟩:ByteArray)]) (K_ aG) 0 _ rfl) 1 _ rfl) 2 _ rfl) 3 _ rfl) 4 _ rfl)⟩,⟨B_⟩⟩
  ·rw[if_neg c8] at H;have c8b0:(ag==0)=false:=beq_eq_false_iff_ne.mpr c8;have c8b1:(ag !=0)=true:=bne_iff_ne.mpr c8;(first|rw[c8b0]|(simp only[i64_w,i32_w];rw[c8b0])|skip);have H':=Z_ H;clear H;go_wp2;go_meet
   case rel=>exact⟨_,(true),(E1_),H',⟨L_⟩,⟨(blk_put (cs:= #[.int .i64 bv,.int .i64 ah,.string bG,.string dm,.string (⟨#[]⟩:ByteArray)]) (blk_put (cs:= #[.int .i64 bv,.int .i64 ah,.string bG,.string (⟨#[]⟩:ByteArray),.string (⟨#[]⟩:ByteArray)]) (blk_put (cs:= #[.int .i64 bv,.int .i64 ah,.string (⟨#[]⟩:ByteArray),.string (⟨#[]⟩:ByteArray),.string (⟨#[]⟩:ByteArray)]) (blk_put (cs:= #[.int .i64 bv,.int .i64 0,.string (⟨#[]⟩:ByteArray),.string (⟨#[]⟩:ByteArray),.string (⟨#[]⟩:ByteArray)]) (blk_put (cs:= #[.int .i64 0,.int .i64 0,.string (⟨#[]⟩:ByteArray),.string (⟨#[]⟩:ByteArray),.string (⟨#[]⟩:ByteArray)]) (K_ aG) 0 _ rfl) 1 _ rfl) 2 _ rfl) 3 _ rfl) 4 _ rfl)⟩,⟨B_⟩⟩
 case rest=>
  clear En
  try clear c1
  try clear c2
  try clear p2
  try clear c8
  try clear c8b0
  try clear c8b1
  try clear c9
  try clear c9b0
  try clear kP
  try clear kQ
  try clear mg
  try clear oM
  try clear oN
  try clear kR
  try clear kS
  try clear mh
  try clear oO
  try clear oP
  obtain⟨kq,vD,rfl,HA,IB,aG,HB⟩:=hcut
  cases kq with
  |zero=>exact absurd HA.out (by simp[file_Encode.j0])
  |succ EY=>
   have H:=HA.out;clear HA;simp only[file_Encode.j0] at H
   by_cases c10:vD=true
   ·subst c10;rw[if_pos rfl] at H;simp only[Option.some.injEq,Prod.mk.injEq] at H;obtain⟨rfl,rfl⟩:=H;go_wp2;go_ret2;exact⟨E_,B_⟩
   ·replace c10:=Bool.eq_false_iff.mpr c10;subst c10;rw[if_neg (show ¬(false=true) by decide)] at H;replace H:=Ob_ H;obtain⟨aM,pY,H⟩:=H;(try dsimp only at H);have EW:=Z_ pY;clear pY
    by_cases c12:aM=0
    ·rw[if_pos c12] at H;exact absurd H (by simp)
    ·rw[if_neg c12] at H;have c12b0:(aM==0)=false:=beq_eq_false_iff_ne.mpr c12;have c12b1:(aM !=0)=true:=bne_iff_ne.mpr c12;have H':=Z_ H;clear H;have gL:=cz_ aG 0;have gM:=cz_ aG 1;have nU:=cz_ aG 2;have tH:=cz_ aG 3;have tJ:=cz_ aG 4;have gN:=fz_ aG 0;have gP:=fz_ aG 1;have nV:=fz_ aG 2;have tK:=fz_ aG 3;have tL:=fz_ aG 4
     try go_wp2_with (first|(refine G_ 31 Tryz.func29 #[.agg #[.int .i64 bv,.int .i64 ah]] ?_;refine(pcm_Frame.calls bv ah aM _ EW.out).mono ?_;rintro e yN ⟨rfl,hb⟩;refine⟨_,rfl,?_⟩;replace aG:=Z_ (blk_below (K_ aG) hb);replace HB:=Hb_ hb;(try clear hb)))
     replace aG:=Z_ (blk_drew aG.out);replace HB:=Z_ (below_drew1 HB.out);refine start_ (n:=15) (S:=fun w'=>w'.cell? ⟨fG,0,none⟩=some (.int .i64 bv)∧w'.cell? ⟨fG,1,none⟩=some (.int .i64 ah)∧w'.cell? ⟨fG,2,none⟩=some (.string bG)∧w'.cell? ⟨fG,3,none⟩=some (.string dm)∧w'.cell? ⟨fG,4,none⟩=some (.string t105)) (ds:= []) #[false,false,false,false,false,false,false,false,false,false,false,false,false,false,false] (by kernel_rfl) rfl rfl ⟨(blk_cell aG.out 0).trans rfl,(blk_cell aG.out 1).trans rfl,(blk_cell aG.out 2).trans rfl,(blk_cell aG.out 3).trans rfl,(blk_cell aG.out 4).trans rfl⟩ (fun hHeld=>?_);refine with_tabW file_Encode.tab5 file_Encode.bits5 (fun HT_ HW_=>?_);generalize yN.drew=nX at aG HB hHeld ⊢;refine P_ 0 32 ?_;refine P_ 2 34 ?_;refine P_ 3 35 ?_;refine P_ 6 38 ?_;refine P_ 8 40 ?_;refine P_ 10 42 ?_;refine T_ 1 33 (y:=by rintro w' ⟨s0,s1,s2,s3,s4⟩;go_simp;with_reducible rfl) (h:=?_);refine T_ 4 36 (y:=by rintro w' ⟨s0,s1,s2,s3,s4⟩;go_simp;with_reducible rfl) (h:=?_);refine P_ 5 37 ?_;refine P_ 7 39 ?_;refine T_ 9 41 (y:=by rintro w' ⟨s0,s1,s2,s3,s4⟩;go_simp;with_reducible rfl) (h:=?_);refine T_ 11 43 (y:=by rintro w' ⟨s0,s1,s2,s3,s4⟩;go_simp;with_reducible rfl) (h:=?_);refine P_ 12 44 ?_;refine O_ 13 9 fun K hK=>?_
     refine box_step ?hg (N:=9) ?hd (cs:= #[.int .i64 0,.int .i64 0,.int .i64 0,.int .i64 0,.string (⟨#[]⟩:ByteArray),.string (⟨#[]⟩:ByteArray),.slice none 0 0]) (t:=49) ?hr ?_;(case hd=>rfl);(case hg=>rfl);(case hr=>first|(go_simp;done)|(go_simp;rfl));intro aY hg w16 hbox hb;have ay:=Z_ (hbox);have BO:=Z_ ((G2_ hg:w.heap.size≤_));have H8:=Z_ ((G2_ hg:w.heap.size≤_));replace HB:=Hb_ hb;have au:=Z_ ((by rw[hg];exact Nat.ne_of_lt (blk_lt (g:=fG) (o:= .cells #[.int .i64 bv,.int .i64 ah,.string bG,.string dm,.string t105] 57 (0,0)) (K_ aG)):fG≠aY));have dE:=Z_ ((by rw[hg];exact Nat.ne_of_gt (blk_lt (g:=fG) (o:= .cells #[.int .i64 bv,.int .i64 ah,.string bG,.string dm,.string t105] 57 (0,0)) (K_ aG)):aY≠fG));replace aG:=Z_ (blk_below (K_ aG) hb);clear hb hbox hg;refine hK.out _ _ ⟨(blk_cell aG.out 0).trans rfl,(blk_cell aG.out 1).trans rfl,(blk_cell aG.out 2).trans rfl,(blk_cell aG.out 3).trans rfl,(blk_cell aG.out 4).trans rfl⟩ (fun hHeld=>?_);clear hK K;refine Nm_ 9 ?_;refine one_ (i:=14) (N:=none) #[true,true,true,true,true,true,true,true,true,true,true,true,true,true,true] rfl rfl (one_of HT_.out (by kernel_rfl)) (by decide) (fun K hK=>?_);have Wx:w16.cell? ⟨aY,0,none⟩=some (.int .i64 0):=(blk_cell ay.out 0).trans rfl;have Uv:=blk_frozen ay.out 0;have ND:=au.out;have NE:=dE.out;have Qj:w16.cell? ⟨aY,1,none⟩=some (.int .i64 0):=(blk_cell ay.out 1).trans rfl;have Gq:=blk_frozen ay.out 1;have NF:=au.out;have NG:=dE.out;have F4:w16.cell? ⟨aY,2,none⟩=some (.int .i64 0):=(blk_cell ay.out 2).trans rfl;have Bl:=blk_frozen ay.out 2;have zw:=au.out;have zy:=dE.out;have Wy:w16.cell? ⟨aY,3,none⟩=some (.int .i64 0):=(blk_cell ay.out 3).trans rfl;have Uw:=blk_frozen ay.out 3;have NH:=au.out;have NJ:=dE.out;have Wz:w16.cell? ⟨aY,4,none⟩=some (.string (⟨#[]⟩:ByteArray)):=(blk_cell ay.out 4).trans rfl;have Ux:=blk_frozen ay.out 4;have NK:=au.out;have NL:=dE.out;have WA:w16.cell? ⟨aY,5,none⟩=some (.string (⟨#[]⟩:ByteArray)):=(blk_cell ay.out 5).trans rfl;have Uy:=blk_frozen ay.out 5;have NM:=au.out;have NP:=dE.out;have WB:w16.cell? ⟨aY,6,none⟩=some (.slice none 0 0):=(blk_cell ay.out 6).trans rfl;have Uz:=blk_frozen ay.out 6;have NQ:=au.out;have NR:=dE.out;refine skip_ (w1:=?_) (by rfl) rfl ?_ ?_;rotate_left
     ·go_simp
      rfl
     refine hK.out _ _ ⟨((cell_far (p:=⟨aY,_,none⟩) au.out _).trans (((cell_far (p:=⟨aY,_,none⟩) au.out _).trans (((cell_far (p:=⟨aY,_,none⟩) au.out _).trans (((cell_far (p:=⟨aY,_,none⟩) au.out _).trans (((cell_far (p:=⟨aY,_,none⟩) au.out _).trans (((cell_far (p:=⟨aY,_,none⟩) au.out _).trans (((cell_far (p:=⟨aY,_,none⟩) au.out _).trans (hHeld.1)))))))))))))),((cell_far (p:=⟨aY,_,none⟩) au.out _).trans (((cell_far (p:=⟨aY,_,none⟩) au.out _).trans (((cell_far (p:=⟨aY,_,none⟩) au.out _).trans (((cell_far (p:=⟨aY,_,none⟩) au.out _).trans (((cell_far (p:=⟨aY,_,none⟩) au.out _).trans (((cell_far (p:=⟨aY,_,none⟩) au.out _).trans (((cell_far (p:=⟨aY,_,none⟩) au.out _).trans (hHeld.2.1)))))))))))))),((cell_far (p:=⟨aY,_,none⟩) au.out _).trans (((cell_far (p:=⟨aY,_,none⟩) au.out _).trans (((cell_far (p:=⟨aY,_,none⟩) au.out _).trans (((cell_far (p:=⟨aY,_,none⟩) au.out _).trans (((cell_far (p:=⟨aY,_,none⟩) au.out _).trans (((cell_far (p:=⟨aY,_,none⟩) au.out _).trans (((cell_far (p:=⟨aY,_,none⟩) au.out _).trans (hHeld.2.2.1)))))))))))))),((cell_far (p:=⟨aY,_,none⟩) au.out _).trans (((cell_far (p:=⟨aY,_,none⟩) au.out _).trans (((cell_far (p:=⟨aY,_,none⟩) au.out _).trans (((cell_far (p:=⟨aY,_,none⟩) au.out _).trans (((cell_far (p:=⟨aY,_,none⟩) au.out _).trans (((cell_far (p:=⟨aY,_,none⟩) au.out _).trans (((cell_far (p:=⟨aY,_,none⟩) au.out _).trans (hHeld.2.2.2.1)))))))))))))),((cell_far (p:=⟨aY,_,none⟩) au.out _).trans (((cell_far (p:=⟨aY,_,none⟩) au.out _).trans (((cell_far (p:=⟨aY,_,none⟩) au.out _).trans (((cell_far (p:=⟨aY,_,none⟩) au.out _).trans (((cell_far (p:=⟨aY,_,none⟩) au.out _).trans (((cell_far (p:=⟨aY,_,none⟩) au.out _).trans (((cell_far (p:=⟨aY,_,none⟩) au.out _).trans (hHeld.2.2.2.2))))))))))))))⟩ (fun hHeld=>?_);clear hK K;refine done_ (done_of HT_.out (by kernel_rfl)) ?_
     try go_wp2
     go_loopg [10] EY (fun kq v10 w'=>∃(dK:Int) (dF:List ByteArray) (u110006:Value),v10= .int .i64 dK∧Aside0 (file_Encode.l0 kq a1 aM dK bv ah bG dm t105 bv ah a1 (wrap64 ((dm.size:Int) / aM)) bG t105 dF=some (r1,r2))∧Aside0 (kq≤EY)∧Aside0 (Kd.R Kd.string 9 w' w.heap.size (fun _=>True) u110006 dF)∧Aside0 (w'.heap[fG]?=some (.cells #[.int .i64 bv,.int .i64 ah,.string bG,.string dm,.string t105] 57 (0,0)))∧Aside0 (w'.heap[aY]?=some (.cells #[.int .i64 bv,.int .i64 ah,.int .i64 a1,.int .i64 (wrap64 ((dm.size:Int) / aM)),.string bG,.string t105,u110006] 49 (0,0)))∧Aside0 (Below w.heap.size w w'))
     case atStart=>exact⟨(0),(([]:List ByteArray)),(.slice none 0 0),(E1_),H',⟨Nat.le_refl _⟩,⟨by first|exact Kd.R_nil _ _ _ _ _|exact Kd.N_nil _ _ _ _ _|exact Kd.V_nil _ _ _ _ _|exact Kd.Q_nil _ _ _ _ _|exact Kd.S_nil _ _ _ _ _⟩,⟨(blk_far (blk_far (blk_far (blk_far (blk_far (blk_far (blk_far (K_ aG) au.out _) au.out _) au.out _) au.out _) au.out _) au.out _) au.out _)⟩,⟨(blk_put (cs:= #[.int .i64 bv,.int .i64 ah,.int .i64 a1,.int .i64 (wrap64 ((dm.size:Int) / aM)),.string bG,.string t105,.slice none 0 0]) (blk_put (cs:= #[.int .i64 bv,.int .i64 ah,.int .i64 a1,.int .i64 (wrap64 ((dm.size:Int) / aM)),.string bG,.string (⟨#[]⟩:ByteArray),.slice none 0 0]) (blk_put (cs:= #[.int .i64 bv,.int .i64 ah,.int .i64 a1,.int .i64 (wrap64 ((dm.size:Int) / aM)),.string (⟨#[]⟩:ByteArray),.string (⟨#[]⟩:ByteArray),.slice none 0 0]) (blk_put (cs:= #[.int .i64 bv,.int .i64 ah,.int .i64 a1,.int .i64 0,.string (⟨#[]⟩:ByteArray),.string (⟨#[]⟩:ByteArray),.slice none 0 0]) (blk_put (cs:= #[.int .i64 bv,.int .i64 ah,.int .i64 0,.int .i64 0,.string (⟨#[]⟩:ByteArray),.string (⟨#[]⟩:ByteArray),.slice none 0 0]) (blk_put (cs:= #[.int .i64 bv,.int .i64 0,.int .i64 0,.int .i64 0,.string (⟨#[]⟩:ByteArray),.string (⟨#[]⟩:ByteArray),.slice none 0 0]) (blk_put (cs:= #[.int .i64 0,.int .i64 0,.int .i64 0,.int .i64 0,.string (⟨#[]⟩:ByteArray),.string (⟨#[]⟩:ByteArray),.slice none 0 0]) (K_ ay) 0 _ rfl) 1 _ rfl) 2 _ rfl) 3 _ rfl) 4 _ rfl) 5 _ rfl) 6 _ rfl)⟩,⟨B_⟩⟩
     case round=>
      clear H'
      try clear c1
      try clear c2
      try clear p2
      try clear p6
      try clear c8
      try clear c8b0
      try clear c8b1
      try clear c9
      try clear c9b0
      try clear c10
      try clear c12
      try clear c12b0
      try clear c12b1
      try clear gL
      try clear gM
      try clear nU
      try clear tH
      try clear tJ
      try clear kP
      try clear kQ
      try clear mg
      try clear oM
      try clear oN
      try clear gN
      try clear gP
      try clear nV
      try clear tK
      try clear tL
      try clear kR
      try clear kS
      try clear mh
      try clear oO
      try clear oP
      try clear p2
      obtain⟨dK,dF,u110006,rfl,HA,iq,HO_110006,aG,ay,HB⟩:=hrel
      cases gk with
      |zero=>exact absurd HA.out (by simp[file_Encode.l0])
      |succ k2=>
       have H:=HA.out;clear HA;simp only[file_Encode.l0] at H
       by_cases c24:dK<(dm.size:Int)
       ·rw[if_pos c24] at H;have c24b0:=dt_ c24;clear c24;obtain⟨yF,vE⟩:∃j_:Int,(mn (wrap64 (dK+(wrap64 (a1*aM)))) (dm.size:Int))=j_:=⟨_,rfl⟩;(first|rw[vE] at H|simp only[vE] at H);have Rx:(if(dm.size:Int)<(wrap64 (dK+(wrap64 (a1*aM)))) then(dm.size:Int) else(wrap64 (dK+(wrap64 (a1*aM)))))=yF:=vE
        by_cases o6:0≤dK
        ·rw[if_pos o6] at H;have c26b0:=eq_true o6;have c26b1:=dt_ o6;clear o6
         by_cases jI:dK≤(yF)
         ·rw[if_pos jI] at H;have c27b0:=eq_true jI;have c27b1:=dt_ jI;clear jI
          by_cases c28:(yF)≤(dm.size:Int)
          ·rw[if_pos c28] at H;have c28b0:=eq_true c28;have c28b1:=dt_ c28;clear c28;replace H:=Ob_ H;obtain⟨⟨iQ,kC⟩,yf,H⟩:=H;(try dsimp only at H);have KA:=Z_ yf;clear yf
           by_cases lJ:dF.length<8796093022208
           ·rw[if_pos lJ] at H;have xq:=Z_ lJ;clear lJ;obtain⟨y112,hy112⟩:∃y_:List ByteArray,y_=(dF++ [iQ]):=⟨_,rfl⟩;replace H:(file_Encode.l0 k2 a1 aM (wrap64 (dK+(wrap64 (a1*aM)))) bv ah bG dm t105 bv ah a1 (wrap64 ((dm.size:Int) / aM)) bG t105 y112)=some (r1,r2):=by first|(rw[hy112];with_reducible exact H)|(have bS:=(bs_ _ _).symm.trans H;rw[hy112];with_reducible exact bS)|(have bS:=(bs_ _ _).symm.trans H;with_reducible exact bS)|with_reducible exact H|(rw[hy112];exact H)|exact H
            have IY:=Z_ hy112;clear hy112;have H':=Z_ H;clear H;have Gs:=au.out;have Gt:=dE.out;have nZ:=cz_ aG 0;have oh:=cz_ aG 1;have NS:=cz_ aG 2;have NU:=cz_ aG 3;have NV:=cz_ aG 4;have ol:=fz_ aG 0;have om:=fz_ aG 1;have NY:=fz_ aG 2;have NZ:=fz_ aG 3;have N7:=fz_ aG 4
            try go_wp2
            replace HO_110006:=Z_ (Kd.R_drew HO_110006.out);replace aG:=Z_ (blk_drew aG.out);replace ay:=Z_ (blk_drew ay.out);replace HB:=Z_ (below_drew1 HB.out);refine start_ (n:=21) (S:=fun w'=>w'.cell? ⟨fG,0,none⟩=some (.int .i64 bv)∧w'.cell? ⟨fG,1,none⟩=some (.int .i64 ah)∧w'.cell? ⟨fG,2,none⟩=some (.string bG)∧w'.cell? ⟨fG,3,none⟩=some (.string dm)∧w'.cell? ⟨fG,4,none⟩=some (.string t105)) (ds:= []) #[false,false,false,false,false,false,false,false,false,false,false,false,false,false,false,false,false,false,false,false,false] (by kernel_rfl) rfl rfl ⟨(blk_cell aG.out 0).trans rfl,(blk_cell aG.out 1).trans rfl,(blk_cell aG.out 2).trans rfl,(blk_cell aG.out 3).trans rfl,(blk_cell aG.out 4).trans rfl⟩ (fun hHeld=>?_);refine with_tabW file_Encode.tab9 file_Encode.bits9 (fun HT_ HW_=>?_);generalize wr.drew=xu at HO_110006 aG ay HB hHeld ⊢;refine P_ 0 56 ?_;refine P_ 2 58 ?_;refine P_ 3 59 ?_;refine P_ 4 60 ?_;refine P_ 5 61 ?_;refine P_ 6 62 ?_;refine P_ 7 63 ?_;refine P_ 8 64 ?_;refine P_ 13 69 ?_;refine T_ 1 57 (y:=by rintro w' ⟨s0,s1,s2,s3,s4⟩;go_simp;with_reducible rfl) (h:=?_);refine T_ 9 65 (y:=by rintro w' ⟨s0,s1,s2,s3,s4⟩;go_simp;with_reducible rfl) (h:=?_);refine P_ 10 66 ?_;refine P_ 11 67 ?_;refine P_ 12 68 ?_;refine T_ 14 70 (y:=by rintro w' ⟨s0,s1,s2,s3,s4⟩;go_simp;with_reducible rfl) (h:=?_);refine O_ 15 71 fun K hK=>?_
            refine goes_ Tryz.func21 (by kernel_rfl) rfl #[.string (dm.extract (dK:Int).toNat ((yF):Int).toNat),.agg #[.int .i64 bv,.int .i64 ah]] (by rfl) rfl rfl (by(try simp only[List.map_toArray,List.map_cons,List.map_nil]);first|done|(simp only[vE];rfl)|rfl|(simp only[List.length_drop,List.length_take];rfl)) ?_
            with_reducible refine(segment_Put.calls k2 (dm.extract (dK:Int).toNat ((yF):Int).toNat) bv ah iQ kC _ KA.out).mono ?_
            rintro e EM ⟨rfl,hb⟩;refine⟨_,rfl,?_⟩;replace HO_110006:=Z_ (Kd.R_below (R_ HO_110006) hb);replace aG:=Z_ (blk_below (K_ aG) hb);replace ay:=Z_ (blk_below (K_ ay) hb);replace HB:=Hb_ hb;(try clear hb);(try clear hb2);(try clear hk);(try clear hi);refine hK.out _ _ ⟨(blk_cell aG.out 0).trans rfl,(blk_cell aG.out 1).trans rfl,(blk_cell aG.out 2).trans rfl,(blk_cell aG.out 3).trans rfl,(blk_cell aG.out 4).trans rfl⟩ (fun hHeld=>?_);clear hK K;refine Nm_ 71 ?_;refine P_ 16 55 ?_;refine P_ 17 72 ?_;refine P_ 18 73 ?_;refine P_ 19 11 ?_;refine P_ 20 12 ?_;refine done_ (done_of HT_.out (by kernel_rfl)) ?_;have uU:=cz_ ay 0;have uV:=cz_ ay 1;have uW:=cz_ ay 2;have N8:=cz_ ay 3;have N9:=cz_ ay 4;have Oa:=cz_ ay 5;have Ob:=cz_ ay 6;have uX:=fz_ ay 0;have uY:=fz_ ay 1;have uZ:=fz_ ay 2;have Oc:=fz_ ay 3;have Od:=fz_ ay 4;have Oe:=fz_ ay 5;have Og:=fz_ ay 6
            try go_wp2_with (first|((with_reducible refine gate_builtin (b:= .append) (xs:= #[.tmp 75,.tmp 77]) rfl ?_);at_builtin;refine Kd.R_append Kd.string (w0:=w) w.heap.size rfl (.tmp 75) (.tmp 77) 47 9 (.string ⟨#[]⟩) 16 rfl Tryz.underlying47 info9 rfl (by decide) (by omega) u110006 dF iQ [.string iQ] (fun _=>True) (fun _=>False) rfl rfl ?aP (fun _ hk=>hk.elim) ?aF ?aO ?aB ?aS ?aL ?_;(case aP=>exact rfl);(case aB=>exact B_);(case aF=>exact(fun _ _=>trivial));(case aO=>exact(R_ HO_110006));(case aS=>exact(below_size B_));(case aL=>have:=xq.out;omega);intro WC Tn ho hb hg hat;rw[←IY.out] at ho;replace aG:=Z_ (blk_grown (g:=fG) (o:= .cells #[.int .i64 bv,.int .i64 ah,.string bG,.string dm,.string t105] 57 (0,0)) (K_ aG) hg (Kd.R_ne HO_110006.out aG.out (by decide)));replace ay:=Z_ (blk_grown (g:=aY) (o:= .cells #[.int .i64 bv,.int .i64 ah,.int .i64 a1,.int .i64 (wrap64 ((dm.size:Int) / aM)),.string bG,.string t105,u110006] 49 (0,0)) (K_ ay) hg (Kd.R_ne HO_110006.out ay.out (by decide)));replace HB:=Z_ (hb);have Ce:=Z_ (ho);clear HO_110006;clear ho hb hg hat;obtain⟨IZ,I1,Ry⟩:=Kd.R_slice Ce.out;subst Ry;have yP:=cz_ ay 0;have yQ:=cz_ ay 1;have Oh:=cz_ ay 2;have Oi:=cz_ ay 3;have Oj:=cz_ ay 4;have Ol:=cz_ ay 5;have Om:=cz_ ay 6;have yR:=fz_ ay 0;have yS:=fz_ ay 1;have Oo:=fz_ ay 2;have Oq:=fz_ ay 3;have Ot:=fz_ ay 4;have Ou:=fz_ ay 5;have Ov:=fz_ ay 6))
            go_roundg k2
            case measure=>have:=IB.out;have:=iq.out;omega
            case rel=>exact⟨(wrap64 (dK+(wrap64 (a1*aM)))),(y112),(.slice IZ y112.length I1),(E1_),H',⟨by have:=IB.out;have:=iq.out;omega⟩,⟨by(with_reducible repeat (first|apply Kd.R_alloc|apply Kd.R_drewN|apply Kd.R_drew));exact Kd.R_mono (Kd.R_far (p:=⟨aY,6,none⟩) (Kd.R_types Ce.out ay.out (by decide)) (fun _ hk=>hk.2) (.slice IZ y112.length I1)) (fun _ hk=>trivial)⟩,⟨(blk_far (K_ aG) au.out _)⟩,⟨(blk_put (cs:= #[.int .i64 bv,.int .i64 ah,.int .i64 a1,.int .i64 (wrap64 ((dm.size:Int) / aM)),.string bG,.string t105,u110006]) (K_ ay) 6 _ rfl)⟩,⟨B_⟩⟩
           ·rw[if_neg lJ] at H;exact absurd H (by simp)
          ·rw[if_neg c28] at H;exact absurd H (by simp)
         ·rw[if_neg jI] at H;exact absurd H (by simp)
        ·rw[if_neg o6] at H;exact absurd H (by simp)
       ·rw[if_neg c24] at H;have c24b0:=df_ c24;clear c24;replace H:=Ob_ H;obtain⟨⟨AA,t116⟩,xZ,H⟩:=H;(try dsimp only at H);have Kz:=Z_ xZ;clear xZ
        by_cases c40:t116=0
        ·rw[if_pos c40] at H;have c40b0:(t116==0)=true:=beq_iff_eq.mpr c40;have c40b1:(t116 !=0)=false:=bne_eq_false_iff_eq.mpr c40;clear c40;simp only[Option.some.injEq,Prod.mk.injEq] at H;obtain⟨rfl,rfl⟩:=H;have UA:=au.out;have UC:=dE.out;have Ow:=cz_ aG 0;have Ox:=cz_ aG 1;have Oy:=cz_ aG 2;have Oz:=cz_ aG 3;have OA:=cz_ aG 4;have OB:=fz_ aG 0;have OC:=fz_ aG 1;have OD:=fz_ aG 2;have OE:=fz_ aG 3;have OG:=fz_ aG 4;have OH:=cz_ ay 0;have OI:=cz_ ay 1;have OJ:=cz_ ay 2;have OL:=cz_ ay 3;have OM:=cz_ ay 4;have OO:=cz_ ay 5;have OP:=cz_ ay 6;have OQ:=fz_ ay 0;have OT:=fz_ ay 1;have OU:=fz_ ay 2;have OV:=fz_ ay 3;have OW:=fz_ ay 4;have OX:=fz_ ay 5;have OY:=fz_ ay 6;obtain⟨DJ,DK,Ai⟩:=Kd.R_slice HO_110006.out;subst Ai
         go_wp2_with (first|(refine G_ 82 Tryz.func23 #[.agg #[.int .i64 bv,.int .i64 ah,.int .i64 a1,.int .i64 (wrap64 ((dm.size:Int) / aM)),.string bG,.string t105,.slice DJ dF.length DK]] ?_;refine(stream_Put.calls bv ah a1 (wrap64 ((dm.size:Int) / aM)) bG t105 _ _ dF AA t116 _ (C_ (Kd.R_reads' HO_110006.out).2.2) ((Kd.R_reads' HO_110006.out).2.1) Kz.out).mono ?_;rintro e V7 ⟨rfl,hb⟩;refine⟨_,rfl,?_⟩;replace HO_110006:=Z_ (Kd.R_below (R_ HO_110006) hb);replace aG:=Z_ (blk_below (K_ aG) hb);replace ay:=Z_ (blk_below (K_ ay) hb);replace HB:=Hb_ hb;(try clear hb)))
         go_ret2;exact⟨E_,B_⟩
        ·rw[if_neg c40] at H;have c40b0:(t116==0)=false:=beq_eq_false_iff_ne.mpr c40;have c40b1:(t116 !=0)=true:=bne_iff_ne.mpr c40;simp only[Option.some.injEq,Prod.mk.injEq] at H;obtain⟨rfl,rfl⟩:=H;have UD:=au.out;have UE:=dE.out;have OZ:=cz_ aG 0;have O0:=cz_ aG 1;have O3:=cz_ aG 2;have O4:=cz_ aG 3;have O5:=cz_ aG 4;have O6:=fz_ aG 0;have O7:=fz_ aG 1;have O8:=fz_ aG 2;have O9:=fz_ aG 3;have Pb:=fz_ aG 4;have Pd:=cz_ ay 0;have Pe:=cz_ ay 1;have Pf:=cz_ ay 2;have Pg:=cz_ ay 3;have Ph:=cz_ ay 4;have Pi:=cz_ ay 5;have Pj:=cz_ ay 6;have Pk:=fz_ ay 0;have Pm:=fz_ ay 1;have Pn:=fz_ ay 2;have Po:=fz_ ay 3;have Pp:=fz_ ay 4;have Pq:=fz_ ay 5;have Ps:=fz_ ay 6;obtain⟨Rz,RD,RF⟩:=Kd.R_slice HO_110006.out;subst RF
         go_wp2_with (first|(refine G_ 82 Tryz.func23 #[.agg #[.int .i64 bv,.int .i64 ah,.int .i64 a1,.int .i64 (wrap64 ((dm.size:Int) / aM)),.string bG,.string t105,.slice Rz dF.length RD]] ?_;refine(stream_Put.calls bv ah a1 (wrap64 ((dm.size:Int) / aM)) bG t105 _ _ dF AA t116 _ (C_ (Kd.R_reads' HO_110006.out).2.2) ((Kd.R_reads' HO_110006.out).2.1) Kz.out).mono ?_;rintro e Xv ⟨rfl,hb⟩;refine⟨_,rfl,?_⟩;replace HO_110006:=Z_ (Kd.R_below (R_ HO_110006) hb);replace aG:=Z_ (blk_below (K_ aG) hb);replace ay:=Z_ (blk_below (K_ ay) hb);replace HB:=Hb_ hb;(try clear hb)))
         go_ret2;exact⟨E_,B_⟩
end Go.Proofs.YtfghldonnffldaaGreatDoor.QSix
namespace Go.Proofs.YtfghldonnffldaaGreatDoor.HNin
open Go.RowKit TBase UOne VTwo XThr YtfghldonnffldaaGreatDoorW.PrintWords YtfghldonnffldaaGreatDoorW.PrintLast YtfghldonnffldaaGreatDoorW.PrintMore
attribute [local go_sem] max2_int min2_int max_two min_two max_three min_three max_four min_four
theorem info3:(Tryz.prog.info? 3).map (fun i=>(i.zero,i.size,i.bytes))=some (some (.int .i64 0),1,8):=by kernel_rfl
theorem info36:(Tryz.prog.info? 36).map (fun i=>(i.zero,i.size,i.bytes))=some (some (.slice none 0 0),1,24):=by kernel_rfl
def rd_L1(xs:List (List Int))(i:Int):(List Int):=xs.getD i.toNat ([]:List Int)
theorem at_L1{w:World}{A:Option Addr}{n:Nat}{xs:List (List Int)}(h:Kd.C (Kd.slice 3 (Kd.int .i64)) w A n xs)(i:Int)(h0:0≤i)(h1:i<n):∃ad A0 c0,A=some ad∧w.cell? (ad.add i.toNat)=some (.slice A0 (rd_L1 xs i).length c0)∧(rd_L1 xs i).length≤c0∧(Kd.int .i64).C w A0 (rd_L1 xs i).length (rd_L1 xs i):=by
 obtain⟨ad,c,e,_,hK,hc0⟩:=Kd.C_get h ([]:List Int) i h0 h1;have hc:∀j u,c[j]?=some u→w.cell? (ad.add (i.toNat*1+j))=some u:=hc0;obtain⟨A0,c0,rfl,l0,g0⟩:=hK;exact⟨ad,A0,c0,e,by have hq:=hc 0 _ rfl;rwa [Nat.mul_one,Nat.add_zero] at hq,l0,g0⟩
mutual
noncomputable def segment_frames.l0:Nat→Int→Int→List Int→List (List Int)→Int→Int→Int→Int→Option (ByteArray)
 |0,_,_,_,_,_,_,_,_=>none
 |k+1,x2,x3,x9,Cf,x30,x31,kK,kL=>if x31<x30 then(if 0≤(wrap64 (x31*x3)) then(if(wrap64 (x31*x3))≤(wrap64 ((wrap64 (x31+1))*x3)) then(if(wrap64 ((wrap64 (x31+1))*x3))≤(x9.length:Int) then((line_Get.f ((x9.take ((wrap64 ((wrap64 (x31+1))*x3)):Int).toNat).drop ((wrap64 (x31*x3)):Int).toNat)).bind fun iC=>(if Cf.length<5864062014805 then(segment_frames.l0 k x2 x3 x9 (Cf++ [iC.1]) x30 (wrap64 (x31+1)) kK kL) else(none))) else(none)) else(none)) else(none)) else((side_Get.f k Cf).bind fun Cg=>(segment_frames.l1 k x2 Cg.1 (Cg.1.length:Int) 0 kK kL))
noncomputable def segment_frames.l1:Nat→Int→List (List Int)→Int→Int→Int→Int→Option (ByteArray)
 |0,_,_,_,_,_,_=>none
 |k+1,x2,Cf,xR,E5,kK,kL=>if E5<xR then(if 0≤E5 then(if E5<(Cf.length:Int) then((shift_Up.f k (rd_L1 Cf E5) x2).bind fun I4=>(segment_frames.l1 k x2 (Cf.set (E5:Int).toNat I4.1) xR (wrap64 (E5+1)) kK kL)) else(none)) else(none)) else((pcm_Put.f k Cf kK kL).bind fun I5=>(some I5.1))
end
noncomputable def segment_frames.f(k:Nat)(a0:ByteArray)(av:Int)(aA:Int)(a2:Int)(a3:Int):Option (ByteArray):=(residual_Get.f a0 (wrap64 (a3*av))).bind fun dA=>(if dA.2=0 then(segment_frames.l0 k a2 a3 dA.1 ([]:List (List Int)) av 0 av aA) else(some (⟨#[]⟩:ByteArray)))
theorem segment_frames.calls(k:Nat)(a0:ByteArray)(av:Int)(aA:Int)(a2:Int)(a3:Int)(r:ByteArray)(w:World)(h:segment_frames.f k a0 av aA a2 a3=some r)(hT:Tabs w:=by exact Tabs.below hT B_):
  Calls Tryz.prog 94 #[.string a0,.agg #[.int .i64 av,.int .i64 aA],.int .i64 a2,.int .i64 a3] w fun e w'=>e= .returned (.string r)∧Below w.heap.size w w':=by
 have fH:=Tryz.underlying23;have HB:=Z_ (Below.refl w.heap.size w);have H:((residual_Get.f a0 (wrap64 (a3*av))).bind fun dA=>(if dA.2=0 then(segment_frames.l0 k a2 a3 dA.1 ([]:List (List Int)) av 0 av aA) else(some (⟨#[]⟩:ByteArray))))=some r:=h;clear h;replace H:=Ob_ H;obtain⟨⟨ah,bG⟩,jR,H⟩:=H;(try dsimp only at H);have A5:=Z_ jR;clear jR
 by_cases c6:bG=0
 ·rw[if_pos c6] at H;have c6b0:(bG==0)=true:=beq_iff_eq.mpr c6;have c6b1:(bG !=0)=false:=bne_eq_false_iff_eq.mpr c6;clear c6;have H':=Z_ H;clear H
  go_enter Tryz.func94,Tryz.ntmps94
  go_wp2_with (first|(refine X_ 5 #[.int .i64 av,.int .i64 aA] 23 ?_;intro az hg w7 hbox hb;have aa:=Z_ (hbox);have iy:=Z_ (G2_ hg:w.heap.size≤_);have nu:=iy;replace HB:=Hb_ hb;clear hb hbox hg;have kV:=cz_ aa 0;have kW:=cz_ aa 1;have kX:=fz_ aa 0;have kY:=fz_ aa 1)|(refine G_ 24 Tryz.func120 #[.string a0,.int .i64 (wrap64 (a3*av))] ?_;refine(residual_Get.calls a0 (wrap64 (a3*av)) ah bG _ A5.out).mono ?_;rintro e w9 ⟨yl,rfl,ho0,hb⟩;refine⟨_,rfl,?_⟩;have dI:=Z_ (Kd.R_lower ho0 (below_size B_));replace aa:=Z_ (blk_below (K_ aa) hb);replace HB:=Hb_ hb;(try clear hb);(try clear ho0);have jV:=cz_ aa 0;have jW:=cz_ aa 1;have jX:=fz_ aa 0;have jY:=fz_ aa 1))
  go_loopg [11,31] k (fun kq v11 v31 w'=>∃(jD:List (List Int)) (eQ:Int),v31= .int .i64 eQ∧Aside0 (segment_frames.l0 kq a2 a3 ah jD av eQ av aA=some r)∧Aside0 (kq≤k)∧Aside0 (Kd.R (Kd.int .i64) 3 w' w.heap.size (fun _=>True) yl ah)∧Aside0 (Kd.S (Kd.slice 3 (Kd.int .i64)) 36 w' w.heap.size (fun k_=>some k_≠(yl:Value).ownBlock) v11 jD)∧Aside0 (w'.heap[az]?=some (.cells #[.int .i64 av,.int .i64 aA] 23 (0,0)))∧Aside0 (Below w.heap.size w w'))
  case atStart=>exact⟨(([]:List (List Int))),(0),(E1_),H',⟨Nat.le_refl _⟩,⟨R_ dI⟩,⟨by first|exact Kd.S_nil _ _ _ _ _|exact Kd.N_nil _ _ _ _ _|exact Kd.V_nil _ _ _ _ _|exact Kd.Q_nil _ _ _ _ _|exact Kd.R_nil _ _ _ _ _⟩,⟨(K_ aa)⟩,⟨B_⟩⟩
  case round=>
   clear H'
   try clear c1
   try clear p2
   try clear c6
   try clear c6b0
   try clear c6b1
   try clear p6
   try clear c9
   try clear jV
   try clear jW
   try clear kV
   try clear kW
   try clear jX
   try clear jY
   try clear kX
   try clear kY
   obtain⟨jD,eQ,rfl,HA,jb,HO_9,HO_11,aa,HB⟩:=hrel
   cases gk with
   |zero=>exact absurd HA.out (by simp[segment_frames.l0])
   |succ k1=>
    have H:=HA.out;clear HA;simp only[segment_frames.l0] at H
    by_cases c11:eQ<av
    ·rw[if_pos c11] at H;have c11b0:=dt_ c11;clear c11;obtain⟨gy,lG⟩:∃j_:Int,(wrap64 (eQ*a3))=j_:=⟨_,rfl⟩;(first|rw[lG] at H|simp only[lG] at H);have hji12w:(IntKind.i64.wrap (eQ*a3))=gy:=(i64_w _).trans lG
     by_cases c13:0≤(gy)
     ·rw[if_pos c13] at H;have c13b0:=eq_true c13;have c13b1:=dt_ c13;clear c13
      by_cases c14:(gy)≤(wrap64 ((wrap64 (eQ+1))*a3))
      ·rw[if_pos c14] at H;have c14b0:=eq_true c14;have c14b1:=dt_ c14
       by_cases c15:(wrap64 ((wrap64 (eQ+1))*a3))≤(ah.length:Int)
       ·rw[if_pos c15] at H;have c15b0:=eq_true c15;have c15b1:=dt_ c15;obtain⟨kz,ji⟩:∃y_:List Int,y_=((ah.take ((wrap64 ((wrap64 (eQ+1))*a3)):Int).toNat).drop ((gy):Int).toNat):=⟨_,rfl⟩;replace H:((line_Get.f kz).bind fun iC=>(if jD.length<5864062014805 then(segment_frames.l0 k1 a2 a3 ah (jD++ [iC.1]) av (wrap64 (eQ+1)) av aA) else(none)))=some r:=by first|(rw[ji];with_reducible exact H)|(have bS:=(bs_ _ _).symm.trans H;rw[ji];with_reducible exact bS)|(have bS:=(bs_ _ _).symm.trans H;with_reducible exact bS)|with_reducible exact H|(rw[ji];exact H)|exact H
        have qb:=Z_ ji;clear ji;replace H:=Ob_ H;obtain⟨⟨iQ,kC⟩,jZ,H⟩:=H;(try dsimp only at H);have yL:=Z_ jZ;clear jZ
        by_cases c17:jD.length<5864062014805
        ·rw[if_pos c17] at H;have I6:=Z_ c17;clear c17;obtain⟨y114,hy114⟩:∃y_:List (List Int),y_=(jD++ [iQ]):=⟨_,rfl⟩;replace H:(segment_frames.l0 k1 a2 a3 ah y114 av (wrap64 (eQ+1)) av aA)=some r:=by first|(rw[hy114];with_reducible exact H)|(have bS:=(bs_ _ _).symm.trans H;rw[hy114];with_reducible exact bS)|(have bS:=(bs_ _ _).symm.trans H;with_reducible exact bS)|with_reducible exact H|(rw[hy114];exact H)|exact H
         have I7:=Z_ hy114;clear hy114;have H':=Z_ H;clear H;obtain⟨rV,oU,RG⟩:=Kd.R_slice HO_9.out;subst RG;have I8:((wrap64 ((wrap64 (eQ+1))*a3)):Int)≤((ah.length:Int):Int):=od_ A_;obtain⟨WE,Ch,_,Ci,_⟩:=info_parts info3;have hroom18:ah.length≤oU:=(Kd.R_reads' HO_9.out).2.1;have I9:Kd.C (Kd.int .i64) _ rV ah.length ah:=(Kd.R_reads' HO_9.out).2.2;have RH:((gy):Int)≤((wrap64 ((wrap64 (eQ+1))*a3)):Int):=od_ A_;have Ja:(0:Int)≤((gy):Int):=od_ A_;have Ew:=cut_mid (P:=Tryz.prog) 36 3 .i64 .i64 Tryz.underlying36 Ch 1 Ci rV ah.length oU (gy) (wrap64 ((wrap64 (eQ+1))*a3)) Ja RH I8 hroom18;have yG:=Kd.C_mid (lo:=((gy):Int).toNat) (hi:=((wrap64 ((wrap64 (eQ+1))*a3)):Int).toNat) (c:=oU) I9 (by omega) (by omega) hroom18;obtain⟨RI,AP⟩:∃A1,A1=(if oU=((gy):Int).toNat then rV else(rV:Option Addr).map (·.add (((gy):Int).toNat*1))):=⟨_,rfl⟩;obtain⟨c18,hc18⟩:∃c1,c1=oU - ((gy):Int).toNat:=⟨_,rfl⟩;have AQ:kz.length=((wrap64 ((wrap64 (eQ+1))*a3)):Int).toNat - ((gy):Int).toNat:=(by rw[qb.out,List.length_drop,List.length_take]<;>omega);rw[show((ah).take ((wrap64 ((wrap64 (eQ+1))*a3)):Int).toNat).drop ((gy):Int).toNat=kz from qb.out.symm] at yG;replace yG:Kd.C (Kd.int .i64) _ RI kz.length kz:=(by rw[AP];exact yG);rw[←AQ,←AP,←hc18] at Ew;have vF:=Z_ yG;have Jb:=Z_ (show kz.length≤c18 from by rw[AQ,hc18];exact Nat.sub_le_sub_right (Nat.le_trans (by omega) hroom18) _);clear yG I9 hroom18 Ch Ci hc18;have WF:=Z_ AQ;have RJ:=Z_ AP;clear AQ AP;have RN:=Z_ (show((wrap64 ((wrap64 (eQ+1))*a3)):Int).toNat≤ah.length from by omega);have RP:=Z_ (show((gy):Int).toNat≤((wrap64 ((wrap64 (eQ+1))*a3)):Int).toNat from by omega);replace I8:=eq_true I8
         go_wp2_with (first|(refine G_ 44 Tryz.func121 #[.slice RI kz.length c18] ?_;refine(line_Get.calls _ _ kz iQ kC _ (C_ vF.out) Jb.out yL.out).mono ?_;rintro e nY ⟨Ho,rfl,ho0,hb⟩;refine⟨_,rfl,?_⟩;replace HO_11:=Z_ (Kd.S_elder' (S_ HO_11) (Kd.R_base ho0) hb);have ky:=Z_ (Kd.R_lower (Kd.R_new' ho0 (Kd.R_lt (R_ HO_9))) (below_size B_));replace HO_9:=Z_ (Kd.R_elder' (R_ HO_9) (Kd.R_base ho0) hb);replace aa:=Z_ (blk_below (K_ aa) hb);replace vF:=Z_ (Kd.C_below (C_ vF.out) hb);replace HB:=Hb_ hb;(try clear hb);(try clear ho0);obtain⟨Jc,Dx,Af⟩:=Kd.R_slice ky.out;subst Af)|((with_reducible refine gate_builtin (b:= .append) (xs:= #[.tmp 47,.tmp 49]) rfl ?_);at_builtin;refine Kd.S_append (Kd.slice 3 (Kd.int .i64)) (w0:=w) w.heap.size rfl (.tmp 47) (.tmp 49) 37 36 (.slice none 0 0) 24 rfl Tryz.underlying37 info36 rfl (by decide) (by omega) u11 jD iQ [.slice Jc iQ.length Dx] (fun k_=>some k_≠(.slice rV ah.length oU:Value).ownBlock) (fun k_=>some k_=(.slice Jc iQ.length Dx:Value).ownBlock) rfl rfl ?aP (fun k_ hk_=>((Kd.R_mono (ok':=fun k_=>((fun k_=>some k_≠(.slice rV ah.length oU:Value).ownBlock)) k_∧some k_≠(u11:Value).ownBlock) (Kd.R_apart' (ky.out) (Kd.S_typed HO_11.out) (by decide)) (fun k_ hk=>⟨hk.1.2,hk.2⟩))).1 k_ hk_.symm) ?aF ?aO ?aB ?aS ?aL ?_;(case aP=>exact Kd.M_row (Kd.R_mono (Kd.R_tight rfl (Kd.R_mono (ok':=fun k_=>((fun k_=>some k_≠(.slice rV ah.length oU:Value).ownBlock)) k_∧some k_≠(u11:Value).ownBlock) (Kd.R_apart' (ky.out) (Kd.S_typed HO_11.out) (by decide)) (fun k_ hk=>⟨hk.1.2,hk.2⟩))) (fun _ h_=>h_)));(case aB=>exact B_);(case aF=>exact(fun k_ hk=>Kd.fresh' (Kd.R_lt (R_ HO_9)) k_ hk));(case aO=>exact(by(with_reducible repeat (first|apply Kd.S_alloc|apply Kd.S_drewN|apply Kd.S_drew));exact Kd.S_mono HO_11.out (fun k_ hk=>⟨hk.1,fun e_=>hk.2 e_⟩)));(case aS=>exact(below_size B_));(case aL=>have:=I6.out;omega);intro WG yM ho hb hg hat;rw[←I7.out] at ho;replace aa:=Z_ (blk_grown (g:=az) (o:= .cells #[.int .i64 av,.int .i64 aA] 23 (0,0)) (K_ aa) hg (Kd.S_ne HO_11.out aa.out (by decide)));replace HB:=Z_ (hb);replace vF:=Z_ ((show Kd.C (Kd.int .i64) yM RI kz.length kz from by rw[qb.out,RJ.out];exact Kd.C_mid (lo:=((gy):Int).toNat) (hi:=((wrap64 ((wrap64 (eQ+1))*a3)):Int).toNat) (c:=oU) ((Kd.R_reads' (Kd.R_over' (R_ HO_9) (Kd.S_typed (S_ HO_11)) (by decide) hg)).2.2) RP.out RN.out ((Kd.R_reads' (Kd.R_over' (R_ HO_9) (Kd.S_typed (S_ HO_11)) (by decide) hg)).2.1)));replace HO_9:=Z_ (Kd.R_over' (R_ HO_9) (Kd.S_typed (S_ HO_11)) (by decide) hg);have Jd:=Z_ (ho);clear HO_11 ky;clear ho hb hg hat))
         go_roundg k1
         case measure=>have:=jb.out;omega
         case rel=>exact⟨(y114),(wrap64 (eQ+1)),(E1_),H',⟨by have:=jb.out;omega⟩,⟨by(with_reducible repeat (first|apply Kd.R_alloc|apply Kd.R_drewN|apply Kd.R_drew));exact Kd.R_mono HO_9.out (fun _ hk=>trivial)⟩,⟨S_ Jd⟩,⟨(K_ aa)⟩,⟨B_⟩⟩
        ·rw[if_neg c17] at H;exact absurd H (by simp)
       ·rw[if_neg c15] at H;exact absurd H (by simp)
      ·rw[if_neg c14] at H;exact absurd H (by simp)
     ·rw[if_neg c13] at H;exact absurd H (by simp)
    ·rw[if_neg c11] at H;have c11b0:=df_ c11;clear c11;replace H:=Ob_ H;obtain⟨⟨t117,RQ⟩,Je,H⟩:=H;(try dsimp only at H);have WI:=Z_ Je;clear Je;have H':=Z_ H;clear H;obtain⟨D9,Ea,Eb⟩:=Kd.S_slice HO_11.out;subst Eb
     go_wp2_with (first|(refine G_ 54 Tryz.func122 #[.slice D9 jD.length Ea] ?_;refine(side_Get.calls k1 _ _ jD t117 RQ _ (C_ (Kd.S_reads' HO_11.out).2.2) ((Kd.S_reads' HO_11.out).2.1) WI.out).mono ?_;rintro e tX ⟨Q0,rfl,ho0,hb⟩;refine⟨_,rfl,?_⟩;have uM:=Z_ (Kd.S_lower (Kd.S_new' (Kd.S_new' ho0 (Kd.R_lt (R_ HO_9))) (Kd.S_lt (S_ HO_11))) (below_size B_));replace HO_9:=Z_ (Kd.R_below (R_ HO_9) hb);replace HO_11:=Z_ (Kd.S_elder' (S_ HO_11) (Kd.S_base ho0) hb);replace aa:=Z_ (blk_below (K_ aa) hb);replace HB:=Hb_ hb;(try clear hb);(try clear ho0);obtain⟨Jf,vU,RS⟩:=Kd.S_slice uM.out;subst RS))
     go_loopg [59] k1 (fun kq v59 w'=>∃(fu:List (List Int)) (dY:Int),v59= .int .i64 dY∧Aside0 (segment_frames.l1 kq a2 fu (t117.length:Int) dY av aA=some r)∧Aside0 (kq≤k1)∧Aside0 (Kd.S (Kd.slice 3 (Kd.int .i64)) 36 w' w.heap.size (fun _=>True) (.slice Jf t117.length vU) fu)∧Aside0 (w'.heap[az]?=some (.cells #[.int .i64 av,.int .i64 aA] 23 (0,0)))∧Aside0 (Below w.heap.size w w'))
     case atStart=>exact⟨(t117),(0),(E1_),H',⟨Nat.le_refl _⟩,⟨by(with_reducible repeat (first|apply Kd.S_alloc|apply Kd.S_drewN|apply Kd.S_drew));exact Kd.S_mono uM.out (fun _ hk=>trivial)⟩,⟨(K_ aa)⟩,⟨B_⟩⟩
     case round=>
      clear H'
      try clear c1
      try clear q1
      try clear p2
      try clear c6
      try clear c6b0
      try clear c6b1
      try clear p6
      try clear c9
      try clear c11
      try clear c11b0
      try clear c12
      try clear c13
      try clear c13b0
      try clear c13b1
      try clear c14
      try clear c14b0
      try clear c14b1
      try clear c15
      try clear c15b0
      try clear c15b1
      try clear c17
      try clear c18
      try clear I8
      try clear jV
      try clear jW
      try clear kV
      try clear kW
      try clear jX
      try clear jY
      try clear kX
      try clear kY
      try clear p2
      try clear p6
      try clear Ja
      try clear I8
      obtain⟨fu,dY,rfl,HA,iq,HO_11,aa,HB⟩:=hrel;have fK:=(Kd.S_reads' HO_11.out).1;rw[fK] at HO_11;(try simp only[fK]);(try simp only[fK] at aa)
      cases gk with
      |zero=>exact absurd HA.out (by simp[segment_frames.l1])
      |succ k2=>
       have H:=HA.out;clear HA;simp only[segment_frames.l1] at H
       by_cases jI:dY<(t117.length:Int)
       ·rw[if_pos jI] at H;have c27b0:=dt_ jI;(first|(have c27b0x_:=c27b0;rw[fK] at c27b0x_)|(have c27b0x_:=c27b0;rw[←fK] at c27b0x_)|skip);clear jI
        by_cases c28:0≤dY
        ·rw[if_pos c28] at H;have c28b0:=dt_ c28;clear c28
         by_cases jS:dY<(fu.length:Int)
         ·rw[if_pos jS] at H;have c29b0:=dt_ jS;(first|(have c29b0x_:=c29b0;rw[fK] at c29b0x_)|(have c29b0x_:=c29b0;rw[←fK] at c29b0x_)|skip);clear jS;replace H:=Ob_ H;obtain⟨⟨iw,bz⟩,yE,H⟩:=H;(try dsimp only at H);have jw:=Z_ yE;clear yE;obtain⟨Ex,qA⟩:∃y_:List (List Int),y_=(fu.set (dY:Int).toNat iw):=⟨_,rfl⟩;replace H:(segment_frames.l1 k2 a2 Ex (t117.length:Int) (wrap64 (dY+1)) av aA)=some r:=by first|(rw[qA];with_reducible exact H)|(have bS:=(bs_ _ _).symm.trans H;rw[qA];with_reducible exact bS)|(have bS:=(bs_ _ _).symm.trans H;with_reducible exact bS)|with_reducible exact H|(rw[qA];exact H)|exact H
          have Jg:=Z_ qA;clear qA;have H':=Z_ H;clear H;have AR:0≤(dY:Int):=od_ A_;have AU:dY<(fu.length:Int):=od_ A_;obtain⟨UF,Ey,Ez,RU,vG,lX,vH⟩:=at_L1 (Kd.S_reads' HO_11.out).2.2 dY AR AU
          cases RU
          obtain⟨UG,EA,EB,yH⟩:=Kd.S_get HO_11.out [] dY AR (by first|exact AU|exact od_ A_|(have e_:=(Kd.S_reads' HO_11.out).1;omega));obtain⟨Pt,rfl,oV⟩:=EB;have kM:=yH 0 _ rfl;rw[Nat.add_zero,show((Kd.slice 3 (Kd.int .i64))).sz=1 from rfl,Nat.mul_one] at kM;replace kM:=Option.some.inj (kM.symm.trans vG);rw[kM] at oV;have kN:=Z_ (show Kd.R (Kd.int .i64) 3 _ _ _ _ (rd_L1 fu dY) from oV);clear kM oV;clear yH EA;have oW:=Z_ vH;have AV:=Z_ lX;clear vH lX;replace AR:=eq_true AR;replace AU:=eq_true AU
          go_wp2_with (first|(refine G_ 70 Tryz.func123 #[.slice Ey (rd_L1 fu dY).length Ez,.int .i64 a2] ?_;refine(shift_Up.calls k2 _ _ (rd_L1 fu dY) a2 iw bz _ (C_ oW.out) AV.out jw.out).mono ?_;rintro e w32 ⟨v124,rfl,ho0,hb⟩;refine⟨_,rfl,?_⟩;replace HO_11:=Z_ (Kd.S_elder' (S_ HO_11) (Kd.R_base ho0) hb);have vI:=Z_ (Kd.R_lower (Kd.R_new' ho0 (Kd.R_lt (R_ kN))) (below_size B_));replace kN:=Z_ (Kd.R_elder' (R_ kN) (Kd.R_base ho0) hb);replace aa:=Z_ (blk_below (K_ aa) hb);replace oW:=Z_ (Kd.C_below (C_ oW.out) hb);replace HB:=Hb_ hb;(try clear hb);(try clear ho0);obtain⟨Ao_,co_,eo_⟩:=Kd.R_slice vI.out;subst eo_;have p31:0≤(dY:Int):=od_ A_;have RV:(dY:Int)<((fu.length:Int):Int):=od_ A_;obtain⟨qB,WJ,Jh,Ji,RX,WK,Jj⟩:=Kd.S_form HO_11.out (by omega);(first|cases Jh|(injection Jh with ea_ en_ ec_;(first|subst ea_|(injection ea_ with ea_;subst ea_));subst ec_;clear en_));have RY:=Z_ Ji;have WL:=Z_ Jj;clear Ji RX Jj;(first|simp only[add_plain] at vG|skip);obtain⟨_,WM,Jk,Jl,Cj,Ck,_,_⟩:=Kd.S_elem HO_11.out [] (dY:Int) p31 RV;obtain⟨RZ,rfl,R3⟩:=Jl;have EC:=Cj 0 _ rfl;have ED:=Ck 0;(try simp only[show((Kd.slice 3 (Kd.int .i64))).sz=1 from rfl,Nat.mul_one,Nat.add_zero] at EC);(try simp only[show((Kd.slice 3 (Kd.int .i64))).sz=1 from rfl,Nat.mul_one,Nat.add_zero] at ED);clear Jk Cj Ck;(try clear Jl);replace p31:=eq_true p31;replace RV:=eq_true RV;have n_:=Z_ (Kd.S_mono (ok':=(fun k_=>some k_≠(Value.slice Ao_ iw.length co_).ownBlock)) HO_11.out (fun k_ hk=>hk.2));clear HO_11;have HO_11:=n_;clear n_;have R4:=Z_ (show Kd.S (Kd.slice 3 (Kd.int .i64)) 36 w32 w.heap.size (fun k_=>((fun _=>True)) k_∧¬((fun k_=>some k_=(Value.slice Ao_ iw.length co_).ownBlock)) k_) (.slice (some ⟨qB,0,none⟩) fu.length vU) fu from(by(with_reducible repeat (first|apply Kd.S_alloc|apply Kd.S_drewN|apply Kd.S_drew));exact Kd.S_mono HO_11.out (fun k_ hk=>⟨trivial,fun e_=>hk e_⟩)));obtain⟨UH,WO,Jm,Jn,Cm,Cn,EF,Jo⟩:=Kd.S_elem R4.out [] (dY:Int) (od_ A_) (by have h_:(dY:Int)<((fu.length:Int):Int):=od_ A_;first|exact h_|(have e_:=(Kd.S_reads' HO_11.out).1;omega)|simpa using h_);obtain⟨R5,rfl,R6⟩:=Jn;have AX:=Kd.S_seg Jo (od_ A_) (by have h_:(dY:Int)<((fu.length:Int):Int):=od_ A_;first|exact h_|(have e_:=(Kd.S_reads' HO_11.out).1;omega)|simpa using h_) (seg:= [.slice Ao_ iw.length co_]) (j:=0) (show 1≤1 from by decide) (x':=iw) (Kd.M_row (Kd.R_mono (Kd.R_tight rfl (Kd.R_mono (ok':=fun k_=>((fun _=>True)) k_∧k_≠qB) (Kd.R_apart' (vI.out) (Kd.S_typed HO_11.out) (by decide)) (fun k_ hk=>⟨trivial,fun e_=>(hk.2) (by rw[e_];rfl)⟩))) (fun _ h_=>Or.inr (h_)))) (fun _ hk=>hk) (fun k_ hk_=>((Kd.R_mono (ok':=fun k_=>((fun _=>True)) k_∧k_≠qB) (Kd.R_apart' (vI.out) (Kd.S_typed HO_11.out) (by decide)) (fun k_ hk=>⟨trivial,fun e_=>(hk.2) (by rw[e_];rfl)⟩))).1 k_ hk_.symm);have EG:=Cm 0 _ rfl;(try simp only[show((Kd.slice 3 (Kd.int .i64))).sz=1 from rfl,Nat.mul_one,Nat.add_zero] at EG);have EH:=Cn 0;(try simp only[show((Kd.slice 3 (Kd.int .i64))).sz=1 from rfl,Nat.mul_one,Nat.add_zero] at EH);clear Jm Cm Cn EF Jo;(try clear Jn);(try simp only[show((Kd.slice 3 (Kd.int .i64))).sz=1 from rfl,Nat.mul_one,Nat.add_zero] at AX))|((with_reducible refine gate_store (t:=36) (p:=73) rfl ?_);refine store_event (t:=36) (p:=73) (v:=?vo_w34) (w1:=(w32.setCell ⟨qB,(dY:Int).toNat,none⟩ (.slice Ao_ iw.length co_))) ?hg ?ho ?hn ?hr ?_;(case ho=>rfl);(case hg=>rfl);(case hn=>rfl);(case hr=>first|(go_simp;done)|(go_simp;rfl));intro EM hw;have hg:w32.grownBy EM (some qB):=(by rw[hw];exact AX.2);have hp_:Kd.S (Kd.slice 3 (Kd.int .i64)) 36 EM w.heap.size (fun _=>True) (.slice (some ⟨qB,0,none⟩) fu.length vU) Ex:=(by rw[hw,Jg.out];exact AX.1);clear AX;replace aa:=Z_ (blk_grown (g:=az) (o:= .cells #[.int .i64 av,.int .i64 aA] 23 (0,0)) (K_ aa) hg (Kd.S_ne HO_11.out aa.out (by decide)));replace HO_11:=Z_ (hp_);replace kN:=Z_ (Kd.R_after (v:=(.slice (some ⟨qB,0,none⟩) fu.length vU)) (v1:=(.slice (some ⟨qB,0,none⟩) fu.length vU)) (ok:=(fun k_=>some k_≠(Value.slice Ao_ iw.length co_).ownBlock)) (by(with_reducible repeat (first|apply Kd.R_alloc|apply Kd.R_drewN|apply Kd.R_drew));exact Kd.R_mono kN.out (fun _ hk=>⟨hk.2,hk.1.2⟩)) hg (.inl rfl));replace HB:=Z_ ((by rw[hw];exact below_set (HB.out) RY.out:Below w.heap.size w EM));clear vI;clear hg hw hp_))
          (try simp only[←fK])
          go_roundg k2
          case measure=>have:=jb.out;have:=iq.out;omega
          case rel=>exact⟨(Ex),(wrap64 (dY+1)),(E1_),H',⟨by have:=jb.out;have:=iq.out;omega⟩,⟨by(try simp only[fK]);(with_reducible repeat (first|apply Kd.S_alloc|apply Kd.S_drewN|apply Kd.S_drew));exact HO_11.out⟩,⟨by(try simp only[fK]);(with_reducible repeat (first|refine blk_drewN ?_ _|refine blk_drew ?_|refine blk_alloc ?_ _));exact aa.out⟩,⟨B_⟩⟩
         ·rw[if_neg jS] at H;exact absurd H (by simp)
        ·rw[if_neg c28] at H;exact absurd H (by simp)
       ·rw[if_neg jI] at H;have c27b0:=df_ jI;(first|(have c27b0x_:=c27b0;rw[fK] at c27b0x_)|(have c27b0x_:=c27b0;rw[←fK] at c27b0x_)|(have c27b0x_:=c27b0;rw[lX] at c27b0x_)|(have c27b0x_:=c27b0;rw[←lX] at c27b0x_)|skip);clear jI;replace H:=Ob_ H;obtain⟨⟨t127,jL⟩,wE,H⟩:=H;replace H:(some t127)=some r:=H;have PD:=Z_ wE;clear wE;obtain rfl:=Option.some.inj H;have Pv:=cz_ aa 0;have Pw:=cz_ aa 1;have Px:=fz_ aa 0;have Py:=fz_ aa 1
        go_wp2_with (first|(refine G_ 78 Tryz.func124 #[.slice Jf fu.length vU,.agg #[.int .i64 av,.int .i64 aA]] ?_;refine(pcm_Put.calls k2 _ _ fu av aA t127 jL _ (C_ (Kd.S_reads' HO_11.out).2.2) ((Kd.S_reads' HO_11.out).2.1) PD.out).mono ?_;rintro e VE ⟨rfl,hb⟩;refine⟨_,rfl,?_⟩;replace HO_11:=Z_ (Kd.S_below (S_ HO_11) hb);replace aa:=Z_ (blk_below (K_ aa) hb);replace HB:=Hb_ hb;(try clear hb)))
        go_ret;exact⟨E_,B_⟩
 ·rw[if_neg c6] at H;have c6b0:(bG==0)=false:=beq_eq_false_iff_ne.mpr c6;have c6b1:(bG !=0)=true:=bne_iff_ne.mpr c6;obtain rfl:=Option.some.inj H
  go_enter Tryz.func94,Tryz.ntmps94
  go_wp2_with (first|(refine X_ 5 #[.int .i64 av,.int .i64 aA] 23 ?_;intro az hg JY hbox hb;have aa:=Z_ (hbox);have iy:=Z_ (G2_ hg:w.heap.size≤_);have nu:=iy;replace HB:=Hb_ hb;clear hb hbox hg;have zU:=cz_ aa 0;have zV:=cz_ aa 1;have zW:=fz_ aa 0;have zX:=fz_ aa 1)|(refine G_ 24 Tryz.func120 #[.string a0,.int .i64 (wrap64 (a3*av))] ?_;refine(residual_Get.calls a0 (wrap64 (a3*av)) ah bG _ A5.out).mono ?_;rintro e TS ⟨yl,rfl,ho0,hb⟩;refine⟨_,rfl,?_⟩;have dI:=Z_ (Kd.R_lower ho0 (below_size B_));replace aa:=Z_ (blk_below (K_ aa) hb);replace HB:=Hb_ hb;(try clear hb);(try clear ho0)))
  go_ret;exact⟨E_,B_⟩
end Go.Proofs.YtfghldonnffldaaGreatDoor.HNin
namespace Go.Proofs.YtfghldonnffldaaGreatDoor
open Go.RowKit YtfghldonnffldaaGreatDoorW.PrintWords YtfghldonnffldaaGreatDoorW.PrintLast YtfghldonnffldaaGreatDoorW.PrintMore TBase
open YFou HNin
theorem bt_lit(s:ByteArray)(i:Nat)(h:i<s.size):bt s (i:Int)=((s[i]'h).toNat:Int):=by
 unfold bt;rw[dif_pos (by rw[nC_];exact h)]
 congr 2
section
variable {P:Program} {Q:Exit→Act→World→Prop}
theorem goesV_{ops:Array Oper}{oi:Oper}{N:Option Tmp}{a:Act}{w:World}{K:Act→World→Prop}{f:FuncId}{fn:Func}{t:Tmp}{aas:Array Operand}{ts:Array TypeId}(hf:P.funcs[f]?=some fn)(hname:(fn.name== "runtime.NumGoroutine")=false)(hb:fn.body.isSome=true)(args:Array Value)
  (hw:Region.wanted oi (yielded ops a.tmps)=true) (hN:oi.dst=N) (hop:oi.op= .call { callee:= .value (.tmp t),args:=aas,argTypes:=ts }) (hv:a.eval (.tmp t)= .func (.func f) #[] #[]) (hargs:aas.map a.eval=args)
  (h:Calls P f args w fun e w'=>∃v,e= .returned v∧K (a.put N v) w'):if Region.wanted oi (yielded ops a.tmps)=true then Oper.wp P oi a w K Q else K (a.put N undef) w:=by
 refine call_ f args hw hN ?_ h;have he:=enters_ hf hname hb args w;unfold execOp;simp[hop,resolve,Deferred.ofValue,invoke,hv,hargs,he]
end
def opens_(k:Int):Nat:=if k=1 then 94 else if k=2 then 95 else 96
theorem opens_calls(k:Int)(w:World):Calls Tryz.prog 65 #[.int .u8 k] w fun e w'=>e= .returned (.func (.func (opens_ k)) #[] #[])∧∃n,w'=w.drewN n:=by
 unfold opens_
 go_enter Tryz.func65,Tryz.ntmps65
 by_cases h1:k=1
 ·subst h1;go_wp2;go_ret;exact⟨rfl,0,rfl⟩
 ·rw[if_neg h1]
  by_cases h2:k=2
  ·subst h2;go_wp2;go_ret;exact⟨rfl,0,rfl⟩
  ·rw[if_neg h2];go_wp2;go_ret;exact⟨rfl,0,rfl⟩
theorem own_calls(t:ByteArray)(ch bi x y:Int)(w:World):Calls Tryz.prog 96 #[.string t,.agg #[.int .i64 ch,.int .i64 bi],.int .i64 x,.int .i64 y] w fun e w'=>e= .returned (.string t)∧Below w.heap.size w w':=by
 go_enter Tryz.func96,Tryz.ntmps96
 go_wp2;go_ret;exact⟨rfl,below_alloc (Below.refl _ _) _⟩
theorem rep_calls(t d:ByteArray)(ch bi x y:Int)(w:World)(h:strings_Repeat.f t y=some d):Calls Tryz.prog 95 #[.string t,.agg #[.int .i64 ch,.int .i64 bi],.int .i64 x,.int .i64 y] w fun e w'=>e= .returned (.string d)∧Below w.heap.size w w':=by
 have H:=Lib.hid h;clear h
 go_enter Tryz.func95,Tryz.ntmps95
 go_wp2_with fail
 refine(strings_Repeat.calls _ _ _ _ H.out).mono ?_;rintro e w' ⟨rfl,hb⟩;go_wp2;go_ret;exact⟨rfl,below_step (below_alloc (Below.refl _ _) _) hb⟩
noncomputable def opened(K:Nat)(ch bi by_ kind a:Int)(body:ByteArray):Option ByteArray:=if kind=1 then segment_frames.f K body ch bi by_ a else if kind=2 then strings_Repeat.f body a else some body
theorem opens_fn(k:Int):∃fn,Tryz.prog.funcs[opens_ k]?=some fn∧(fn.name== "runtime.NumGoroutine")=false∧fn.body.isSome=true:=by
 unfold opens_
 split
 ·exact⟨_,Tryz.func94,rfl,rfl⟩
 ·split
  ·exact⟨_,Tryz.func95,rfl,rfl⟩
  ·exact⟨_,Tryz.func96,rfl,rfl⟩
theorem opn_calls(K:Nat)(k y:Int)(t d:ByteArray)(ch bi x:Int)(h:opened K ch bi x k y t=some d)(w:World)(hT:Tabs w):Calls Tryz.prog (opens_ k) #[.string t,.agg #[.int .i64 ch,.int .i64 bi],.int .i64 x,.int .i64 y] w fun e w'=>e= .returned (.string d)∧Below w.heap.size w w':=by
 unfold opened at h;unfold opens_
 by_cases h1:k=1
 ·rw[if_pos h1] at h ⊢;exact segment_frames.calls K t ch bi x y d w h hT
 ·rw[if_neg h1] at h ⊢
  by_cases h2:k=2
  ·rw[if_pos h2] at h ⊢;exact rep_calls t d ch bi x y w h
  ·rw[if_neg h2] at h ⊢;obtain rfl:=Option.some.inj h;exact own_calls t ch bi x y w
def sgg.T12:Bool×List (List Nat×List Nat):=(true,[([],[]),([0],[0]),([1],[1]),([],[]),([],[]),([],[]),([5],[5]),([6],[6]),([],[]),([8],[8]),([9],[9]),([2,3,4,7,10,2],[2,3,4,7,10]),([11,11,0,1,2,3,4,5,6,7,8,9,10,11],[11])])
def sgg.B12:List Nat:= [0,1,3,0,0,0,32,96,0,256,768,2047,4095]
theorem sgg.tab12:rtab .any (opsOf Tryz.f26 12)=sgg.T12:=by kernel_rfl
theorem sgg.bits12:waitsOk sgg.T12.2 sgg.B12=true:=by kernel_rfl
theorem segGet_calls(k:Nat)(s d:ByteArray)(n:Nat)(ch bi:Int)(w:World)(hT:Tabs w)(hn:s.size=n+9)(hn2:n≤4096)(hm:pcm_May.f ch bi=some true)(h2:bt s 2≤64)(h1:field_Get.f 20 (s.extract 3 5)=some ((n:Int),0))(h3:field_Get.f 20 (s.extract (n+5) s.size)=some ((Crc.sum (s.extract 0 (n+5)).data.toList:Int),0))(ho:opened k ch bi (bt s 1) (bt s 0) (bt s 2) (s.extract 5 (n+5))=some d)(hp:segment_Put.f k d ch bi=some (s,0)):
  Calls Tryz.prog 26 #[.string s,.agg #[.int .i64 ch,.int .i64 bi]] w fun e w'=>e= .returned (.tuple #[.string d,.int .i64 0])∧Below w.heap.size w w':=by
 have fH:=Tryz.underlying23;have HM:=Lib.hid hm;have H1:=Lib.hid h1;have HO:=Lib.hid ho;have HP:=Lib.hid hp;have HT:=Z_ hT;have Y3:Aside0 ((w.alloc (.cells #[.int .i64 ch,.int .i64 bi] 23)).heap[w.heap.size]?=some (.cells #[.int .i64 ch,.int .i64 bi] 23 (0,0))):=⟨blk_new w _⟩;have YW:Aside0 (Below w.heap.size w (w.alloc (.cells #[.int .i64 ch,.int .i64 bi] 23))):=⟨below_alloc (Below.refl _ _) _⟩;have z1:decide ((s.size:Int)<9)=false:=df_ (by omega);have z2:wrap64 (9+(n:Int))=(s.size:Int):=by unfold wrap64;omega
 have z3:wrap64 (5+(n:Int))=((n+5:Nat):Int):=by unfold wrap64;omega
 have z4:wrap64 ((s.size:Int) - 4)=((n+5:Nat):Int):=by unfold wrap64;omega
 have z2w:IntKind.i64.wrap (9+(n:Int))=(s.size:Int):=(i64_w _).trans z2;have z5:(5:Int)≤(s.size:Int):=by omega
 have y5:5≤s.size:=by omega
 have x5:=eq_true z5;have H7:decide ((5:Int)≤(s.size:Int))=true:=dt_ z5;have x3:=eq_true (show(3:Int)≤5 by decide);have x0:=eq_true (show(0:Int)≤3 by decide);have z6:(5:Int)≤((n+5:Nat):Int):=by omega
 have z7:((n+5:Nat):Int)≤(s.size:Int):=by omega
 have z8:(0:Int)≤((n+5:Nat):Int):=by omega
 have z9:¬((4096:Int)<n):=by omega
 have za:¬((64:Int)<bt s 2):=by omega
 have y1:1<s.size:=by omega
 have y2:2<s.size:=by omega
 have q1:(n:Int)≤4096:=by omega
 have q2:((s[2]'y2).toNat:Int)≤64:=by have:=bt_lit s 2 y2;have e:bt s 2=bt s ((2:Nat):Int):=rfl;omega
 have q3:(s[2]'y2).toNat≤64:=by omega
 have y3:(2:Int)<s.size:=by omega
 have y4:(1:Int)<s.size:=by omega
 have y6:(0:Int)<s.size:=by omega
 have y7:0<s.size:=by omega
 have HC:=Lib.hid (crc_Sum.some_ (s.extract 0 (n+5)) (by rw[ByteArray.size_extract];omega));obtain⟨cr,hcr⟩:∃c,(Crc.sum (s.extract 0 (n+5)).data.toList)=c:=⟨_,rfl⟩;rw[hcr] at h3 HC;have H3:=Lib.hid h3;clear hcr;obtain⟨m5,WP⟩:∃m,n+5=m:=⟨_,rfl⟩;rw[WP] at z3 z4 z6 z7 z8 H3 HO HC;have z3w:IntKind.i64.wrap (5+(n:Int))=(m5:Int):=(i64_w _).trans z3;have z4w:IntKind.i64.wrap ((s.size:Int) - 4)=(m5:Int):=(i64_w _).trans z4;clear hm h1 h3 ho hp hT h2 hn
 go_enter Tryz.func26,Tryz.ntmps26
 have r0:=blk_cell Y3.out 0;have r1:=blk_cell Y3.out 1;simp at r0 r1
 go_wp2_with fail
 clear r0 r1;refine(pcm_May.calls ch bi true _ HM.out).mono ?_;rintro e wk_ ⟨rfl,hb⟩;replace Y3:=Z_ (blk_below Y3.out hb);replace YW:=Z_ (below_step YW.out hb);clear hb
 go_wp2_with fail
 refine(field_Get.calls 20 _ _ _ _ H1.out).mono ?_;rintro e wk_ ⟨rfl,⟨⟨nd,rfl⟩⟩⟩;replace Y3:=Z_ (blk_drewN Y3.out nd);replace YW:=Z_ (pw_below_drewN YW.out nd);generalize World.drewN _ nd=wk_ at Y3 YW ⊢
 go_wp2_with fail
 refine(field_Get.calls 20 _ _ _ _ H3.out).mono ?_;rintro e wk_ ⟨rfl,⟨⟨nd,rfl⟩⟩⟩;replace Y3:=Z_ (blk_drewN Y3.out nd);replace YW:=Z_ (pw_below_drewN YW.out nd);generalize World.drewN _ nd=wk_ at Y3 YW ⊢
 go_wp2_with fail
 refine(crc_Sum.calls _ _ _ HC.out).mono ?_;rintro e wk_ ⟨rfl,hb⟩;replace Y3:=Z_ (blk_below Y3.out hb);replace YW:=Z_ (below_step YW.out hb);clear hb;have e0:bt s 0=((s[0]'y7).toNat:Int):=bt_lit s 0 y7;have e1:bt s 1=((s[1]'y1).toNat:Int):=bt_lit s 1 y1;obtain⟨k0,hk0⟩:∃x,(s[0]'y7).toNat=x:=⟨_,rfl⟩;obtain⟨k1,hk1⟩:∃x,(s[1]'y1).toNat=x:=⟨_,rfl⟩;obtain⟨k2,hk2⟩:∃x,(s[2]'y2).toNat=x:=⟨_,rfl⟩;have g1:k1<256:=by rw[←hk1];exact(s[1]'y1).toNat_lt
 have g2:k2<256:=by rw[←hk2];exact(s[2]'y2).toNat_lt
 have e2:bt s 2=((s[2]'y2).toNat:Int):=bt_lit s 2 y2;rw[e0,e1,e2,hk0,hk1,hk2] at HO;clear e0 e1 e2;rw[hk2] at q2 q3;have q7:¬((64:Int)<k2):=Int.not_lt.2 q2;have qd:((4096:Int)<n∨(64:Int)<k2)=False:=eq_false (by rintro(h|h);exact absurd q1 (Int.not_le.2 h);exact absurd q2 (Int.not_le.2 h));have q8:(k2:Int)≤64:=q2;have q9:(decide ((64:Int)<k2))=false:=df_ q7;have WQ:wrap64 (k1:Int)=k1:=by clear za;unfold wrap64;omega
 have WR:wrap64 (k2:Int)=k2:=by clear za;unfold wrap64;omega
 obtain⟨fn,hf,hname,hbody⟩:=opens_fn k0;go_wp2;replace Y3:=Z_ (blk_drew Y3.out);replace YW:=Z_ (below_drew1 YW.out);refine start_ (n:=13) (S:=fun w'=>w'.heap[w.heap.size]?=some (.cells #[.int .i64 ch,.int .i64 bi] 23 (0,0))) (ds:= []) #[false,false,false,false,false,false,false,false,false,false,false,false,false] (by kernel_rfl) rfl rfl Y3.out (fun hHeld=>?_);refine with_tabW sgg.tab12 sgg.bits12 (fun HT_ HW_=>?_);generalize World.drew _=wk_ at Y3 YW hHeld ⊢;refine P_ 0 61 ?_;refine P_ 3 64 ?_;refine P_ 5 66 ?_;refine P_ 8 69 ?_;refine T_ 1 62 (y:=by rintro w' s0;have r0:=blk_cell s0 0;have r1:=blk_cell s0 1;simp at r0 r1;go_simp;with_reducible rfl) (h:=?_);refine T_ 4 65 (y:=by rintro w' s0;have r0:=blk_cell s0 0;have r1:=blk_cell s0 1;simp at r0 r1;go_simp;with_reducible rfl) (h:=?_);refine T_ 6 67 (y:=by rintro w' s0;have r0:=blk_cell s0 0;have r1:=blk_cell s0 1;simp at r0 r1;go_simp;with_reducible rfl) (h:=?_);refine P_ 7 68 ?_;refine T_ 9 70 (y:=by rintro w' s0;have r0:=blk_cell s0 0;have r1:=blk_cell s0 1;simp at r0 r1;go_simp;with_reducible rfl) (h:=?_);refine P_ 10 71 ?_;refine O_ 2 63 fun K hK=>?_
 refine goes_ Tryz.func65 (by kernel_rfl) rfl #[.int .u8 k0] (by rfl) rfl rfl (by first|rfl|(simp only[hk0];rfl)|(simp[Act.eval,hk0])) ?_;refine(opens_calls k0 _).mono ?_;rintro e wk_ ⟨rfl,nd,rfl⟩;refine⟨_,rfl,?_⟩;replace Y3:=Z_ (blk_drewN Y3.out nd);replace YW:=Z_ (pw_below_drewN YW.out nd);generalize World.drewN _ nd=wk_ at Y3 YW ⊢;refine hK.out _ _ Y3.out (fun hHeld=>?_);clear hK K;refine Nm_ 63 ?_;refine O_ 11 72 fun K hK=>?_
 refine goesV_ (f:=opens_ k0) hf hname hbody #[.string (s.extract 5 m5),.agg #[.int .i64 ch,.int .i64 bi],.int .i64 k1,.int .i64 k2] (by rfl) rfl rfl (by rfl) (by simp only[List.map_toArray,List.map_cons,List.map_nil,Act.eval];simp[hk1,hk2,WQ,WR]) ?_;refine(opn_calls k k0 k2 _ d ch bi k1 HO.out _ (HT.out.below YW.out)).mono ?_;rintro e wk_ ⟨rfl,hb⟩;refine⟨_,rfl,?_⟩;replace Y3:=Z_ (blk_below Y3.out hb);replace YW:=Z_ (below_step YW.out hb);clear hb;refine hK.out _ _ Y3.out (fun hHeld=>?_);clear hK K;refine Nm_ 72 ?_;refine P_ 12 12 ?_;refine done_ (done_of HT_.out (by kernel_rfl)) ?_;have r0:=blk_cell Y3.out 0;have r1:=blk_cell Y3.out 1;simp at r0 r1
 go_wp2_with fail
 clear r0 r1;refine(segment_Put.calls k d ch bi _ _ _ HP.out (Tabs.below HT.out YW.out)).mono ?_;rintro e wk_ ⟨rfl,hb⟩;replace Y3:=Z_ (blk_below Y3.out hb);replace YW:=Z_ (below_step YW.out hb);clear hb;go_wp2;go_ret2;exact⟨rfl,YW.out⟩
end Go.Proofs.YtfghldonnffldaaGreatDoor
namespace Go.Proofs.YtfghldonnffldaaGreatDoor
open Go.RowKit YtfghldonnffldaaGreatDoorW.PrintWords YtfghldonnffldaaGreatDoorW.PrintLast YtfghldonnffldaaGreatDoorW.PrintMore TBase
open YFou HNin
noncomputable def segment_Get.f(k:Nat)(s:ByteArray)(ch bi:Int):Option (ByteArray×Int):=
 if 9≤s.size∧s.size≤4105∧pcm_May.f ch bi=some true∧bt s 2≤64∧field_Get.f 20 (s.extract 3 5)=some (((s.size - 9:Nat):Int),0)∧field_Get.f 20 (s.extract (s.size - 9+5) s.size)=some ((Crc.sum (s.extract 0 (s.size - 9+5)).data.toList:Int),0)
 then(opened k ch bi (bt s 1) (bt s 0) (bt s 2) (s.extract 5 (s.size - 9+5))).bind fun d=>if segment_Put.f k d ch bi=some (s,0) then some (d,0) else none
 else none
theorem segment_Get.calls(k:Nat)(s:ByteArray)(ch bi:Int)(r1:ByteArray)(r2:Int)(w:World)(h:segment_Get.f k s ch bi=some (r1,r2))(hT:Tabs w:=by exact Tabs.below hT B_):
  Calls Tryz.prog 26 #[.string s,.agg #[.int .i64 ch,.int .i64 bi]] w fun e w'=>e= .returned (.tuple #[.string r1,.int .i64 r2])∧Below w.heap.size w w':=by
 unfold segment_Get.f at h
 split at h
 ·rename_i hx;obtain⟨h1,h2,h3,h4,h5,h6⟩:=hx;obtain⟨d,hd,h⟩:=Ob_ h
  split at h
  ·rename_i hp;have e:=Option.some.inj h;obtain⟨rfl,rfl⟩:=Prod.mk.inj e;exact segGet_calls k s d (s.size - 9) ch bi w hT (by clear h4;omega) (by clear h4;omega) h3 h4 h5 h6 hd hp
  ·cases h
 ·cases h
end Go.Proofs.YtfghldonnffldaaGreatDoor
namespace Go.Proofs.YtfghldonnffldaaGreatDoor.ESev
open Go.RowKit TBase UOne VTwo XThr YFou ZFiv QSix YtfghldonnffldaaGreatDoorW.PrintWords YtfghldonnffldaaGreatDoorW.PrintLast YtfghldonnffldaaGreatDoorW.PrintMore
attribute [local go_sem] max2_int min2_int max_two min_two max_three min_three max_four min_four
noncomputable def file_whole_data.f(k:Nat)(ae:Int)(af:Int)(ax:Int)(aQ:Int)(aW:ByteArray)(eZ:ByteArray)(bO:List ByteArray)(a1:Int):Option (ByteArray×Bool):=if 0≤a1 then(if a1<(bO.length:Int) then((segment_Get.f k (rdOf ByteArray.empty bO a1) ae af).bind fun mV=>(if mV.2=0 then((file_whole_frames.f ae af ax aQ aW eZ bO a1).bind fun t105=>((pcm_Frame.f ae af).bind fun ag=>(if(mV.1.size:Int)=(wrap64 (t105*ag)) then(some (mV.1,true)) else(some ((⟨#[]⟩:ByteArray),false))))) else(some ((⟨#[]⟩:ByteArray),false)))) else(none)) else(none)
def file_whole_data.T1:Bool×List (List Nat×List Nat):=(true,[([],[]),([0],[0]),([1],[1]),([],[]),([2,3],[2,3]),([4],[4]),([],[]),([6],[6]),([7],[7]),([5,8],[5,8]),([9],[9]),([10],[10]),([10],[10]),([11,9,0,1,2,3,4,5,6,7,8,9,10,11],[11]),([12,13,0,1,2,3,4,5,6,7,8,9,10,11,12,13],[12])])
def file_whole_data.B1:List Nat:= [0,1,3,0,15,31,0,64,192,511,1023,2047,2047,4095,16383]
theorem file_whole_data.tab1:rtab .any (opsOf Tryz.f66 1)=file_whole_data.T1:=by kernel_rfl
theorem file_whole_data.bits1:waitsOk file_whole_data.T1.2 file_whole_data.B1=true:=by kernel_rfl
def file_whole_data.T2:Bool×List (List Nat×List Nat):=(true,[([],[]),([0],[0]),([1],[1]),([2],[2]),([3,2],[2,3]),([2],[2]),([2],[2]),([5,6,2,2],[2,5,6]),([2],[2]),([8,2],[2,8]),([9,2],[2,9]),([10,7,2],[2,10]),([7,11,2],[2,7,11]),([4,12,2],[2,4,12]),([2,13],[2,13])])
def file_whole_data.B2:List Nat:= [0,1,3,7,15,7,7,103,7,263,775,2023,4071,8191,16383]
theorem file_whole_data.tab2:rtab .any (opsOf Tryz.f66 2)=file_whole_data.T2:=by kernel_rfl
theorem file_whole_data.bits2:waitsOk file_whole_data.T2.2 file_whole_data.B2=true:=by kernel_rfl
theorem file_whole_data.calls(k:Nat)(ae:Int)(af:Int)(ax:Int)(aQ:Int)(aW:ByteArray)(eZ:ByteArray)(jf:Option Addr)(fZ:Nat)(bO:List ByteArray)(a1:Int)(r1:ByteArray)(r2:Bool)(w:World)(lF:Kd.C Kd.string w jf bO.length bO)(mE:bO.length≤fZ)(h:file_whole_data.f k ae af ax aQ aW eZ bO a1=some (r1,r2))(hT:Tabs w:=by exact Tabs.below hT B_):
  Calls Tryz.prog 66 #[.agg #[.int .i64 ae,.int .i64 af,.int .i64 ax,.int .i64 aQ,.string aW,.string eZ,.slice jf bO.length fZ],.int .i64 a1] w fun e w'=>e= .returned (.tuple #[.string r1,.bool r2])∧Below w.heap.size w w':=by
 have Bw:=Tryz.underlying127;have fH:=Tryz.underlying23;have nE:=Z_ lF;have xE:=Z_ mE;clear lF mE;have HB:=Z_ (Below.refl w.heap.size w);have H:(if 0≤a1 then(if a1<(bO.length:Int) then((segment_Get.f k (rdOf ByteArray.empty bO a1) ae af).bind fun mV=>(if mV.2=0 then((file_whole_frames.f ae af ax aQ aW eZ bO a1).bind fun t105=>((pcm_Frame.f ae af).bind fun ag=>(if(mV.1.size:Int)=(wrap64 (t105*ag)) then(some (mV.1,true)) else(some ((⟨#[]⟩:ByteArray),false))))) else(some ((⟨#[]⟩:ByteArray),false)))) else(none)) else(none))=some (r1,r2):=h;clear h
 by_cases c3:0≤a1
 ·rw[if_pos c3] at H;have c3b0:=dt_ c3;clear c3
  by_cases c4:a1<(bO.length:Int)
  ·rw[if_pos c4] at H;have c4b0:=dt_ c4;clear c4;replace H:=Ob_ H;obtain⟨⟨bG,dm⟩,jR,H⟩:=H;(try dsimp only at H);have A5:=Z_ jR;clear jR
   by_cases c6:dm=0
   ·rw[if_pos c6] at H;have c6b0:(dm==0)=true:=beq_iff_eq.mpr c6;have c6b1:(dm !=0)=false:=bne_eq_false_iff_eq.mpr c6;clear c6;replace H:=Ob_ H;obtain⟨t105,wu,H⟩:=H;(try dsimp only at H);have A7:=Z_ wu;clear wu;replace H:=Ob_ H;obtain⟨ag,uo,H⟩:=H;(try dsimp only at H);have A8:=Z_ uo;clear uo
    by_cases c9:(bG.size:Int)=(wrap64 (t105*ag))
    ·rw[if_pos c9] at H;have c9b0:((bG.size:Int)==(wrap64 (t105*ag)))=true:=beq_iff_eq.mpr c9;have c9b1:((bG.size:Int) !=(wrap64 (t105*ag)))=false:=bne_eq_false_iff_eq.mpr c9;clear c9;simp only[Option.some.injEq,Prod.mk.injEq] at H;obtain⟨rfl,rfl⟩:=H
     go_enter Tryz.func66,Tryz.ntmps66
     try go_wp2_with (first|((try (refine gate_guard (by rfl) ?_;dsimp only));refine X_ 2 #[.int .i64 ae,.int .i64 af,.int .i64 ax,.int .i64 aQ,.string aW,.string eZ,.slice jf bO.length fZ] 127 ?_;intro az hg o5 hbox hb;have aa:=Z_ (hbox);have iy:=Z_ (G2_ hg:w.heap.size≤_);have nu:=iy;replace HB:=Hb_ hb;clear hb hbox hg))
     replace aa:=Z_ (blk_drew aa.out);replace HB:=Z_ (below_drew1 HB.out);have mW:0≤(a1:Int):=od_ A_;have mX:a1<(bO.length:Int):=od_ A_;obtain⟨iV,yI,dW⟩:=Kd.at_string nE.out a1 mW mX;have il:=dW
     cases yI
     replace dW:=Hc_ HB.out dW;replace mW:=eq_true mW;replace mX:=eq_true mX;refine start_ (n:=15) (S:=fun w'=>w'.cell? ⟨az,0,none⟩=some (.int .i64 ae)∧w'.cell? ⟨az,1,none⟩=some (.int .i64 af)∧w'.cell? ⟨az,2,none⟩=some (.int .i64 ax)∧w'.cell? ⟨az,3,none⟩=some (.int .i64 aQ)∧w'.cell? ⟨az,4,none⟩=some (.string aW)∧w'.cell? ⟨az,5,none⟩=some (.string eZ)∧w'.cell? ⟨az,6,none⟩=some (.slice (some iV) bO.length fZ)∧w'.cell? (iV.add (a1).toNat)=some (.string (rdOf ByteArray.empty bO a1))) (ds:= []) #[false,false,false,false,false,false,false,false,false,false,false,false,false,false,false] (by kernel_rfl) rfl rfl ⟨(blk_cell aa.out 0).trans rfl,(blk_cell aa.out 1).trans rfl,(blk_cell aa.out 2).trans rfl,(blk_cell aa.out 3).trans rfl,(blk_cell aa.out 4).trans rfl,(blk_cell aa.out 5).trans rfl,(blk_cell aa.out 6).trans rfl,(Hc_ HB.out il)⟩ (fun hHeld=>?_);refine with_tabW file_whole_data.tab1 file_whole_data.bits1 (fun HT_ HW_=>?_);generalize o5.drew=zg at aa HB dW hHeld ⊢;refine P_ 0 9 ?_;refine P_ 1 10 ?_;refine P_ 3 12 ?_;refine P_ 6 15 ?_;refine P_ 7 16 ?_;refine T_ 2 11 (y:=by rintro w' ⟨s0,s1,s2,s3,s4,s5,s6,s7⟩;go_simp;with_reducible rfl) (h:=?_);refine P_ 4 13 ?_;refine T_ 5 14 (y:=by rintro w' ⟨s0,s1,s2,s3,s4,s5,s6,s7⟩;go_simp;with_reducible rfl) (h:=?_);refine T_ 8 17 (y:=by rintro w' ⟨s0,s1,s2,s3,s4,s5,s6,s7⟩;go_simp;with_reducible rfl) (h:=?_);refine O_ 9 18 fun K hK=>?_
     refine g_ Tryz.func26 #[.string (rdOf ByteArray.empty bO a1),.agg #[.int .i64 ae,.int .i64 af]] ?_
     with_reducible refine(segment_Get.calls k (rdOf ByteArray.empty bO a1) ae af bG dm _ A5.out).mono ?_
     rintro e w12 ⟨rfl,hb⟩;refine⟨_,rfl,?_⟩;replace aa:=Z_ (blk_below (K_ aa) hb);replace HB:=Hb_ hb;(try clear hb);(try clear hb2);(try clear hk);(try clear hi);refine hK.out _ _ ⟨(blk_cell aa.out 0).trans rfl,(blk_cell aa.out 1).trans rfl,(blk_cell aa.out 2).trans rfl,(blk_cell aa.out 3).trans rfl,(blk_cell aa.out 4).trans rfl,(blk_cell aa.out 5).trans rfl,(blk_cell aa.out 6).trans rfl,(Hc_ HB.out il)⟩ (fun hHeld=>?_);clear hK K;refine Nm_ 18 ?_;refine P_ 10 8 ?_;refine P_ 11 19 ?_;refine P_ 12 20 ?_;refine P_ 13 6 ?_;refine P_ 14 7 ?_;refine done_ (done_of HT_.out (by kernel_rfl)) ?_
     try go_wp2
     replace aa:=Z_ (blk_drew aa.out);replace HB:=Z_ (below_drew1 HB.out);refine start_ (n:=15) (S:=fun w'=>w'.cell? ⟨az,0,none⟩=some (.int .i64 ae)∧w'.cell? ⟨az,1,none⟩=some (.int .i64 af)∧w'.cell? ⟨az,2,none⟩=some (.int .i64 ax)∧w'.cell? ⟨az,3,none⟩=some (.int .i64 aQ)∧w'.cell? ⟨az,4,none⟩=some (.string aW)∧w'.cell? ⟨az,5,none⟩=some (.string eZ)∧w'.cell? ⟨az,6,none⟩=some (.slice (some iV) bO.length fZ)) (ds:= []) #[false,false,false,false,false,false,false,false,false,false,false,false,false,false,false] (by kernel_rfl) rfl rfl ⟨(blk_cell aa.out 0).trans rfl,(blk_cell aa.out 1).trans rfl,(blk_cell aa.out 2).trans rfl,(blk_cell aa.out 3).trans rfl,(blk_cell aa.out 4).trans rfl,(blk_cell aa.out 5).trans rfl,(blk_cell aa.out 6).trans rfl⟩ (fun hHeld=>?_);refine with_tabW file_whole_data.tab2 file_whole_data.bits2 (fun HT_ HW_=>?_);generalize w12.drew=ER at aa HB hHeld ⊢;refine P_ 0 21 ?_;refine P_ 1 22 ?_;refine P_ 2 23 ?_;refine P_ 3 24 ?_;refine P_ 4 25 ?_;refine P_ 6 27 ?_;refine P_ 8 29 ?_;refine P_ 9 30 ?_;refine T_ 5 26 (y:=by rintro w' ⟨s0,s1,s2,s3,s4,s5,s6⟩;go_simp;with_reducible rfl) (h:=?_);refine T_ 10 31 (y:=by rintro w' ⟨s0,s1,s2,s3,s4,s5,s6⟩;go_simp;with_reducible rfl) (h:=?_);refine O_ 7 28 fun K hK=>?_
     refine g_ Tryz.func97 #[.agg #[.int .i64 ae,.int .i64 af,.int .i64 ax,.int .i64 aQ,.string aW,.string eZ,.slice (some iV) bO.length fZ],.int .i64 a1] ?_
     with_reducible refine(file_whole_frames.calls ae af ax aQ aW eZ _ _ bO a1 t105 _ ?yJ ?yK A7.out).mono ?_
     (case yJ=>repeat (first|exact(Kd.C_below nE.out HB.out)|(with_reducible refine Kd.C_alloc ?_ _)|(with_reducible refine Kd.C_drewN ?_ _)|(with_reducible refine Kd.C_drew ?_)));(case yK=>exact xE.out);rintro e yN ⟨rfl,hb⟩;refine⟨_,rfl,?_⟩;replace aa:=Z_ (blk_below (K_ aa) hb);replace HB:=Hb_ hb;(try clear hb);(try clear hb2);(try clear hk);(try clear hi);refine hK.out _ _ ⟨(blk_cell aa.out 0).trans rfl,(blk_cell aa.out 1).trans rfl,(blk_cell aa.out 2).trans rfl,(blk_cell aa.out 3).trans rfl,(blk_cell aa.out 4).trans rfl,(blk_cell aa.out 5).trans rfl,(blk_cell aa.out 6).trans rfl⟩ (fun hHeld=>?_);clear hK K;refine Nm_ 28 ?_;refine O_ 11 32 fun K hK=>?_
     refine g_ Tryz.func29 #[.agg #[.int .i64 ae,.int .i64 af]] ?_
     with_reducible refine(pcm_Frame.calls ae af ag _ A8.out).mono ?_
     rintro e nX ⟨rfl,hb⟩;refine⟨_,rfl,?_⟩;replace aa:=Z_ (blk_below (K_ aa) hb);replace HB:=Hb_ hb;(try clear hb);(try clear hb2);(try clear hk);(try clear hi);refine hK.out _ _ ⟨(blk_cell aa.out 0).trans rfl,(blk_cell aa.out 1).trans rfl,(blk_cell aa.out 2).trans rfl,(blk_cell aa.out 3).trans rfl,(blk_cell aa.out 4).trans rfl,(blk_cell aa.out 5).trans rfl,(blk_cell aa.out 6).trans rfl⟩ (fun hHeld=>?_);clear hK K;refine Nm_ 32 ?_;refine P_ 12 33 ?_;refine P_ 13 34 ?_;refine P_ 14 35 ?_;refine done_ (done_of HT_.out (by kernel_rfl)) ?_
     try go_wp2
     go_ret2;exact⟨E_,B_⟩
    ·rw[if_neg c9] at H;have c9b0:((bG.size:Int)==(wrap64 (t105*ag)))=false:=beq_eq_false_iff_ne.mpr c9;have c9b1:((bG.size:Int) !=(wrap64 (t105*ag)))=true:=bne_iff_ne.mpr c9;simp only[Option.some.injEq,Prod.mk.injEq] at H;obtain⟨rfl,rfl⟩:=H
     go_enter Tryz.func66,Tryz.ntmps66
     try go_wp2_with (first|((try (refine gate_guard (by rfl) ?_;dsimp only));refine X_ 2 #[.int .i64 ae,.int .i64 af,.int .i64 ax,.int .i64 aQ,.string aW,.string eZ,.slice jf bO.length fZ] 127 ?_;intro az hg w16 hbox hb;have aa:=Z_ (hbox);have iy:=Z_ (G2_ hg:w.heap.size≤_);have nu:=iy;replace HB:=Hb_ hb;clear hb hbox hg))
     replace aa:=Z_ (blk_drew aa.out);replace HB:=Z_ (below_drew1 HB.out);have mW:0≤(a1:Int):=od_ A_;have mX:a1<(bO.length:Int):=od_ A_;obtain⟨iV,yI,dW⟩:=Kd.at_string nE.out a1 mW mX;have il:=dW
     cases yI
     replace dW:=Hc_ HB.out dW;replace mW:=eq_true mW;replace mX:=eq_true mX;refine start_ (n:=15) (S:=fun w'=>w'.cell? ⟨az,0,none⟩=some (.int .i64 ae)∧w'.cell? ⟨az,1,none⟩=some (.int .i64 af)∧w'.cell? ⟨az,2,none⟩=some (.int .i64 ax)∧w'.cell? ⟨az,3,none⟩=some (.int .i64 aQ)∧w'.cell? ⟨az,4,none⟩=some (.string aW)∧w'.cell? ⟨az,5,none⟩=some (.string eZ)∧w'.cell? ⟨az,6,none⟩=some (.slice (some iV) bO.length fZ)∧w'.cell? (iV.add (a1).toNat)=some (.string (rdOf ByteArray.empty bO a1))) (ds:= []) #[false,false,false,false,false,false,false,false,false,false,false,false,false,false,false] (by kernel_rfl) rfl rfl ⟨(blk_cell aa.out 0).trans rfl,(blk_cell aa.out 1).trans rfl,(blk_cell aa.out 2).trans rfl,(blk_cell aa.out 3).trans rfl,(blk_cell aa.out 4).trans rfl,(blk_cell aa.out 5).trans rfl,(blk_cell aa.out 6).trans rfl,(Hc_ HB.out il)⟩ (fun hHeld=>?_);refine with_tabW file_whole_data.tab1 file_whole_data.bits1 (fun HT_ HW_=>?_);generalize w16.drew=Db at aa HB dW hHeld ⊢;refine P_ 0 9 ?_;refine P_ 1 10 ?_;refine P_ 3 12 ?_;refine P_ 6 15 ?_;refine P_ 7 16 ?_;refine T_ 2 11 (y:=by rintro w' ⟨s0,s1,s2,s3,s4,s5,s6,s7⟩;go_simp;with_reducible rfl) (h:=?_);refine P_ 4 13 ?_;refine T_ 5 14 (y:=by rintro w' ⟨s0,s1,s2,s3,s4,s5,s6,s7⟩;go_simp;with_reducible rfl) (h:=?_);refine T_ 8 17 (y:=by rintro w' ⟨s0,s1,s2,s3,s4,s5,s6,s7⟩;go_simp;with_reducible rfl) (h:=?_);refine O_ 9 18 fun K hK=>?_
     refine g_ Tryz.func26 #[.string (rdOf ByteArray.empty bO a1),.agg #[.int .i64 ae,.int .i64 af]] ?_
     with_reducible refine(segment_Get.calls k (rdOf ByteArray.empty bO a1) ae af bG dm _ A5.out).mono ?_
     rintro e EJ ⟨rfl,hb⟩;refine⟨_,rfl,?_⟩;replace aa:=Z_ (blk_below (K_ aa) hb);replace HB:=Hb_ hb;(try clear hb);(try clear hb2);(try clear hk);(try clear hi);refine hK.out _ _ ⟨(blk_cell aa.out 0).trans rfl,(blk_cell aa.out 1).trans rfl,(blk_cell aa.out 2).trans rfl,(blk_cell aa.out 3).trans rfl,(blk_cell aa.out 4).trans rfl,(blk_cell aa.out 5).trans rfl,(blk_cell aa.out 6).trans rfl,(Hc_ HB.out il)⟩ (fun hHeld=>?_);clear hK K;refine Nm_ 18 ?_;refine P_ 10 8 ?_;refine P_ 11 19 ?_;refine P_ 12 20 ?_;refine P_ 13 6 ?_;refine P_ 14 7 ?_;refine done_ (done_of HT_.out (by kernel_rfl)) ?_
     try go_wp2
     replace aa:=Z_ (blk_drew aa.out);replace HB:=Z_ (below_drew1 HB.out);refine start_ (n:=15) (S:=fun w'=>w'.cell? ⟨az,0,none⟩=some (.int .i64 ae)∧w'.cell? ⟨az,1,none⟩=some (.int .i64 af)∧w'.cell? ⟨az,2,none⟩=some (.int .i64 ax)∧w'.cell? ⟨az,3,none⟩=some (.int .i64 aQ)∧w'.cell? ⟨az,4,none⟩=some (.string aW)∧w'.cell? ⟨az,5,none⟩=some (.string eZ)∧w'.cell? ⟨az,6,none⟩=some (.slice (some iV) bO.length fZ)) (ds:= []) #[false,false,false,false,false,false,false,false,false,false,false,false,false,false,false] (by kernel_rfl) rfl rfl ⟨(blk_cell aa.out 0).trans rfl,(blk_cell aa.out 1).trans rfl,(blk_cell aa.out 2).trans rfl,(blk_cell aa.out 3).trans rfl,(blk_cell aa.out 4).trans rfl,(blk_cell aa.out 5).trans rfl,(blk_cell aa.out 6).trans rfl⟩ (fun hHeld=>?_);refine with_tabW file_whole_data.tab2 file_whole_data.bits2 (fun HT_ HW_=>?_);generalize EJ.drew=VB at aa HB hHeld ⊢;refine P_ 0 21 ?_;refine P_ 1 22 ?_;refine P_ 2 23 ?_;refine P_ 3 24 ?_;refine P_ 4 25 ?_;refine P_ 6 27 ?_;refine P_ 8 29 ?_;refine P_ 9 30 ?_;refine T_ 5 26 (y:=by rintro w' ⟨s0,s1,s2,s3,s4,s5,s6⟩;go_simp;with_reducible rfl) (h:=?_);refine T_ 10 31 (y:=by rintro w' ⟨s0,s1,s2,s3,s4,s5,s6⟩;go_simp;with_reducible rfl) (h:=?_);refine O_ 7 28 fun K hK=>?_
     refine g_ Tryz.func97 #[.agg #[.int .i64 ae,.int .i64 af,.int .i64 ax,.int .i64 aQ,.string aW,.string eZ,.slice (some iV) bO.length fZ],.int .i64 a1] ?_
     with_reducible refine(file_whole_frames.calls ae af ax aQ aW eZ _ _ bO a1 t105 _ ?yJ ?yK A7.out).mono ?_
     (case yJ=>repeat (first|exact(Kd.C_below nE.out HB.out)|(with_reducible refine Kd.C_alloc ?_ _)|(with_reducible refine Kd.C_drewN ?_ _)|(with_reducible refine Kd.C_drew ?_)));(case yK=>exact xE.out);rintro e nY ⟨rfl,hb⟩;refine⟨_,rfl,?_⟩;replace aa:=Z_ (blk_below (K_ aa) hb);replace HB:=Hb_ hb;(try clear hb);(try clear hb2);(try clear hk);(try clear hi);refine hK.out _ _ ⟨(blk_cell aa.out 0).trans rfl,(blk_cell aa.out 1).trans rfl,(blk_cell aa.out 2).trans rfl,(blk_cell aa.out 3).trans rfl,(blk_cell aa.out 4).trans rfl,(blk_cell aa.out 5).trans rfl,(blk_cell aa.out 6).trans rfl⟩ (fun hHeld=>?_);clear hK K;refine Nm_ 28 ?_;refine O_ 11 32 fun K hK=>?_
     refine g_ Tryz.func29 #[.agg #[.int .i64 ae,.int .i64 af]] ?_
     with_reducible refine(pcm_Frame.calls ae af ag _ A8.out).mono ?_
     rintro e yM ⟨rfl,hb⟩;refine⟨_,rfl,?_⟩;replace aa:=Z_ (blk_below (K_ aa) hb);replace HB:=Hb_ hb;(try clear hb);(try clear hb2);(try clear hk);(try clear hi);refine hK.out _ _ ⟨(blk_cell aa.out 0).trans rfl,(blk_cell aa.out 1).trans rfl,(blk_cell aa.out 2).trans rfl,(blk_cell aa.out 3).trans rfl,(blk_cell aa.out 4).trans rfl,(blk_cell aa.out 5).trans rfl,(blk_cell aa.out 6).trans rfl⟩ (fun hHeld=>?_);clear hK K;refine Nm_ 32 ?_;refine P_ 12 33 ?_;refine P_ 13 34 ?_;refine P_ 14 35 ?_;refine done_ (done_of HT_.out (by kernel_rfl)) ?_
     try go_wp2
     go_ret2;exact⟨E_,B_⟩
   ·rw[if_neg c6] at H;have c6b0:(dm==0)=false:=beq_eq_false_iff_ne.mpr c6;have c6b1:(dm !=0)=true:=bne_iff_ne.mpr c6;simp only[Option.some.injEq,Prod.mk.injEq] at H;obtain⟨rfl,rfl⟩:=H
    go_enter Tryz.func66,Tryz.ntmps66
    try go_wp2_with (first|((try (refine gate_guard (by rfl) ?_;dsimp only));refine X_ 2 #[.int .i64 ae,.int .i64 af,.int .i64 ax,.int .i64 aQ,.string aW,.string eZ,.slice jf bO.length fZ] 127 ?_;intro az hg zS hbox hb;have aa:=Z_ (hbox);have iy:=Z_ (G2_ hg:w.heap.size≤_);have nu:=iy;replace HB:=Hb_ hb;clear hb hbox hg))
    replace aa:=Z_ (blk_drew aa.out);replace HB:=Z_ (below_drew1 HB.out);have mW:0≤(a1:Int):=od_ A_;have mX:a1<(bO.length:Int):=od_ A_;obtain⟨iV,yI,dW⟩:=Kd.at_string nE.out a1 mW mX;have il:=dW
    cases yI
    replace dW:=Hc_ HB.out dW;replace mW:=eq_true mW;replace mX:=eq_true mX;refine start_ (n:=15) (S:=fun w'=>w'.cell? ⟨az,0,none⟩=some (.int .i64 ae)∧w'.cell? ⟨az,1,none⟩=some (.int .i64 af)∧w'.cell? ⟨az,2,none⟩=some (.int .i64 ax)∧w'.cell? ⟨az,3,none⟩=some (.int .i64 aQ)∧w'.cell? ⟨az,4,none⟩=some (.string aW)∧w'.cell? ⟨az,5,none⟩=some (.string eZ)∧w'.cell? ⟨az,6,none⟩=some (.slice (some iV) bO.length fZ)∧w'.cell? (iV.add (a1).toNat)=some (.string (rdOf ByteArray.empty bO a1))) (ds:= []) #[false,false,false,false,false,false,false,false,false,false,false,false,false,false,false] (by kernel_rfl) rfl rfl ⟨(blk_cell aa.out 0).trans rfl,(blk_cell aa.out 1).trans rfl,(blk_cell aa.out 2).trans rfl,(blk_cell aa.out 3).trans rfl,(blk_cell aa.out 4).trans rfl,(blk_cell aa.out 5).trans rfl,(blk_cell aa.out 6).trans rfl,(Hc_ HB.out il)⟩ (fun hHeld=>?_);refine with_tabW file_whole_data.tab1 file_whole_data.bits1 (fun HT_ HW_=>?_);generalize zS.drew=Cu at aa HB dW hHeld ⊢;refine P_ 0 9 ?_;refine P_ 1 10 ?_;refine P_ 3 12 ?_;refine P_ 6 15 ?_;refine P_ 7 16 ?_;refine T_ 2 11 (y:=by rintro w' ⟨s0,s1,s2,s3,s4,s5,s6,s7⟩;go_simp;with_reducible rfl) (h:=?_);refine P_ 4 13 ?_;refine T_ 5 14 (y:=by rintro w' ⟨s0,s1,s2,s3,s4,s5,s6,s7⟩;go_simp;with_reducible rfl) (h:=?_);refine T_ 8 17 (y:=by rintro w' ⟨s0,s1,s2,s3,s4,s5,s6,s7⟩;go_simp;with_reducible rfl) (h:=?_);refine O_ 9 18 fun K hK=>?_
    refine g_ Tryz.func26 #[.string (rdOf ByteArray.empty bO a1),.agg #[.int .i64 ae,.int .i64 af]] ?_
    with_reducible refine(segment_Get.calls k (rdOf ByteArray.empty bO a1) ae af bG dm _ A5.out).mono ?_
    rintro e tV ⟨rfl,hb⟩;refine⟨_,rfl,?_⟩;replace aa:=Z_ (blk_below (K_ aa) hb);replace HB:=Hb_ hb;(try clear hb);(try clear hb2);(try clear hk);(try clear hi);refine hK.out _ _ ⟨(blk_cell aa.out 0).trans rfl,(blk_cell aa.out 1).trans rfl,(blk_cell aa.out 2).trans rfl,(blk_cell aa.out 3).trans rfl,(blk_cell aa.out 4).trans rfl,(blk_cell aa.out 5).trans rfl,(blk_cell aa.out 6).trans rfl,(Hc_ HB.out il)⟩ (fun hHeld=>?_);clear hK K;refine Nm_ 18 ?_;refine P_ 10 8 ?_;refine P_ 11 19 ?_;refine P_ 12 20 ?_;refine P_ 13 6 ?_;refine P_ 14 7 ?_;refine done_ (done_of HT_.out (by kernel_rfl)) ?_
    try go_wp2
    replace aa:=Z_ (blk_drew aa.out);replace HB:=Z_ (below_drew1 HB.out);refine start_ (n:=15) (S:=fun w'=>True) (ds:= []) #[false,false,false,false,false,false,false,false,false,false,false,false,false,false,false] (by kernel_rfl) rfl rfl trivial (fun hHeld=>?_);refine with_tabW file_whole_data.tab2 file_whole_data.bits2 (fun HT_ HW_=>?_);generalize tV.drew=tX at aa HB hHeld ⊢;refine P_ 0 21 ?_;refine P_ 1 22 ?_;refine P_ 2 23 ?_;refine U_ 3 24 ?_;refine U_ 4 25 ?_;refine U_ 5 26 ?_;refine U_ 6 27 ?_;refine U_ 7 28 ?_;refine U_ 8 29 ?_;refine U_ 9 30 ?_;refine U_ 10 31 ?_;refine U_ 11 32 ?_;refine U_ 12 33 ?_;refine U_ 13 34 ?_;refine P_ 14 35 ?_;refine done_ (done_of HT_.out (by kernel_rfl)) ?_
    try go_wp2
    go_ret2;exact⟨E_,B_⟩
  ·rw[if_neg c4] at H;exact absurd H (by simp)
 ·rw[if_neg c3] at H;exact absurd H (by simp)
end Go.Proofs.YtfghldonnffldaaGreatDoor.ESev
namespace Go.Proofs.YtfghldonnffldaaGreatDoor
open Go.RowKit YtfghldonnffldaaGreatDoorW.PrintWords YtfghldonnffldaaGreatDoorW.PrintLast YtfghldonnffldaaGreatDoorW.PrintMore TBase
open YFou ESev
theorem file_Data.calls(k:Nat)(ae:Int)(af:Int)(ax:Int)(aQ:Int)(aW:ByteArray)(eZ:ByteArray)(jf:Option Addr)(fZ:Nat)(bO:List ByteArray)(a1:Int)(r1:ByteArray)(r2:Bool)(w:World)(lF:Kd.C Kd.string w jf bO.length bO)(mE:bO.length≤fZ)(h:file_whole_data.f k ae af ax aQ aW eZ bO a1=some (r1,r2))(hT:Tabs w:=by exact Tabs.below hT B_):
  Calls Tryz.prog 31 #[.agg #[.int .i64 ae,.int .i64 af,.int .i64 ax,.int .i64 aQ,.string aW,.string eZ,.slice jf bO.length fZ],.int .i64 a1] w fun e w'=>e= .returned (.tuple #[.string r1,.bool r2])∧Below w.heap.size w w':=by
 have lM:=Tryz.underlying49;have Bw:=Tryz.underlying127;have HW:=Lib.hid (file_whole_data.calls k ae af ax aQ aW eZ jf fZ bO a1 r1 r2 (w.alloc (.cells #[.int .i64 ae,.int .i64 af,.int .i64 ax,.int .i64 aQ,.string aW,.string eZ,.slice jf bO.length fZ] 49)) (Kd.C_below lF (below_alloc (Below.refl _ _) _)) mE h (Tabs.below hT (below_alloc (Below.refl _ _) _)));have Y2:Aside0 ((w.alloc (.cells #[.int .i64 ae,.int .i64 af,.int .i64 ax,.int .i64 aQ,.string aW,.string eZ,.slice jf bO.length fZ] 49)).heap[w.heap.size]?=some (.cells #[.int .i64 ae,.int .i64 af,.int .i64 ax,.int .i64 aQ,.string aW,.string eZ,.slice jf bO.length fZ] 49 (0,0))):=⟨blk_new w _⟩;have YB:Aside0 (Below w.heap.size w (w.alloc (.cells #[.int .i64 ae,.int .i64 af,.int .i64 ax,.int .i64 aQ,.string aW,.string eZ,.slice jf bO.length fZ] 49))):=⟨below_alloc (Below.refl _ _) _⟩;clear h hT lF
 go_enter Tryz.func31,Tryz.ntmps31
 have r0:=blk_cell Y2.out 0;have r1':=blk_cell Y2.out 1;have r2':=blk_cell Y2.out 2;have r3:=blk_cell Y2.out 3;have r4:=blk_cell Y2.out 4;have r5:=blk_cell Y2.out 5;have r6:=blk_cell Y2.out 6;simp at r0 r1' r2' r3 r4 r5 r6
 go_wp2_with fail
 refine HW.out.mono ?_;rintro e wk_ ⟨rfl,hb⟩;go_wp2;go_ret2;exact⟨rfl,below_step YB.out hb⟩
end Go.Proofs.YtfghldonnffldaaGreatDoor
namespace Go.Proofs.YtfghldonnffldaaGreatDoor
open Go.RowKit YtfghldonnffldaaGreatDoorW.PrintWords YtfghldonnffldaaGreatDoorW.PrintLast YtfghldonnffldaaGreatDoorW.PrintMore TBase
open YFou ESev ZFiv
def dec.T13:Bool×List (List Nat×List Nat):=(true,[([],[]),([0],[0]),([],[]),([2],[2]),([],[]),([],[]),([5],[5]),([1,3,4,6],[1,3,4,6]),([7,4],[7]),([8],[8]),([9],[9]),([9],[9]),([10,8,0,1,2,3,4,5,6,7,8,9,10],[10]),([11,12,0,1,2,3,4,5,6,7,8,9,10,11,12],[11])])
def dec.B13:List Nat:= [0,1,0,4,0,0,32,127,255,511,1023,1023,2047,8191]
theorem dec.tab13:rtab .any (opsOf Tryz.f13 13)=dec.T13:=by kernel_rfl
theorem dec.bits13:waitsOk dec.T13.2 dec.B13=true:=by kernel_rfl
theorem decode_calls(k k2:Nat)(s:ByteArray)(ch bi sz fr:Nat)(hd tl:ByteArray)(l D:List ByteArray)(p1 p2 p3 p5 q:Nat)(r:ByteArray)(w:World)(hT:Tabs w)(ho:StrOk s ch bi sz fr hd tl l p1 p2 p3 p5 q)(hD:D.length=l.length)(hds:∀i,i<l.length→file_whole_data.f k ch bi sz fr hd tl l (i:Int)=some (D.getD i ByteArray.empty,true))(hdt:tot D≤140737488355328)(hb:wave_Build.f k2 ch bi hd ⟨(flat D).toArray⟩ tl=some (r,0)):
  Calls Tryz.prog 13 #[.string s] w fun e w'=>e= .returned (.tuple #[.string r,.int .i64 0])∧Below w.heap.size w w':=by
 have lM:=Tryz.underlying49;have fH:=Tryz.underlying23;have Ep:=Tryz.underlying57;have HT:=Z_ hT;have HDS:=Z_ hds;have HBD:=Lib.hid hb;have HDL:=Lib.hid hD;have hll:l.length≤65536:=by have h2:=ho.hq;have h3:=ho.fin;have h4:=ho.size;omega
 have SG:=Lib.hid (sget_calls s ch bi sz fr hd tl l p1 p2 p3 p5 q w ho);clear hT hds hb hD ho
 go_enter Tryz.func13,Tryz.ntmps13
 go_wp2_with fail
 refine SG.out.mono ?_;rintro e w1 ⟨v0,rfl,hr,hb⟩;obtain⟨As,cs_,he,hcs,_⟩:=Kd.R_reads hr;subst he;have HS:=Z_ hr;have YW:=Z_ hb;clear hr hb
 go_wp2_with (first|(refine X_ 4 #[.int .i64 0,.int .i64 0,.int .i64 0,.int .i64 0,.string ⟨#[]⟩,.string ⟨#[]⟩,.slice none 0 0] 49 ?_;intro gt hg wk_ hbox hb;have vS:Aside0 (w.heap.size≤gt):=⟨by rw[hg];exact YW.out.size⟩;have HG_:=Z_ hg;have HB_:=Z_ hb;have YT:=Z_ hbox;clear hbox hb hg)|((with_reducible refine gate_store (t:=49) (p:=4) rfl ?_);refine wpList_store_mid rfl 49 _ _ rfl gt 0 #[.int .i64 ch,.int .i64 bi,.int .i64 sz,.int .i64 fr,.string hd,.string tl,.slice As l.length cs_] rfl rfl (there_blk (vs:= [.int .i64 0,.int .i64 0,.int .i64 0,.int .i64 0,.string ⟨#[]⟩,.string ⟨#[]⟩,.slice none 0 0]) YT.out 0 7 (by decide)) (by kernel_rfl) (by simp[Value.oneCell']) ?_;have nc_:=Z_ (setCells_all (vs:= [.int .i64 ch,.int .i64 bi,.int .i64 sz,.int .i64 fr,.string hd,.string tl,.slice As l.length cs_]) (old:= [.int .i64 0,.int .i64 0,.int .i64 0,.int .i64 0,.string ⟨#[]⟩,.string ⟨#[]⟩,.slice none 0 0]) YT.out rfl);have hb:=below_setCells HB_.out (Nat.le_of_eq HG_.out.symm) [.int .i64 ch,.int .i64 bi,.int .i64 sz,.int .i64 fr,.string hd,.string tl,.slice As l.length cs_] 0;replace HS:=Z_ (Kd.R_below HS.out hb);replace YW:=Z_ (below_step YW.out hb);clear hb HB_ HG_ YT;have YT:=nc_;clear nc_;generalize World.setCells _ _ _ _=wk_ at HS YW YT ⊢)|(refine X_ 6 #[.pointer none,.slice none 0 0] 66 ?_;intro gb hg wk_ hbox hb;have HGT:Aside0 (gt<gb):=⟨by rw[hg];exact blk_lt YT.out⟩;have HGB:Aside0 (w.heap.size≤gb):=⟨by rw[hg];exact YW.out.size⟩;have Co:=Z_ (Kd.R_mono (Kd.R_bound HS.out) (ok':=fun k=>k<gb) (fun k hk=>by rw[hg];exact hk.2.2.1));clear HS;have HS:=Co;clear Co;replace HS:=Z_ (Kd.R_below HS.out hb);replace YW:=Z_ (below_step YW.out hb);replace YT:=Z_ (blk_below YT.out hb);have YBX:=Z_ hbox;clear hbox hb hg;have r6:=blk_cell YT.out 6;simp at r6))
 have YB:=Z_ (bldF_new YBX.out);have aZ:=Z_ (Nat.le_of_lt (blk_lt YBX.out));clear YBX
 go_loopg [21] l.length (fun d v21 wr=>∃i:Nat,v21= .int .i64 i∧i+d=l.length∧Aside0 (wr.heap[gt]?=some (.cells #[.int .i64 ch,.int .i64 bi,.int .i64 sz,.int .i64 fr,.string hd,.string tl,.slice As l.length cs_] 49 (0,0)))∧Aside0 (Below w.heap.size w wr)∧Aside0 (Lib.IsBuilderF 66 5 gb gb (Lib.byteCells (flat (D.take i))) wr)∧Aside0 (gb≤wr.heap.size)∧Aside0 (Kd.R Kd.string 9 wr w.heap.size (fun k=>k<gb) (.slice As l.length cs_) l))
 case atStart=>exact⟨0,rfl,by omega,YT,YW,⟨by rw[List.take_zero];exact YB.out⟩,aZ,HS⟩
 case round=>
  clear YT YW YB aZ HS r6;obtain⟨i,rfl,hi,YT,YW,YB,aZ,HS⟩:=hrel
  cases gk with
  |zero=>
   obtain rfl:l.length=i:=by omega
   have e1:D.take l.length=D:=List.take_of_length_le (by rw[HDL.out];exact Nat.le_refl _);rw[e1] at YB;obtain⟨LL,hL⟩:∃L,flat D=L:=⟨_,rfl⟩;rw[hL] at YB HBD;clear hL e1;go_wp2;replace YT:=Z_ (blk_drew YT.out);replace YW:=Z_ (below_drew1 YW.out);replace YB:=Z_ (bldF_below YB.out (below_drew (Below.refl _ _)));replace aZ:=Z_ (size_drew aZ.out);replace HS:=Z_ (Kd.R_drew HS.out);refine start_ (n:=14) (S:=fun w'=>w'.heap[gt]?=some (.cells #[.int .i64 ch,.int .i64 bi,.int .i64 sz,.int .i64 fr,.string hd,.string tl,.slice As l.length cs_] 49 (0,0))) (ds:= []) #[false,false,false,false,false,false,false,false,false,false,false,false,false,false] (by kernel_rfl) rfl rfl YT.out (fun hHeld=>?_);refine with_tabW dec.tab13 dec.bits13 (fun HT_ HW_=>?_);generalize World.drew _=wk_ at YT YW YB aZ HS hHeld ⊢;refine P_ 0 36 ?_;refine P_ 2 38 ?_;refine P_ 5 41 ?_;refine T_ 1 37 (y:=by rintro w' s0;have r0:=blk_cell s0 0;have r1:=blk_cell s0 1;have r2:=blk_cell s0 2;have r3:=blk_cell s0 3;have r4:=blk_cell s0 4;have r5:=blk_cell s0 5;simp at r0 r1 r2 r3 r4 r5;go_simp;with_reducible rfl) (h:=?_);refine T_ 3 39 (y:=by rintro w' s0;have r0:=blk_cell s0 0;have r1:=blk_cell s0 1;have r2:=blk_cell s0 2;have r3:=blk_cell s0 3;have r4:=blk_cell s0 4;have r5:=blk_cell s0 5;simp at r0 r1 r2 r3 r4 r5;go_simp;with_reducible rfl) (h:=?_);refine T_ 6 42 (y:=by rintro w' s0;have r0:=blk_cell s0 0;have r1:=blk_cell s0 1;have r2:=blk_cell s0 2;have r3:=blk_cell s0 3;have r4:=blk_cell s0 4;have r5:=blk_cell s0 5;simp at r0 r1 r2 r3 r4 r5;go_simp;with_reducible rfl) (h:=?_);refine O_ 4 40 fun K hK=>?_
   refine g_ Tryz.func34 #[.pointer (some ⟨gb,0,none⟩)] ?_;refine(str_calls gb LL _ YB.out aZ.out).mono ?_;rintro e wk_ ⟨rfl,hbb,hbw⟩;refine⟨_,rfl,?_⟩;replace YT:=Z_ ((hbw.block gt HGT.out).trans YT.out);replace YW:=Z_ (YW.out.trans (hbw.mono HGB.out));replace YB:=Z_ hbb;replace aZ:=Z_ (Nat.le_trans aZ.out hbw.size);replace HS:=Z_ (Kd.R_step HS.out (fun k_ hk_ _=>hbw.block k_ hk_));clear hbw hbb;refine hK.out _ _ YT.out (fun hHeld=>?_);clear hK K;refine Nm_ 40 ?_;refine P_ 7 43 ?_;refine O_ 8 44 fun K hK=>?_
   refine g_ Tryz.func33 #[.agg #[.int .i64 ch,.int .i64 bi,.string hd,.string ⟨LL.toArray⟩,.string tl]] ?_;refine(wave_Build.calls k2 ch bi hd ⟨LL.toArray⟩ tl _ _ _ HBD.out).mono ?_;rintro e wk_ ⟨rfl,hb⟩;refine⟨_,rfl,?_⟩;replace HS:=Z_ (Kd.R_below HS.out hb);replace YW:=Z_ (below_step YW.out hb);replace YT:=Z_ (blk_below YT.out hb);replace YB:=Z_ (bldF_below YB.out hb);replace aZ:=Z_ (Nat.le_trans aZ.out hb.size);clear hb;refine hK.out _ _ YT.out (fun hHeld=>?_);clear hK K;refine Nm_ 44 ?_;refine P_ 9 35 ?_;refine P_ 10 45 ?_;refine P_ 11 46 ?_;refine P_ 12 10 ?_;refine P_ 13 5 ?_;refine done_ (done_of HT_.out (by kernel_rfl)) ?_;go_wp2;go_ret2;exact⟨rfl,YW.out⟩
  |succ d=>
   have hlt:i<l.length:=by omega
   have hlt':(i:Int)<l.length:=by omega
   have hi0:(0:Int)≤i:=by omega
   have HF:=Lib.hid (HDS.out i hlt);have hst:=flat_at D i (by rw[HDL.out];exact hlt)
   have hsn:D.take (i+1)=D.take i++ [D.getD i ByteArray.empty]:=by
    have h9:i<D.length:=by rw[HDL.out];exact hlt
    rw[List.take_succ_eq_append_getElem h9,gD_,gE_ h9];rfl
   have hfl:flat (D.take (i+1))=flat (D.take i)++(D.getD i ByteArray.empty).data.toList:=by
    rw[hsn];unfold flat;rw[List.map_append,List.flatten_append];simp
   have hle:=tot_le D (i+1);rw[←flat_len (D.take (i+1)),hfl,List.length_append,data_length] at hle;obtain⟨x,hx⟩:∃x,D.getD i ByteArray.empty=x:=⟨_,rfl⟩;rw[hx] at HF hfl hle;obtain⟨L,hL⟩:∃L,flat (D.take i)=L:=⟨_,rfl⟩;rw[hL] at YB hfl hle;have HFL:=Lib.hid hfl;have hbd:L.length+x.size≤140737488355328:=by omega
   clear hst hsn hfl hle hx hL
   go_wp2_with (first|((with_reducible refine gate_dst (N:=25) rfl ?_);refine wpList_load_mid rfl 49 _ rfl gt 0 rfl [.int .i64 ch,.int .i64 bi,.int .i64 sz,.int .i64 fr,.string hd,.string tl,.slice As l.length cs_] _ (range_all YT.out) Tryz.underlying49 rfl (by kernel_rfl) ?_))
   refine(file_Data.calls k ch bi sz fr hd tl As cs_ l i _ _ _ (Kd.R_reads' HS.out).2.2 hcs HF.out (Tabs.below HT.out YW.out)).mono ?_;rintro e wk_ ⟨rfl,hb⟩;replace HS:=Z_ (Kd.R_below HS.out hb);replace YW:=Z_ (below_step YW.out hb);replace YT:=Z_ (blk_below YT.out hb);replace YB:=Z_ (bldF_below YB.out hb);replace aZ:=Z_ (Nat.le_trans aZ.out hb.size);clear hb
   go_wp2_with fail
   refine(wstr_calls gb L x _ YB.out hbd aZ.out).mono ?_;rintro e wk_ ⟨rfl,hbb,hbw⟩;replace YT:=Z_ ((hbw.block gt HGT.out).trans YT.out);replace YW:=Z_ (YW.out.trans (hbw.mono HGB.out));replace YB:=Z_ hbb;replace aZ:=Z_ (Nat.le_trans aZ.out hbw.size);replace HS:=Z_ (Kd.R_step HS.out (fun k_ hk_ _=>hbw.block k_ hk_));clear hbw hbb;go_wp2
   go_roundg d
   case measure=>omega
   case rel=>exact⟨i+1,by go_num,by omega,YT,YW,⟨by rw[HFL.out];exact YB.out⟩,aZ,HS⟩
def rng.T17:Bool×List (List Nat×List Nat):=(true,[([],[]),([0],[0]),([1],[1]),([],[]),([],[]),([4],[4]),([3,5],[3,5]),([2,2,0,1,2],[2]),([6,7,0,1,2,3,4,5,6,7],[6])])
def rng.B17:List Nat:= [0,1,3,0,0,16,56,7,255]
theorem rng.tab17:rtab .any (opsOf Tryz.f19 17)=rng.T17:=by kernel_rfl
theorem rng.bits17:waitsOk rng.T17.2 rng.B17=true:=by kernel_rfl
theorem w_sub(a u x:Nat)(h:u≤a)(hb:a≤4096)(e:a - u=x):wrap64 ((a:Int) - u)=(x:Int):=by unfold wrap64;omega
theorem w_mul(x y z:Nat)(e:x*y=z)(hb:z≤9223372036854775807):wrap64 ((x:Int)*(y:Int))=(z:Int):=by
 rw[←Int.natCast_mul,e];unfold wrap64;omega
theorem w_succ(i:Nat)(h:i≤65536):wrap64 ((i:Int)+1)=((i+1:Nat):Int):=by unfold wrap64;omega
theorem w_id(x:Nat)(hb:x≤9223372036854775807):wrap64 (x:Int)=(x:Int):=by unfold wrap64;omega
theorem range_calls(k:Nat)(s:ByteArray)(ch bi sz fr:Nat)(hd tl:ByteArray)(l D:List ByteArray)(p1 p2 p3 p5 q:Nat)(a b f0 e0 fs_:Nat)(w:World)(hT:Tabs w)(ho:StrOk s ch bi sz fr hd tl l p1 p2 p3 p5 q)(hab:a<b)(hb:b≤fr)(hf0:a / sz=f0)(he0:∀i:Nat,i<e0↔i*sz<b)(hel:e0≤l.length)(hfe:f0≤e0)(hds:∀i,f0≤i→i<e0→file_whole_data.f k ch bi sz fr hd tl l (i:Int)=some (D.getD i ByteArray.empty,true))(hD:D.length=l.length)(hdt:tot D≤140737488355328)(hfr:pcm_Frame.f ch bi=some (fs_:Int))(hfs:fs_≤4)(hlen:(b - f0*sz)*fs_≤tot ((D.drop f0).take (e0 - f0))):
  Calls Tryz.prog 19 #[.string s,.int .i64 a,.int .i64 b] w fun e w'=>e= .returned (.tuple #[.string ((⟨(flat ((D.drop f0).take (e0 - f0))).toArray⟩:ByteArray).extract ((a - f0*sz)*fs_) ((b - f0*sz)*fs_)),.int .i64 0])∧Below w.heap.size w w':=by
 have lM:=Tryz.underlying49;have fH:=Tryz.underlying23;have HT:=Z_ hT;have HDS:=Z_ hds;have HFR:=Lib.hid hfr;have HDL:=Lib.hid hD;have WT:=Z_ he0;have hll:l.length≤65536:=by have h2:=ho.hq;have h3:=ho.fin;have h4:=ho.size;omega
 have hok:=ho.ok;obtain⟨_,_,hz1,hz2,_,hz3,_,_⟩:=hok;have SG:=Lib.hid (sget_calls s ch bi sz fr hd tl l p1 p2 p3 p5 q w ho);clear hT hds hfr hD ho;have b1:¬((a:Int)<0):=by omega
 have b2:¬((b:Int)<a):=by omega
 have b3:¬((fr:Int)<b):=by omega
 have b4:¬((a:Int)=b):=by omega
 have b5:¬((sz:Int)=0):=by omega
 have b6:Int.tdiv (a:Int) (sz:Int)=(f0:Int):=by rw[←hf0];rfl
 have b7:=w_id f0 (by omega);have hu:f0*sz≤a:=by rw[←hf0];exact Nat.div_mul_le_self a sz
 have hzb:∀i:Nat,i≤e0→i*sz≤65536*64:=fun i hi=>Nat.mul_le_mul (by omega) (by omega)
 have HZB:=Z_ hzb;have hx2:(b - f0*sz)*fs_≤4096*4:=Nat.mul_le_mul (by omega) hfs;have hx1:(a - f0*sz)*fs_≤(b - f0*sz)*fs_:=Nat.mul_le_mul_right _ (by omega);obtain⟨res,hres⟩:∃r,(⟨(flat ((D.drop f0).take (e0 - f0))).toArray⟩:ByteArray).extract ((a - f0*sz)*fs_) ((b - f0*sz)*fs_)=r:=⟨_,rfl⟩;rw[hres];obtain⟨u1,hu1⟩:∃u,f0*sz=u:=⟨_,rfl⟩;rw[hu1] at hu hx2 hx1 hlen hres;have hb4:b≤4096:=by clear hlen hdt hx1 hx2;omega
 have R7:a≤4096:=Nat.le_trans (Nat.le_of_lt hab) hb4;have g1:=w_mul f0 sz u1 hu1 (Nat.le_trans hu (Nat.le_trans R7 (by decide)));obtain⟨x1,hx1e⟩:∃u,a - u1=u:=⟨_,rfl⟩;obtain⟨x2,hx2e⟩:∃u,b - u1=u:=⟨_,rfl⟩;have g2:=w_sub a u1 x1 hu R7 hx1e;have g3:=w_sub b u1 x2 (Nat.le_trans hu (Nat.le_of_lt hab)) hb4 hx2e;rw[hx1e] at hx1 hres;rw[hx2e] at hx2 hx1 hlen hres;obtain⟨y1,hy1⟩:∃u,x1*fs_=u:=⟨_,rfl⟩;obtain⟨y2,hy2⟩:∃u,x2*fs_=u:=⟨_,rfl⟩;rw[hy1] at hx1 hres;rw[hy2] at hx2 hx1 hlen hres;have g4:=w_mul x1 fs_ y1 hy1 (Nat.le_trans hx1 (Nat.le_trans hx2 (by decide)));have g5:=w_mul x2 fs_ y2 hy2 (Nat.le_trans hx2 (by decide));have RES:=Lib.hid hres;have HLEN:=Z_ hlen;have G1:=Lib.hid g1;have G2:=Lib.hid g2;have G3:=Lib.hid g3;have G4:=Lib.hid g4;have G5:=Lib.hid g5;have WU:=Z_ hx1;have WV:=Z_ hx2;clear g1 g2 g3 g4 g5 hx1 hx2 R7 hb4;clear hres hlen hu1 hx1e hx2e hy1 hy2 hzb hu;have HDT:=Z_ hdt;have R8:=Z_ hll;clear he0 hf0 hfs hdt hz3 hll
 go_enter Tryz.func19,Tryz.ntmps19
 go_wp2_with fail
 refine SG.out.mono ?_;rintro e w1 ⟨v0,rfl,hr,hb⟩;obtain⟨As,cs_,he,hcs,_⟩:=Kd.R_reads hr;subst he;have HS:=Z_ hr;have YW:=Z_ hb;clear hr hb
 go_wp2_with (first|(refine X_ 8 #[.int .i64 0,.int .i64 0,.int .i64 0,.int .i64 0,.string ⟨#[]⟩,.string ⟨#[]⟩,.slice none 0 0] 49 ?_;intro gt hg wk_ hbox hb;have vS:Aside0 (w.heap.size≤gt):=⟨by rw[hg];exact YW.out.size⟩;have HG_:=Z_ hg;have HB_:=Z_ hb;have YT:=Z_ hbox;clear hbox hb hg)|((with_reducible refine gate_store (t:=49) (p:=8) rfl ?_);refine wpList_store_mid rfl 49 _ _ rfl gt 0 #[.int .i64 ch,.int .i64 bi,.int .i64 sz,.int .i64 fr,.string hd,.string tl,.slice As l.length cs_] rfl rfl (there_blk (vs:= [.int .i64 0,.int .i64 0,.int .i64 0,.int .i64 0,.string ⟨#[]⟩,.string ⟨#[]⟩,.slice none 0 0]) YT.out 0 7 (by decide)) (by kernel_rfl) (by simp[Value.oneCell']) ?_;have nc_:=Z_ (setCells_all (vs:= [.int .i64 ch,.int .i64 bi,.int .i64 sz,.int .i64 fr,.string hd,.string tl,.slice As l.length cs_]) (old:= [.int .i64 0,.int .i64 0,.int .i64 0,.int .i64 0,.string ⟨#[]⟩,.string ⟨#[]⟩,.slice none 0 0]) YT.out rfl);have hb:=below_setCells HB_.out (Nat.le_of_eq HG_.out.symm) [.int .i64 ch,.int .i64 bi,.int .i64 sz,.int .i64 fr,.string hd,.string tl,.slice As l.length cs_] 0;replace HS:=Z_ (Kd.R_below HS.out hb);replace YW:=Z_ (below_step YW.out hb);clear hb HB_ HG_ YT;have YT:=nc_;clear nc_;generalize World.setCells _ _ _ _=wk_ at HS YW YT ⊢;have r2:=blk_cell YT.out 2;have r3:=blk_cell YT.out 3;simp at r2 r3)|(refine X_ 11 #[.pointer none,.slice none 0 0] 66 ?_;intro gb hg wk_ hbox hb;have HGT:Aside0 (gt<gb):=⟨by rw[hg];exact blk_lt YT.out⟩;have HGB:Aside0 (w.heap.size≤gb):=⟨by rw[hg];exact YW.out.size⟩;have Co:=Z_ (Kd.R_mono (Kd.R_bound HS.out) (ok':=fun k=>k<gb) (fun k hk=>by rw[hg];exact hk.2.2.1));clear HS;have HS:=Co;clear Co;replace HS:=Z_ (Kd.R_below HS.out hb);replace YW:=Z_ (below_step YW.out hb);replace YT:=Z_ (blk_below YT.out hb);have YBX:=Z_ hbox;clear hbox hb hg;have r1:=blk_cell YT.out 2;simp at r1))
 have YB:=Z_ (bldF_new YBX.out);have aZ:=Z_ (Nat.le_of_lt (blk_lt YBX.out));clear YBX
 go_loopg [12] (e0 - f0) (fun d v12 wr=>∃i:Nat,v12= .int .i64 i∧i+d=e0∧f0≤i∧Aside0 (wr.heap[gt]?=some (.cells #[.int .i64 ch,.int .i64 bi,.int .i64 sz,.int .i64 fr,.string hd,.string tl,.slice As l.length cs_] 49 (0,0)))∧Aside0 (Below w.heap.size w wr)∧Aside0 (Lib.IsBuilderF 66 5 gb gb (Lib.byteCells (flat ((D.drop f0).take (i - f0)))) wr)∧Aside0 (gb≤wr.heap.size)∧Aside0 (Kd.R Kd.string 9 wr w.heap.size (fun k=>k<gb) (.slice As l.length cs_) l))
 case atStart=>exact⟨f0,rfl,Nat.add_sub_cancel' hfe,Nat.le_refl _,YT,YW,⟨by rw[Nat.sub_self,List.take_zero];exact YB.out⟩,aZ,HS⟩
 case round=>
  clear YT YW YB aZ HS r1 r2 r3;obtain⟨i,rfl,hi,hi2,YT,YW,YB,aZ,HS⟩:=hrel;have r2:=blk_cell YT.out 2;simp at r2;have hib:=HZB.out i (hi▸Nat.le_add_right i _);have hlz:=WT.out i;obtain⟨z,hz⟩:∃z,i*sz=z:=⟨_,rfl⟩;rw[hz] at hib hlz;have g6:=w_mul i sz z hz (Nat.le_trans hib (by decide));clear hz
  cases gk with
  |zero=>
   obtain rfl:e0=i:=(show i=e0 from hi).symm
   have g7:¬((z:Int)<b):=by
    intro h;exact absurd (hlz.2 (Int.ofNat_lt.1 h)) (Nat.lt_irrefl _)
   have g1:=G1.out;have g2:=G2.out;have g3:=G3.out;have g4:=G4.out;have g5:=G5.out;have hx1:=WU.out;have hx2:=WV.out;have h8:=flat_len ((D.drop f0).take (e0 - f0));have h9:=HLEN.out;rw[←h8] at h9;obtain⟨LL,hL⟩:∃L,flat ((D.drop f0).take (e0 - f0))=L:=⟨_,rfl⟩;rw[hL] at YB h9;have HLL:=Lib.hid hL;clear hL h8 hlz
   have c1:((y2:Nat):Int)≤((⟨LL.toArray⟩:ByteArray).size:Int):=Int.ofNat_le.2 (by
    have:(⟨LL.toArray⟩:ByteArray).size=LL.length:=List.size_toArray;rw[this]
    exact h9)
   have c2:(y1:Int)≤(y2:Int):=Int.ofNat_le.2 hx1;have c3:(0:Int)≤(y1:Int):=Int.natCast_nonneg _;obtain⟨t,ht⟩:∃t:ByteArray,⟨LL.toArray⟩=t:=⟨_,rfl⟩;rw[ht] at c1;have CS:=Lib.hid (fun W h1 h2=>str_calls gb LL W h1 h2);rw[ht] at CS;have HTT:=Lib.hid ht;clear ht;go_wp2;replace YT:=Z_ (blk_drew YT.out);replace YW:=Z_ (below_drew1 YW.out);replace YB:=Z_ (bldF_below YB.out (below_drew (Below.refl _ _)));replace aZ:=Z_ (size_drew aZ.out);replace HS:=Z_ (Kd.R_drew HS.out);refine start_ (n:=9) (S:=fun w'=>w'.heap[gt]?=some (.cells #[.int .i64 ch,.int .i64 bi,.int .i64 sz,.int .i64 fr,.string hd,.string tl,.slice As l.length cs_] 49 (0,0))) (ds:= []) #[false,false,false,false,false,false,false,false,false] (by kernel_rfl) rfl rfl YT.out (fun hHeld=>?_);refine with_tabW rng.tab17 rng.bits17 (fun HT_ HW_=>?_);generalize World.drew _=wk_ at YT YW YB aZ HS hHeld ⊢;refine P_ 0 66 ?_;refine P_ 3 69 ?_;refine P_ 4 70 ?_;refine T_ 1 67 (y:=by rintro w' s0;have r0:=blk_cell s0 0;have r1:=blk_cell s0 1;have r2:=blk_cell s0 2;have r3:=blk_cell s0 3;have r4:=blk_cell s0 4;have r5:=blk_cell s0 5;simp at r0 r1 r2 r3 r4 r5;go_simp;with_reducible rfl) (h:=?_);refine T_ 5 71 (y:=by rintro w' s0;have r0:=blk_cell s0 0;have r1:=blk_cell s0 1;have r2:=blk_cell s0 2;have r3:=blk_cell s0 3;have r4:=blk_cell s0 4;have r5:=blk_cell s0 5;simp at r0 r1 r2 r3 r4 r5;go_simp;with_reducible rfl) (h:=?_);refine P_ 6 72 ?_;refine O_ 2 68 fun K hK=>?_
   refine g_ Tryz.func29 #[.agg #[.int .i64 ch,.int .i64 bi]] ?_;refine(pcm_Frame.calls ch bi fs_ _ HFR.out).mono ?_;rintro e wk_ ⟨rfl,hb⟩;refine⟨_,rfl,?_⟩;replace HS:=Z_ (Kd.R_below HS.out hb);replace YW:=Z_ (below_step YW.out hb);replace YT:=Z_ (blk_below YT.out hb);replace YB:=Z_ (bldF_below YB.out hb);replace aZ:=Z_ (Nat.le_trans aZ.out hb.size);clear hb;refine hK.out _ _ YT.out (fun hHeld=>?_);clear hK K;refine Nm_ 68 ?_;refine P_ 7 15 ?_;refine P_ 8 16 ?_;refine done_ (done_of HT_.out (by kernel_rfl)) ?_
   go_wp2_with fail
   refine(CS.out _ YB.out aZ.out).mono ?_;rintro e wk_ ⟨rfl,hbb,hbw⟩;replace YT:=Z_ ((hbw.block gt HGT.out).trans YT.out);replace YW:=Z_ (YW.out.trans (hbw.mono HGB.out));replace YB:=Z_ hbb;replace aZ:=Z_ (Nat.le_trans aZ.out hbw.size);replace HS:=Z_ (Kd.R_step HS.out (fun k_ hk_ _=>hbw.block k_ hk_));clear hbw hbb;go_wp2;go_ret2;exact⟨by rw[←RES.out,HLL.out,HTT.out];rfl,YW.out⟩
  |succ d=>
   have g7:(z:Int)<b:=by
    have hie:i<e0:=by rw[←hi];exact Nat.lt_add_of_pos_right (Nat.succ_pos d)
    exact Int.ofNat_lt.2 (hlz.1 hie)
   have hie:i<e0:=by rw[←hi];exact Nat.lt_add_of_pos_right (Nat.succ_pos d)
   clear hlz;have hlt:i<l.length:=Nat.lt_of_lt_of_le hie hel;have hlt':(i:Int)<l.length:=Int.ofNat_lt.2 hlt;have hi0:(0:Int)≤i:=Int.natCast_nonneg _;have HF:=Lib.hid (HDS.out i hi2 hie)
   have hsn:(D.drop f0).take (i+1 - f0)=(D.drop f0).take (i - f0)++ [D.getD i ByteArray.empty]:=by
    have h9:i - f0<(D.drop f0).length:=by rw[List.length_drop,HDL.out];exact Nat.sub_lt_sub_right hi2 hlt
    have e9:i+1 - f0=i - f0+1:=Nat.sub_add_comm hi2;rw[e9,List.take_succ_eq_append_getElem h9,List.getElem_drop]
    congr 2
    have e8:f0+(i - f0)=i:=Nat.add_sub_cancel' hi2;rw[gD_,gE_ (by rw[HDL.out];exact hlt)];simp only[e8];rfl
   have hfl:flat ((D.drop f0).take (i+1 - f0))=flat ((D.drop f0).take (i - f0))++(D.getD i ByteArray.empty).data.toList:=by
    rw[hsn];unfold flat;rw[List.map_append,List.flatten_append];simp
   have hle:=tot_le (D.drop f0) (i+1 - f0);rw[←flat_len ((D.drop f0).take (i+1 - f0)),hfl,List.length_append,data_length] at hle
   have hle2:tot (D.drop f0)≤tot D:=by
    have:tot D=tot (D.take f0)+tot (D.drop f0):=by
     unfold tot;rw[←List.sum_append,←List.map_append,List.take_append_drop]
    rw[this];exact Nat.le_add_left _ _
   obtain⟨x,hx⟩:∃x,D.getD i ByteArray.empty=x:=⟨_,rfl⟩;rw[hx] at HF hfl hle;obtain⟨L,hL⟩:∃L,flat ((D.drop f0).take (i - f0))=L:=⟨_,rfl⟩;rw[hL] at YB hfl hle;have HFL:=Lib.hid hfl;have hbd:L.length+x.size≤140737488355328:=Nat.le_trans hle (Nat.le_trans hle2 HDT.out);clear hsn hfl hle hle2 hx hL
   go_wp2_with (first|((with_reducible refine gate_dst (N:=57) rfl ?_);refine wpList_load_mid rfl 49 _ rfl gt 0 rfl [.int .i64 ch,.int .i64 bi,.int .i64 sz,.int .i64 fr,.string hd,.string tl,.slice As l.length cs_] _ (range_all YT.out) Tryz.underlying49 rfl (by kernel_rfl) ?_))
   clear r2;refine(file_Data.calls k ch bi sz fr hd tl As cs_ l i _ _ _ (Kd.R_reads' HS.out).2.2 hcs HF.out (Tabs.below HT.out YW.out)).mono ?_;rintro e wk_ ⟨rfl,hb⟩;replace HS:=Z_ (Kd.R_below HS.out hb);replace YW:=Z_ (below_step YW.out hb);replace YT:=Z_ (blk_below YT.out hb);replace YB:=Z_ (bldF_below YB.out hb);replace aZ:=Z_ (Nat.le_trans aZ.out hb.size);clear hb
   go_wp2_with fail
   refine(wstr_calls gb L x _ YB.out hbd aZ.out).mono ?_;rintro e wk_ ⟨rfl,hbb,hbw⟩;replace YT:=Z_ ((hbw.block gt HGT.out).trans YT.out);replace YW:=Z_ (YW.out.trans (hbw.mono HGB.out));replace YB:=Z_ hbb;replace aZ:=Z_ (Nat.le_trans aZ.out hbw.size);replace HS:=Z_ (Kd.R_step HS.out (fun k_ hk_ _=>hbw.block k_ hk_));clear hbw hbb;go_wp2
   go_roundg d
   case measure=>clear hlt' hi0 g7 g6;omega
   case rel=>
    have hll:=R8.out;have hws:=w_succ i (Nat.le_trans (Nat.le_of_lt hlt) hll);clear b1 b2 b3 b4 b5 b6 b7 g6 g7;exact⟨i+1,by first|(rw[hws])|(simp only[hws])|go_num,by rw[←hi,Nat.add_assoc,Nat.add_comm 1 d],Nat.le_succ_of_le hi2,YT,YW,⟨by rw[HFL.out];exact YB.out⟩,aZ,HS⟩
theorem rangeE_calls(s:ByteArray)(ch bi sz fr:Nat)(hd tl:ByteArray)(l:List ByteArray)(p1 p2 p3 p5 q:Nat)(a b:Int)(w:World)(ho:StrOk s ch bi sz fr hd tl l p1 p2 p3 p5 q)(hab:a<0∨b<a∨(fr:Int)<b):
  Calls Tryz.prog 19 #[.string s,.int .i64 a,.int .i64 b] w fun e w'=>e= .returned (.tuple #[.string ⟨#[]⟩,.int .i64 2501])∧Below w.heap.size w w':=by
 have lM:=Tryz.underlying49;have SG:=Lib.hid (sget_calls s ch bi sz fr hd tl l p1 p2 p3 p5 q w ho);clear ho
 have hc:a<0∨(¬a<0∧b<a)∨(¬a<0∧¬b<a∧(fr:Int)<b):=by
  by_cases h1:a<0
  ·exact .inl h1
  ·by_cases h2:b<a
   ·exact .inr (.inl ⟨h1,h2⟩)
   ·exact .inr (.inr ⟨h1,h2,by rcases hab with h|h|h<;>first|exact absurd h h1|exact absurd h h2|exact h⟩)
 clear hab
 go_enter Tryz.func19,Tryz.ntmps19
 go_wp2_with fail
 refine SG.out.mono ?_;rintro e w1 ⟨v0,rfl,hr,hb⟩;obtain⟨As,cs_,he,hcs,_⟩:=Kd.R_reads hr;subst he;have HS:=Z_ hr;have YW:=Z_ hb;clear hr hb
 rcases hc with h1|⟨h1,h2⟩|⟨h1,h2,h3⟩
 all_goals
  go_wp2_with (first|(refine X_ 8 #[.int .i64 0,.int .i64 0,.int .i64 0,.int .i64 0,.string ⟨#[]⟩,.string ⟨#[]⟩,.slice none 0 0] 49 ?_;intro gt hg wk_ hbox hb;have vS:Aside0 (w.heap.size≤gt):=⟨by rw[hg];exact YW.out.size⟩;have HG_:=Z_ hg;have HB_:=Z_ hb;have YT:=Z_ hbox;clear hbox hb hg)|((with_reducible refine gate_store (t:=49) (p:=8) rfl ?_);refine wpList_store_mid rfl 49 _ _ rfl gt 0 #[.int .i64 ch,.int .i64 bi,.int .i64 sz,.int .i64 fr,.string hd,.string tl,.slice As l.length cs_] rfl rfl (there_blk (vs:= [.int .i64 0,.int .i64 0,.int .i64 0,.int .i64 0,.string ⟨#[]⟩,.string ⟨#[]⟩,.slice none 0 0]) YT.out 0 7 (by decide)) (by kernel_rfl) (by simp[Value.oneCell']) ?_;have nc_:=Z_ (setCells_all (vs:= [.int .i64 ch,.int .i64 bi,.int .i64 sz,.int .i64 fr,.string hd,.string tl,.slice As l.length cs_]) (old:= [.int .i64 0,.int .i64 0,.int .i64 0,.int .i64 0,.string ⟨#[]⟩,.string ⟨#[]⟩,.slice none 0 0]) YT.out rfl);have hb:=below_setCells HB_.out (Nat.le_of_eq HG_.out.symm) [.int .i64 ch,.int .i64 bi,.int .i64 sz,.int .i64 fr,.string hd,.string tl,.slice As l.length cs_] 0;replace HS:=Z_ (Kd.R_below HS.out hb);replace YW:=Z_ (below_step YW.out hb);clear hb HB_ HG_ YT;have YT:=nc_;clear nc_;generalize World.setCells _ _ _ _=wk_ at HS YW YT ⊢;have r2:=blk_cell YT.out 2;have r3:=blk_cell YT.out 3;simp at r2 r3))
  go_ret2;exact⟨rfl,YW.out⟩
theorem rangeZ_calls(s:ByteArray)(ch bi sz fr:Nat)(hd tl:ByteArray)(l:List ByteArray)(p1 p2 p3 p5 q:Nat)(a:Nat)(w:World)(ho:StrOk s ch bi sz fr hd tl l p1 p2 p3 p5 q)(hab:a≤fr):
  Calls Tryz.prog 19 #[.string s,.int .i64 a,.int .i64 a] w fun e w'=>e= .returned (.tuple #[.string ⟨#[]⟩,.int .i64 0])∧Below w.heap.size w w':=by
 have lM:=Tryz.underlying49;have SG:=Lib.hid (sget_calls s ch bi sz fr hd tl l p1 p2 p3 p5 q w ho);clear ho;have b1:¬((a:Int)<0):=by omega
 have b2:¬((a:Int)<a):=by omega
 have b3:¬((fr:Int)<a):=by omega
 go_enter Tryz.func19,Tryz.ntmps19
 go_wp2_with fail
 refine SG.out.mono ?_;rintro e w1 ⟨v0,rfl,hr,hb⟩;obtain⟨As,cs_,he,hcs,_⟩:=Kd.R_reads hr;subst he;have HS:=Z_ hr;have YW:=Z_ hb;clear hr hb
 go_wp2_with (first|(refine X_ 8 #[.int .i64 0,.int .i64 0,.int .i64 0,.int .i64 0,.string ⟨#[]⟩,.string ⟨#[]⟩,.slice none 0 0] 49 ?_;intro gt hg wk_ hbox hb;have vS:Aside0 (w.heap.size≤gt):=⟨by rw[hg];exact YW.out.size⟩;have HG_:=Z_ hg;have HB_:=Z_ hb;have YT:=Z_ hbox;clear hbox hb hg)|((with_reducible refine gate_store (t:=49) (p:=8) rfl ?_);refine wpList_store_mid rfl 49 _ _ rfl gt 0 #[.int .i64 ch,.int .i64 bi,.int .i64 sz,.int .i64 fr,.string hd,.string tl,.slice As l.length cs_] rfl rfl (there_blk (vs:= [.int .i64 0,.int .i64 0,.int .i64 0,.int .i64 0,.string ⟨#[]⟩,.string ⟨#[]⟩,.slice none 0 0]) YT.out 0 7 (by decide)) (by kernel_rfl) (by simp[Value.oneCell']) ?_;have nc_:=Z_ (setCells_all (vs:= [.int .i64 ch,.int .i64 bi,.int .i64 sz,.int .i64 fr,.string hd,.string tl,.slice As l.length cs_]) (old:= [.int .i64 0,.int .i64 0,.int .i64 0,.int .i64 0,.string ⟨#[]⟩,.string ⟨#[]⟩,.slice none 0 0]) YT.out rfl);have hb:=below_setCells HB_.out (Nat.le_of_eq HG_.out.symm) [.int .i64 ch,.int .i64 bi,.int .i64 sz,.int .i64 fr,.string hd,.string tl,.slice As l.length cs_] 0;replace HS:=Z_ (Kd.R_below HS.out hb);replace YW:=Z_ (below_step YW.out hb);clear hb HB_ HG_ YT;have YT:=nc_;clear nc_;generalize World.setCells _ _ _ _=wk_ at HS YW YT ⊢;have r2:=blk_cell YT.out 2;have r3:=blk_cell YT.out 3;simp at r2 r3))
 go_ret2;exact⟨rfl,YW.out⟩
theorem rangeF_calls(k:Nat)(s:ByteArray)(ch bi sz fr:Nat)(hd tl:ByteArray)(l:List ByteArray)(p1 p2 p3 p5 q:Nat)(b:Nat)(x:ByteArray)(w:World)(hT:Tabs w)(ho:StrOk s ch bi sz fr hd tl l p1 p2 p3 p5 q)(hb0:0<b)(hb:b≤fr)(hl0:0<l.length)(hds:file_whole_data.f k ch bi sz fr hd tl l 0=some (x,false)):
  Calls Tryz.prog 19 #[.string s,.int .i64 0,.int .i64 b] w fun e w'=>e= .returned (.tuple #[.string ⟨#[]⟩,.int .i64 2401])∧Below w.heap.size w w':=by
 have lM:=Tryz.underlying49;have SG:=Lib.hid (sget_calls s ch bi sz fr hd tl l p1 p2 p3 p5 q w ho);have HT:=Z_ hT;have HF:=Lib.hid hds;have hz1:=ho.ok.2.2.1;clear hT hds ho;have b2:¬((b:Int)<0):=by omega
 have b3:¬((fr:Int)<b):=by omega
 have b4:¬((0:Int)=b):=by omega
 have b5:¬((sz:Int)=0):=by omega
 have b6:Int.tdiv 0 (sz:Int)=0:=Int.zero_tdiv _;have b7:wrap64 0=0:=by decide+kernel
 have b8:(0:Int)<b:=by omega
 have b9:wrap64 (0*(sz:Int))=0:=by rw[Int.zero_mul];decide+kernel
 go_enter Tryz.func19,Tryz.ntmps19
 go_wp2_with fail
 refine SG.out.mono ?_;rintro e w1 ⟨v0,rfl,hr,hb⟩;obtain⟨As,cs_,he,hcs,_⟩:=Kd.R_reads hr;subst he;have HS:=Z_ hr;have YW:=Z_ hb;clear hr hb
 go_wp2_with (first|(refine X_ 8 #[.int .i64 0,.int .i64 0,.int .i64 0,.int .i64 0,.string ⟨#[]⟩,.string ⟨#[]⟩,.slice none 0 0] 49 ?_;intro gt hg wk_ hbox hb;have vS:Aside0 (w.heap.size≤gt):=⟨by rw[hg];exact YW.out.size⟩;have HG_:=Z_ hg;have HB_:=Z_ hb;have YT:=Z_ hbox;clear hbox hb hg)|((with_reducible refine gate_store (t:=49) (p:=8) rfl ?_);refine wpList_store_mid rfl 49 _ _ rfl gt 0 #[.int .i64 ch,.int .i64 bi,.int .i64 sz,.int .i64 fr,.string hd,.string tl,.slice As l.length cs_] rfl rfl (there_blk (vs:= [.int .i64 0,.int .i64 0,.int .i64 0,.int .i64 0,.string ⟨#[]⟩,.string ⟨#[]⟩,.slice none 0 0]) YT.out 0 7 (by decide)) (by kernel_rfl) (by simp[Value.oneCell']) ?_;have nc_:=Z_ (setCells_all (vs:= [.int .i64 ch,.int .i64 bi,.int .i64 sz,.int .i64 fr,.string hd,.string tl,.slice As l.length cs_]) (old:= [.int .i64 0,.int .i64 0,.int .i64 0,.int .i64 0,.string ⟨#[]⟩,.string ⟨#[]⟩,.slice none 0 0]) YT.out rfl);have hb:=below_setCells HB_.out (Nat.le_of_eq HG_.out.symm) [.int .i64 ch,.int .i64 bi,.int .i64 sz,.int .i64 fr,.string hd,.string tl,.slice As l.length cs_] 0;replace HS:=Z_ (Kd.R_below HS.out hb);replace YW:=Z_ (below_step YW.out hb);clear hb HB_ HG_ YT;have YT:=nc_;clear nc_;generalize World.setCells _ _ _ _=wk_ at HS YW YT ⊢;have r2:=blk_cell YT.out 2;have r3:=blk_cell YT.out 3;simp at r2 r3)|(refine X_ 11 #[.pointer none,.slice none 0 0] 66 ?_;intro gb hg wk_ hbox hb;have HGT:Aside0 (gt<gb):=⟨by rw[hg];exact blk_lt YT.out⟩;have HGB:Aside0 (w.heap.size≤gb):=⟨by rw[hg];exact YW.out.size⟩;have Co:=Z_ (Kd.R_mono (Kd.R_bound HS.out) (ok':=fun k=>k<gb) (fun k hk=>by rw[hg];exact hk.2.2.1));clear HS;have HS:=Co;clear Co;replace HS:=Z_ (Kd.R_below HS.out hb);replace YW:=Z_ (below_step YW.out hb);replace YT:=Z_ (blk_below YT.out hb);have YBX:=Z_ hbox;clear hbox hb hg;have r1:=blk_cell YT.out 2;simp at r1))
 go_loopg [12] 0 (fun d v12 wr=>v12= .int .i64 0∧Aside0 (wr.heap[gt]?=some (.cells #[.int .i64 ch,.int .i64 bi,.int .i64 sz,.int .i64 fr,.string hd,.string tl,.slice As l.length cs_] 49 (0,0)))∧Aside0 (Below w.heap.size w wr)∧Aside0 (Kd.R Kd.string 9 wr w.heap.size (fun k=>k<gb) (.slice As l.length cs_) l))
 case atStart=>exact⟨rfl,YT,YW,HS⟩
 case round=>
  clear YT YW HS r1 r2 r3;obtain⟨rfl,YT,YW,HS⟩:=hrel;have r2:=blk_cell YT.out 2;simp at r2
  go_wp2_with (first|((with_reducible refine gate_dst (N:=57) rfl ?_);refine wpList_load_mid rfl 49 _ rfl gt 0 rfl [.int .i64 ch,.int .i64 bi,.int .i64 sz,.int .i64 fr,.string hd,.string tl,.slice As l.length cs_] _ (range_all YT.out) Tryz.underlying49 rfl (by kernel_rfl) ?_))
  clear r2;refine(file_Data.calls k ch bi sz fr hd tl As cs_ l 0 _ _ _ (Kd.R_reads' HS.out).2.2 hcs HF.out (Tabs.below HT.out YW.out)).mono ?_;rintro e wk_ ⟨rfl,hb⟩;have YF:=Z_ (below_step YW.out hb);clear hb YW YT HS;go_wp2;go_ret2;exact⟨rfl,YF.out⟩
end Go.Proofs.YtfghldonnffldaaGreatDoor
namespace Go.Proofs.YtfghldonnffldaaGreatDoor
open Go.RowKit YtfghldonnffldaaGreatDoorW.PrintWords YtfghldonnffldaaGreatDoorW.PrintLast YtfghldonnffldaaGreatDoorW.PrintMore TBase
open VTwo QSix ZFiv ESev
def W0:ByteArray:=⟨#[82,73,70,70,54,0,0,0,87,65,86,69,102,109,116,32,16,0,0,0,1,0,1,0,114,97,116,101,97,110,100,98,2,0,16,0,100,97,116,97,6,0,0,0,5,0,6,0,7,0,109,111,114,101,3,0,0,0,97,98,99,100]⟩
def E0:ByteArray:=⟨#[68,83,67,84,1,16,2,3,44,12,82,73,70,70,54,0,0,0,87,65,86,69,102,109,116,32,16,0,0,0,1,0,1,0,114,97,116,101,97,110,100,98,2,0,16,0,100,97,116,97,6,0,0,0,109,111,114,101,3,0,0,0,97,98,99,100,13,0,11,0,217,2,14,228,0,0,2,4,0,5,0,6,0,37,16,131,139,2,0,1,2,0,7,0,171,185,219,210]⟩
def HD0:ByteArray:=W0.extract 0 44
def TL0:ByteArray:=W0.extract 50 62
def S1:ByteArray:=E0.extract 74 87
def S2:ByteArray:=E0.extract 87 98
theorem sp0:sput 1 16 2 3 HD0 TL0 [S1,S2]=E0:=by kernel_rfl
theorem many0:stream_Many.f 3 2=some 2:=by kernel_rfl
theorem d1:file_whole_data.f 30 1 16 2 3 HD0 TL0 [S1,S2] 0=some (⟨#[5,0,6,0]⟩,true):=by kernel_rfl
theorem d2:file_whole_data.f 30 1 16 2 3 HD0 TL0 [S1,S2] 1=some (⟨#[7,0]⟩,true):=by kernel_rfl
theorem b0:wave_Build.f 30 1 16 HD0 ⟨(flat [⟨#[5,0,6,0]⟩,⟨#[7,0]⟩]).toArray⟩ TL0=some (W0,0):=by kernel_rfl
theorem w0:descanttop_wav.f 20 1 16 ⟨#[5,0,6,0,7,0]⟩=some W0:=by kernel_rfl
theorem e0:file_Encode.f 30 W0 2=some (E0,0):=by kernel_rfl
theorem pw0:wave_Parse.f 30 W0=some (1,16,HD0,W0.extract 44 50,TL0,0):=by kernel_rfl
theorem fr0:pcm_Frame.f 1 16=some 2:=by kernel_rfl
theorem rr0:((⟨(flat (([⟨#[5,0,6,0]⟩,⟨#[7,0]⟩]:List ByteArray).drop 0 |>.take (2 - 0))).toArray⟩:ByteArray).extract ((0 - 0*2)*2) ((3 - 0*2)*2))=W0.extract 44 50:=by kernel_rfl
theorem ok0:∃p1 p2 p3 p5 q,StrOk E0 1 16 2 3 HD0 TL0 [S1,S2] p1 p2 p3 p5 q:=by
 have h:=sput_ok 1 16 2 3 HD0 TL0 [S1,S2] (by decide) many0 (fun x hx=>List.all_eq_true.1 (show [S1,S2].all szB=true by kernel_rfl) x hx) (by rw[sp0];decide);rw[sp0] at h;exact h
theorem ds0:∀i,i< [S1,S2].length→file_whole_data.f 30 1 16 2 3 HD0 TL0 [S1,S2] (i:Int)=some (([⟨#[5,0,6,0]⟩,⟨#[7,0]⟩]:List ByteArray).getD i ByteArray.empty,true):=by
 intro i hi
 match i,hi with
 |0,_=>exact d1
 |1,_=>exact d2
theorem pg0:pcm_Get.f 30 (W0.extract 44 50) 1 16=some ([[5,6,7]],0):=by kernel_rfl
theorem sg0:segment_Get.f 30 S1 1 16=some (⟨#[5,0,6,0]⟩,0):=by kernel_rfl
theorem sl0:descantlaw0_SameLists.f 30 [[5,6,7]] [[5,6,7]]=some true:=by kernel_rfl
theorem seg0{w:World}{ad:Addr}(h:Kd.string.C w (some ad) ([S1,S2]:List ByteArray).length [S1,S2]):w.cell? ad=some (.string S1):=by
 obtain⟨ad',e,hx⟩:=Kd.at_string h 0 (by decide) (by decide);obtain rfl:=Option.some.inj e
 cases ad
 exact hx
def awk.T11:Bool×List (List Nat×List Nat):=(true,[([],[]),([0],[0]),([1],[1]),([2],[2]),([],[]),([3,4],[3,4]),([5],[5]),([6],[6]),([6],[6]),([7,5,0,1,2,3,4,5,6,7],[7]),([8,9,0,1,2,3,4,5,6,7,8,9],[8])])
def awk.B11:List Nat:= [0,1,3,7,0,31,63,127,127,255,1023]
theorem awk.tab11:rtab .any (opsOf Tryz.f8 11)=awk.T11:=by kernel_rfl
theorem awk.bits11:waitsOk awk.T11.2 awk.B11=true:=by kernel_rfl
theorem num0(w:World):Calls Tryz.prog 12 #[.int .i64 0] w fun e w'=>e= .returned (.int .i64 0)∧w'=w:=by
 go_enter Tryz.func12,Tryz.ntmps12
 go_wp2;go_ret;exact⟨rfl,rfl⟩
section
variable {P:Program} {ops:Array Oper} {rest:List Oper} {o:Oper} {a:Act} {Q:Exit→Act→World→Prop}
theorem lit_event{W:World}(hgd:o.guard=none){N:Tmp}(_hd:o.dst=some N){cs:Array Value}{t n:Nat}
  (hrun:(execOp a.eval o).run P W= .ok (.value (.slice (some ⟨W.heap.size,0,none⟩) n n)) (W.alloc (.cells cs t (0,0))))
  (h:∀g,g=W.heap.size→∀w1,w1.heap[g]?=some (.cells cs t (0,0))→Below W.heap.size W w1→wpList P ops Q rest (a.put o.dst (.slice (some ⟨g,0,none⟩) n n)) w1):wpList P ops Q (o::rest) a W:=
 Kd.event_run hgd hrun (h _ rfl _ (blk_new W _) (below_alloc (Below.refl _ _) _))
end
theorem lists0(w:World)(g1 g2:Nat)(h1:w.heap[g1]?=some (.cells #[.int .i64 5,.int .i64 6,.int .i64 7] 3 (0,0)))(h2:w.heap[g2]?=some (.cells #[.slice (some ⟨g1,0,none⟩) 3 3] 36 (0,0))):
  Kd.C (Kd.slice 3 (Kd.int .i64)) w (some ⟨g2,0,none⟩) ([[5,6,7]]:List (List Int)).length [[5,6,7]]:=by
 refine⟨rfl,by decide,fun _=>⟨_,rfl,fun j p hj=>?_⟩⟩;obtain _|j:=j
 ·obtain rfl:=Option.some.inj hj;refine⟨[.slice (some ⟨g1,0,none⟩) 3 3],rfl,⟨some ⟨g1,0,none⟩,3,rfl,by decide,rfl,by decide,fun _=>⟨_,rfl,fun j p hj=>?_⟩⟩,fun i u hu=>?_⟩
  ·match j,hj with
   |0,hj=>obtain rfl:=Option.some.inj hj;exact⟨[.int .i64 5],rfl,rfl,fun i u hu=>match i,hu with|0,hu=>(blk_cell h1 0).trans hu|_+1,hu=>nomatch hu⟩
   |1,hj=>obtain rfl:=Option.some.inj hj;exact⟨[.int .i64 6],rfl,rfl,fun i u hu=>match i,hu with|0,hu=>(blk_cell h1 1).trans hu|_+1,hu=>nomatch hu⟩
   |2,hj=>obtain rfl:=Option.some.inj hj;exact⟨[.int .i64 7],rfl,rfl,fun i u hu=>match i,hu with|0,hu=>(blk_cell h1 2).trans hu|_+1,hu=>nomatch hu⟩
  ·obtain _|i:=i
   ·exact(blk_cell h2 0).trans hu
   ·cases hu
 ·cases hj
theorem awake_calls(w:World)(hT:Tabs w):Calls Tryz.prog 8 #[] w fun e w'=>e= .returned (.bool true)∧Below w.heap.size w w':=by
 have HT:=Z_ hT;clear hT;have Y1:Aside0 ((w.alloc (.cells #[.int .i64 1,.int .i64 16] 23)).heap[w.heap.size]?=some (.cells #[.int .i64 1,.int .i64 16] 23 (0,0))):=⟨blk_new w _⟩;have YW:Aside0 (Below w.heap.size w (w.alloc (.cells #[.int .i64 1,.int .i64 16] 23))):=⟨below_alloc (Below.refl _ _) _⟩
 go_enter Tryz.func8,Tryz.ntmps8
 go_wp2_with fail
 refine(descanttop_wav.calls 20 1 16 _ _ _ w0).mono ?_;rintro e wk_ ⟨rfl,hb⟩;replace Y1:=Z_ (blk_below Y1.out hb);replace YW:=Z_ (below_step YW.out hb);clear hb
 go_wp2_with fail
 refine(file_Encode.calls 30 W0 2 _ _ _ e0 (Tabs.below HT.out YW.out)).mono ?_;rintro e wk_ ⟨rfl,hb⟩;replace Y1:=Z_ (blk_below Y1.out hb);replace YW:=Z_ (below_step YW.out hb);clear hb
 go_wp2_with fail
 obtain⟨p1,p2,p3,p5,q,ho⟩:=ok0;refine(decode_calls 30 30 E0 1 16 2 3 HD0 TL0 [S1,S2] [⟨#[5,0,6,0]⟩,⟨#[7,0]⟩] p1 p2 p3 p5 q W0 _ (Tabs.below HT.out YW.out) ho rfl ds0 (by decide) b0).mono ?_;rintro e wk_ ⟨rfl,hb⟩;replace Y1:=Z_ (blk_below Y1.out hb);replace YW:=Z_ (below_step YW.out hb);clear hb
 go_wp2_with fail
 refine(sget_calls E0 1 16 2 3 HD0 TL0 [S1,S2] p1 p2 p3 p5 q _ ho).mono ?_;rintro e wk_ ⟨v0,rfl,hr,hb⟩;obtain⟨As,cs_,he,hcs,_⟩:=Kd.R_reads hr;subst he;have HS:=Z_ (Kd.R_lower hr YW.out.size);clear hr;replace Y1:=Z_ (blk_below Y1.out hb);replace YW:=Z_ (below_step YW.out hb);clear hb
 go_wp2_with (first|(refine X_ 7 #[.int .i64 0,.int .i64 0,.int .i64 0,.int .i64 0,.string ⟨#[]⟩,.string ⟨#[]⟩,.slice none 0 0] 49 ?_;intro g7 hg wk_ hbox hb;have HG_:=Z_ hg;have HB_:=Z_ hb;have Y7:=Z_ hbox;clear hbox hb hg)|((with_reducible refine gate_store (t:=49) (p:=7) rfl ?_);refine wpList_store_mid rfl 49 _ _ rfl g7 0 #[.int .i64 1,.int .i64 16,.int .i64 2,.int .i64 3,.string HD0,.string TL0,.slice As [S1,S2].length cs_] rfl rfl (there_blk (vs:= [.int .i64 0,.int .i64 0,.int .i64 0,.int .i64 0,.string ⟨#[]⟩,.string ⟨#[]⟩,.slice none 0 0]) Y7.out 0 7 (by decide)) (by kernel_rfl) (by simp[Value.oneCell']) ?_;have nc_:=Z_ (setCells_all (vs:= [.int .i64 1,.int .i64 16,.int .i64 2,.int .i64 3,.string HD0,.string TL0,.slice As [S1,S2].length cs_]) (old:= [.int .i64 0,.int .i64 0,.int .i64 0,.int .i64 0,.string ⟨#[]⟩,.string ⟨#[]⟩,.slice none 0 0]) Y7.out rfl);have hb:=below_setCells HB_.out (Nat.le_of_eq HG_.out.symm) [.int .i64 1,.int .i64 16,.int .i64 2,.int .i64 3,.string HD0,.string TL0,.slice As [S1,S2].length cs_] 0;replace Y1:=Z_ (blk_below Y1.out hb);replace YW:=Z_ (below_step YW.out hb);replace HS:=Z_ (Kd.R_below HS.out hb);clear hb HB_ HG_ Y7;have Y7:=nc_;clear nc_;generalize World.setCells _ _ _ _=wk_ at Y1 YW HS Y7 ⊢))
 refine(wave_Parse.calls 30 W0 _ _ _ _ _ _ _ pw0).mono ?_;rintro e wk_ ⟨rfl,hb⟩;replace Y1:=Z_ (blk_below Y1.out hb);replace YW:=Z_ (below_step YW.out hb);replace HS:=Z_ (Kd.R_below HS.out hb);replace Y7:=Z_ (blk_below Y7.out hb);clear hb
 go_wp2_with (first|(refine X_ 9 #[.int .i64 0,.int .i64 0,.string ⟨#[]⟩,.string ⟨#[]⟩,.string ⟨#[]⟩] 57 ?_;intro g9 hg wk_ hbox hb;have HG_:=Z_ hg;have HB_:=Z_ hb;have Y9:=Z_ hbox;clear hbox hb hg)|((with_reducible refine gate_store (t:=57) (p:=9) rfl ?_);refine wpList_store_mid rfl 57 _ _ rfl g9 0 #[.int .i64 1,.int .i64 16,.string HD0,.string (W0.extract 44 50),.string TL0] rfl rfl (there_blk (vs:= [.int .i64 0,.int .i64 0,.string ⟨#[]⟩,.string ⟨#[]⟩,.string ⟨#[]⟩]) Y9.out 0 5 (by decide)) (by kernel_rfl) (by simp[Value.oneCell']) ?_;have nc_:=Z_ (setCells_all (vs:= [.int .i64 1,.int .i64 16,.string HD0,.string (W0.extract 44 50),.string TL0]) (old:= [.int .i64 0,.int .i64 0,.string ⟨#[]⟩,.string ⟨#[]⟩,.string ⟨#[]⟩]) Y9.out rfl);have hb:=below_setCells HB_.out (Nat.le_of_eq HG_.out.symm) [.int .i64 1,.int .i64 16,.string HD0,.string (W0.extract 44 50),.string TL0] 0;replace Y1:=Z_ (blk_below Y1.out hb);replace YW:=Z_ (below_step YW.out hb);replace HS:=Z_ (Kd.R_below HS.out hb);replace Y7:=Z_ (blk_below Y7.out hb);clear hb HB_ HG_ Y9;have Y9:=nc_;clear nc_;generalize World.setCells _ _ _ _=wk_ at Y1 YW HS Y7 Y9 ⊢))
 refine(range_calls 30 E0 1 16 2 3 HD0 TL0 [S1,S2] [⟨#[5,0,6,0]⟩,⟨#[7,0]⟩] p1 p2 p3 p5 q 0 3 0 2 2 _ (Tabs.below HT.out YW.out) ho (by decide) (by decide) rfl (fun i=>by omega) (by decide) (by decide) (fun i _ h=>ds0 i h) rfl (by decide) fr0 (by decide) (by decide)).mono ?_;rintro e wk_ ⟨rfl,hb⟩;rw[rr0];replace Y1:=Z_ (blk_below Y1.out hb);replace YW:=Z_ (below_step YW.out hb);replace HS:=Z_ (Kd.R_below HS.out hb);replace Y7:=Z_ (blk_below Y7.out hb);replace Y9:=Z_ (blk_below Y9.out hb);clear hb;have r0:=blk_cell Y1.out 0;have r1:=blk_cell Y1.out 1;have q3:=blk_cell Y9.out 3;simp at r0 r1 q3
 go_wp2_with (first|((with_reducible refine gate_dst (N:=48) rfl ?_);refine wpList_load_mid rfl 23 _ rfl w.heap.size 0 rfl [.int .i64 1,.int .i64 16] _ (range_all Y1.out) Tryz.underlying23 rfl (by kernel_rfl) ?_))
 refine(pcm_Get.calls 30 (W0.extract 44 50) 1 16 [[5,6,7]] 0 _ pg0).mono ?_;rintro e wk_ ⟨v0,rfl,hra,hb⟩;obtain⟨Aa,ca,he,hca,hCa⟩:=Kd.S_reads hra;subst he;have HA:=Z_ hCa;clear hra hCa;clear r0 r1 q3;replace Y1:=Z_ (blk_below Y1.out hb);replace YW:=Z_ (below_step YW.out hb);replace HS:=Z_ (Kd.R_below HS.out hb);replace Y7:=Z_ (blk_below Y7.out hb);replace Y9:=Z_ (blk_below Y9.out hb);clear hb;have q6:=blk_cell Y7.out 6;simp at q6
 go_wp2_with fail
 clear q6;obtain⟨ad,hAd,_⟩:=Kd.at_string (Kd.R_reads' HS.out).2.2 0 (by decide) (by decide);subst hAd;replace Y1:=Z_ (blk_drew Y1.out);replace YW:=Z_ (below_drew1 YW.out);replace HS:=Z_ (Kd.R_drew HS.out);replace Y7:=Z_ (blk_drew Y7.out);replace Y9:=Z_ (blk_drew Y9.out);replace HA:=Z_ (Kd.C_drew HA.out);refine start_ (n:=11) (S:=fun w'=>w'.heap[g7]?=some (.cells #[.int .i64 1,.int .i64 16,.int .i64 2,.int .i64 3,.string HD0,.string TL0,.slice (some ad) [S1,S2].length cs_] 49 (0,0))∧w'.heap[w.heap.size]?=some (.cells #[.int .i64 1,.int .i64 16] 23 (0,0))∧w'.cell? ad=some (.string S1)) (ds:= []) #[false,false,false,false,false,false,false,false,false,false,false] (by kernel_rfl) rfl rfl ⟨Y7.out,Y1.out,seg0 (Kd.R_reads' HS.out).2.2⟩ (fun hHeld=>?_);refine with_tabW awk.tab11 awk.bits11 (fun HT_ HW_=>?_);generalize World.drew _=wk_ at Y1 YW HS Y7 Y9 HA hHeld ⊢;refine P_ 0 57 ?_;refine T_ 1 58 (y:=by rintro w' s0;have r6:=blk_cell s0.1 6;have r0:=blk_cell s0.2.1 0;have r1:=blk_cell s0.2.1 1;simp at r0 r1 r6;have r7:=s0.2.2;go_simp;with_reducible rfl) (h:=?_);refine T_ 2 59 (y:=by rintro w' s0;have r6:=blk_cell s0.1 6;have r0:=blk_cell s0.2.1 0;have r1:=blk_cell s0.2.1 1;simp at r0 r1 r6;have r7:=s0.2.2;go_simp;with_reducible rfl) (h:=?_);refine T_ 3 60 (y:=by rintro w' s0;have r6:=blk_cell s0.1 6;have r0:=blk_cell s0.2.1 0;have r1:=blk_cell s0.2.1 1;simp at r0 r1 r6;have r7:=s0.2.2;go_simp;with_reducible rfl) (h:=?_);refine T_ 4 61 (y:=by rintro w' s0;have r6:=blk_cell s0.1 6;have r0:=blk_cell s0.2.1 0;have r1:=blk_cell s0.2.1 1;simp at r0 r1 r6;have r7:=s0.2.2;go_simp;with_reducible rfl) (h:=?_);refine O_ 5 62 fun K hK=>?_
 refine g_ Tryz.func26 #[.string S1,.agg #[.int .i64 1,.int .i64 16]] ?_;refine(segment_Get.calls 30 S1 1 16 _ _ _ sg0 (Tabs.below HT.out YW.out)).mono ?_;rintro e wk_ ⟨rfl,hb⟩;refine⟨_,rfl,?_⟩;replace Y1:=Z_ (blk_below Y1.out hb);replace YW:=Z_ (below_step YW.out hb);replace HS:=Z_ (Kd.R_below HS.out hb);replace Y7:=Z_ (blk_below Y7.out hb);replace Y9:=Z_ (blk_below Y9.out hb);replace HA:=Z_ (Kd.C_below HA.out hb);clear hb;refine hK.out _ _ ⟨Y7.out,Y1.out,seg0 (Kd.R_reads' HS.out).2.2⟩ (fun hHeld=>?_);clear hK K;refine Nm_ 62 ?_;refine P_ 6 56 ?_;refine P_ 7 63 ?_;refine P_ 8 64 ?_;refine P_ 9 15 ?_;refine P_ 10 16 ?_;refine done_ (done_of HT_.out (by kernel_rfl)) ?_;have q3:=blk_cell Y9.out 3;simp at q3
 go_wp2_with (first|((with_reducible refine gate_dst (N:=101) rfl ?_);(try (refine gate_guard (by rfl) ?_;dsimp only));refine lit_event ?hg (N:=101) ?hd (cs:= #[.int .i64 5,.int .i64 6,.int .i64 7]) (t:=3) (n:=3) ?hr ?_;(case hd=>rfl);(case hg=>rfl);(case hr=>first|(go_simp;done)|(go_simp;rfl));intro WW hg wk_ hbox hb;replace YW:=Z_ (below_step YW.out hb);replace HA:=Z_ (Kd.C_below HA.out hb);have L1:=Z_ hbox;clear hbox hb hg)|((with_reducible refine gate_dst (N:=102) rfl ?_);(try (refine gate_guard (by rfl) ?_;dsimp only));refine lit_event ?hg (N:=102) ?hd (cs:= #[.slice (some ⟨WW,0,none⟩) 3 3]) (t:=36) (n:=1) ?hr ?_;(case hd=>rfl);(case hg=>rfl);(case hr=>first|(go_simp;done)|(go_simp;rfl));intro WX hg wk_ hbox hb;replace YW:=Z_ (below_step YW.out hb);replace HA:=Z_ (Kd.C_below HA.out hb);replace L1:=Z_ (blk_below L1.out hb);have L2:=Z_ hbox;clear hbox hb hg)|(go_at_call 12;refine(num0 _).mono ?_;rintro e wk_ ⟨rfl,rfl⟩)|(go_at_call 27;refine(descantlaw0_SameLists.calls 30 Aa ca [[5,6,7]] (some ⟨WX,0,none⟩) 1 [[5,6,7]] true _ HA.out hca (lists0 _ _ _ L1.out L2.out) (by decide) sl0).mono ?_;rintro e wk_ ⟨rfl,⟨⟨nd,rfl⟩⟩⟩;replace YW:=Z_ (pw_below_drewN YW.out nd);generalize World.drewN _ nd=wk_ at YW ⊢))
 go_ret;exact⟨rfl,YW.out⟩
end Go.Proofs.YtfghldonnffldaaGreatDoor
namespace Go.Proofs.YtfghldonnffldaaGreatDoor
open Go.RowKit YtfghldonnffldaaGreatDoorW.PrintWords YtfghldonnffldaaGreatDoorW.PrintLast YtfghldonnffldaaGreatDoorW.PrintMore TBase
end Go.Proofs.YtfghldonnffldaaGreatDoor
namespace Go.Proofs.YtfghldonnffldaaGreatDoor
open Go.RowKit YtfghldonnffldaaGreatDoorW.PrintWords YtfghldonnffldaaGreatDoorW.PrintLast YtfghldonnffldaaGreatDoorW.PrintMore TBase
open YFou ESev ZFiv
theorem leO_le{α:Type}(g:Nat→Option α)(hm:∀k,LeO (g k) (g (k+1)))(d:Nat):∀k,LeO (g k) (g (k+d)):=by
 induction d with
 |zero=>intro k r h;exact h
 |succ d ih=>intro k r h;exact hm _ _ (ih k r h)
theorem leO_same{α:Type}(g:Nat→Option α)(hm:∀k,LeO (g k) (g (k+1))){k k':Nat}{r r':α}(h:g k=some r)(h':g k'=some r'):r=r':=by
 rcases Nat.le_total k k' with hk|hk
 ·obtain⟨d,rfl⟩:=Nat.exists_eq_add_of_le hk;exact Option.some.inj ((leO_le g hm d k r h).symm.trans h')
 ·obtain⟨d,rfl⟩:=Nat.exists_eq_add_of_le hk;exact Option.some.inj (h.symm.trans (leO_le g hm d k' r' h'))
end Go.Proofs.YtfghldonnffldaaGreatDoor
namespace Go.Proofs.YtfghldonnffldaaGreatDoor
open Go.RowKit YtfghldonnffldaaGreatDoorW.PrintWords YtfghldonnffldaaGreatDoorW.PrintLast YtfghldonnffldaaGreatDoorW.PrintMore TBase
open VTwo ZFiv
theorem wrap_id(x:Int)(h1: -9223372036854775808≤x)(h2:x<9223372036854775808):wrap64 x=x:=by unfold wrap64;omega
theorem low_l0(n x:Nat)(hn:n≤4):∀d k i,i+d=n→d<k→descantref1_Low.l0 k (x:Int) (n:Int) (Le.bytes i x++List.replicate (n - i) 0) (i:Int)=some (strOfNums (Le.bytes n x)):=by
 intro d
 induction d with
 |zero=>
  intro k i hi hk;obtain⟨k,rfl⟩:∃m,k=m+1:=⟨k - 1,by omega⟩;obtain rfl:i=n:=by omega
  rw[descantref1_Low.l0,if_neg (by omega),Nat.sub_self,List.replicate_zero,List.append_nil]
 |succ d ih=>
  intro k i hi hk;obtain⟨k,rfl⟩:∃m,k=m+1:=⟨k - 1,by omega⟩;have w1:wrap64 ((i:Int)+1)=((i+1:Nat):Int):=by unfold wrap64;omega
  have w0:wrap64 (8*(i:Int))=((8*i:Nat):Int):=by unfold wrap64;omega
  have hs:shr .i64 (x:Int) ((8*i:Nat):Int)%256=((x / 256 ^ i%256:Nat):Int):=by
   unfold shr;rw[nC_,Nat.min_eq_left (by show 8*i≤64;omega)];have hp:256 ^ i=2 ^ (8*i):=by rw[Nat.pow_mul]
   have e:(x:Int) / 2 ^ (8*i)=((x / 2 ^ (8*i):Nat):Int):=by
    rw[Int.natCast_ediv]
    congr 1
    first|done|exact(Int.natCast_pow 2 (8*i)).symm
   rw[e,hp];omega
  have hset:(Le.bytes i x++List.replicate (n - i) 0).set i ((x / 256 ^ i%256:Nat):Int)=Le.bytes (i+1) x++List.replicate (n - (i+1)) 0:=by
   rw[List.set_append_right _ _ (by rw[Le.bytes_len];exact Nat.le_refl _),Le.bytes_len,Nat.sub_self,show n - i=(n - (i+1))+1 by omega,List.replicate_succ,List.set_cons_zero,Le.bytes_succ,List.append_assoc];rfl
  rw[descantref1_Low.l0,if_pos (by omega),w0,if_pos (by omega),if_pos (by omega),if_pos (by rw[List.length_append,Le.bytes_len,List.length_replicate];omega),hs,nC_,hset,w1];exact ih k (i+1) (by omega) (by omega)
theorem low_f(k n x:Nat)(hn:n≤4)(hk:n<k):descantref1_Low.f k (x:Int) (n:Int)=some (strOfNums (Le.bytes n x)):=by
 unfold descantref1_Low.f;rw[if_pos (by omega),if_pos (by rw[nC_];omega),nC_];have:=low_l0 n x hn n k 0 (by omega) hk;rw[Nat.sub_zero] at this;exact this
abbrev lo(n x:Nat):ByteArray:=strOfNums (Le.bytes n x)
theorem lo_size(n x:Nat):(lo n x).size=n:=by rw[strOfNums_size,Le.bytes_len]
def wvA:ByteArray:=⟨#[87,65,86,69,102,109,116,32,16,0,0,0,1,0]⟩
def wvR:ByteArray:=⟨#[114,97,116,101,97,110,100,98]⟩
def wvD:ByteArray:=⟨#[100,97,116,97]⟩
def wvP:ByteArray:=⟨#[112]⟩
def wvM:ByteArray:=⟨#[109,111,114,101,3,0,0,0,97,98,99,100]⟩
def wvF:ByteArray:=⟨#[82,73,70,70]⟩
theorem wvA_size:wvA.size=14:=rfl
theorem wvR_size:wvR.size=8:=rfl
theorem wvD_size:wvD.size=4:=rfl
theorem wvP_size:wvP.size=1:=rfl
theorem wvM_size:wvM.size=12:=rfl
theorem wvF_size:wvF.size=4:=rfl
def wavX(ch bi:Nat)(d:ByteArray):ByteArray:=((((((wvA++lo 2 ch)++wvR)++lo 2 (ch*bi / 8))++lo 2 bi)++wvD)++lo 4 d.size)++d
def wavS(ch bi:Nat)(d:ByteArray):ByteArray:=if d.size%2=1 then(wavX ch bi d++wvP)++wvM else wavX ch bi d++wvM
def wavB(ch bi:Nat)(d:ByteArray):ByteArray:=(wvF++lo 4 (wavS ch bi d).size)++wavS ch bi d
theorem wavX_size(ch bi:Nat)(d:ByteArray):(wavX ch bi d).size=36+d.size:=by
 unfold wavX;simp only[ByteArray.size_append,lo_size,wvA_size,wvR_size,wvD_size]
theorem wavS_size(ch bi:Nat)(d:ByteArray):(wavS ch bi d).size=48+d.size+d.size%2:=by
 unfold wavS
 split
 ·simp only[ByteArray.size_append,wavX_size,wvP_size,wvM_size];omega
 ·simp only[ByteArray.size_append,wavX_size,wvM_size];omega
theorem wavB_size(ch bi:Nat)(d:ByteArray):(wavB ch bi d).size=56+d.size+d.size%2:=by
 unfold wavB;simp only[ByteArray.size_append,wavS_size,lo_size,wvF_size];omega
theorem frame_nat(ch bi:Nat)(hc:ch=1∨ch=2)(hb:bi=8∨bi=16):wrap64 (Int.tdiv (wrap64 ((ch:Int)*(bi:Int))) 8)=((ch*bi / 8:Nat):Int):=by
 rcases hc with rfl|rfl<;>rcases hb with rfl|rfl<;>kernel_rfl
theorem wav_f(k ch bi:Nat)(d:ByteArray)(hc:ch=1∨ch=2)(hb:bi=8∨bi=16)(hd:d.size≤1000000000000000)(hk:4<k):descanttop_wav.f k (ch:Int) (bi:Int) d=some (wavB ch bi d):=by
 have s1:=lo_size 2 ch;have s2:=lo_size 2 (ch*bi / 8);have s3:=lo_size 2 bi;have s4:=lo_size 4 d.size;unfold descanttop_wav.f;show(descantref1_Low.f k (ch:Int) ((2:Nat):Int)).bind _=_;rw[low_f k 2 ch (by omega) (by omega),bs_,frame_nat ch bi hc hb]
 change (if 14+(lo 2 ch).size≤_ then(if(wvA++lo 2 ch).size+8≤_ then(descantref1_Low.f k ((ch*bi / 8:Nat):Int) ((2:Nat):Int)).bind _ else _) else _)=_
 rw[if_pos (by omega),if_pos (by simp only[ByteArray.size_append,wvA_size,lo_size];omega),low_f k 2 _ (by omega) (by omega),bs_]
 change (if((wvA++lo 2 ch)++wvR).size+(lo 2 (ch*bi / 8)).size≤_ then(descantref1_Low.f k (bi:Int) ((2:Nat):Int)).bind _ else _)=_
 rw[if_pos (by simp only[ByteArray.size_append,wvA_size,wvR_size,lo_size];omega),low_f k 2 _ (by omega) (by omega),bs_]
 change (if(((wvA++lo 2 ch)++wvR)++lo 2 (ch*bi / 8)).size+(lo 2 bi).size≤_ then(if((((wvA++lo 2 ch)++wvR)++lo 2 (ch*bi / 8))++lo 2 bi).size+4≤_ then(descantref1_Low.f k (d.size:Int) ((4:Nat):Int)).bind _ else _) else _)=_
 rw[if_pos (by simp only[ByteArray.size_append,wvA_size,wvR_size,lo_size];omega),if_pos (by simp only[ByteArray.size_append,wvA_size,wvR_size,lo_size];omega),low_f k 4 _ (by omega) (by omega),bs_]
 change (if(((((wvA++lo 2 ch)++wvR)++lo 2 (ch*bi / 8))++lo 2 bi)++wvD).size+(lo 4 d.size).size≤_ then(if((((((wvA++lo 2 ch)++wvR)++lo 2 (ch*bi / 8))++lo 2 bi)++wvD)++lo 4 d.size).size+d.size≤_ then(if(d.size:Int)%2=1 then(if(wavX ch bi d).size+1≤_ then(if(wavX ch bi d++wvP).size+12≤_ then(descantref1_Low.f k (((wavX ch bi d++wvP)++wvM).size:Int) ((4:Nat):Int)).bind _ else _) else _) else(if(wavX ch bi d).size+12≤_ then(descantref1_Low.f k ((wavX ch bi d++wvM).size:Int) ((4:Nat):Int)).bind _ else _)) else _) else _)=_
 rw[if_pos (by simp only[ByteArray.size_append,wvA_size,wvR_size,wvD_size,lo_size];omega),if_pos (by simp only[ByteArray.size_append,wvA_size,wvR_size,wvD_size,lo_size];omega)]
 by_cases hp:d.size%2=1
 ·have e:wavS ch bi d=(wavX ch bi d++wvP)++wvM:=by unfold wavS;rw[if_pos hp]
  have z:=wavS_size ch bi d;rw[if_pos (by omega),if_pos (by rw[wavX_size];omega),if_pos (by rw[ByteArray.size_append,wavX_size,wvP_size];omega),low_f k 4 _ (by omega) (by omega),bs_]
  change (if 4+(lo 4 ((wavX ch bi d++wvP)++wvM).size).size≤_ then(if(wvF++lo 4 ((wavX ch bi d++wvP)++wvM).size).size+((wavX ch bi d++wvP)++wvM).size≤_ then some ((wvF++lo 4 ((wavX ch bi d++wvP)++wvM).size)++((wavX ch bi d++wvP)++wvM)) else _) else _)=_
  rw[←e,if_pos (by rw[lo_size];omega),if_pos (by rw[ByteArray.size_append,lo_size,wvF_size,z];omega)];rfl
 ·have e:wavS ch bi d=wavX ch bi d++wvM:=by unfold wavS;rw[if_neg hp]
  have z:=wavS_size ch bi d;rw[if_neg (by omega),if_pos (by rw[wavX_size];omega),low_f k 4 _ (by omega) (by omega),bs_]
  change (if 4+(lo 4 (wavX ch bi d++wvM).size).size≤_ then(if(wvF++lo 4 (wavX ch bi d++wvM).size).size+(wavX ch bi d++wvM).size≤_ then some ((wvF++lo 4 (wavX ch bi d++wvM).size)++(wavX ch bi d++wvM)) else _) else _)=_
  rw[←e,if_pos (by rw[lo_size];omega),if_pos (by rw[ByteArray.size_append,lo_size,wvF_size,z];omega)];rfl
end Go.Proofs.YtfghldonnffldaaGreatDoor
