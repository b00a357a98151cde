/- Walks of the program's functions, and the laws of what they compute, for TopMoved: one file of several. -/
import Derived.Deep.MidRow
import Derived.Outline
import Derived.WalkLawsBesides
import Derived.Lib.Hide
import Derived.Laws.Rows
import Derived.Deep.RegionWith
import Derived.Deep.LoopGhost
import Derived.Deep.QuietTactic
import Derived.BigQuiet
import Derived.Deep.CutBlock
import Derived.Deep.DeepCutAuto
import Derived.Laws.BitsAllLaws
import Derived.Laws.CopyOwn
import Derived.Deep.WholeRow
import Derived.Test.YtfghldonnffldaaGreatDoorMvd0
set_option linter.unusedVariables false
set_option linter.unusedSimpArgs false
set_option maxRecDepth 100000
set_option maxHeartbeats 8000000
namespace Go.Proofs.YtfghldonnffldaaGreatDoor.TBase
open Go.RowKit YtfghldonnffldaaGreatDoorW.PrintWords YtfghldonnffldaaGreatDoorW.PrintLast YtfghldonnffldaaGreatDoorW.PrintMore
attribute [local go_sem] max2_int min2_int max_two min_two max_three min_three max_four min_four
def decoder_New.l0:Nat→ByteArray→Int→Int→Int→Int→ByteArray→Int→Option (Int×Int×Int×ByteArray×Int×Int)
 |0,_,_,_,_,_,_,_=>none
 |k+1,x0,PX,sP,sQ,sS,sU,sV=>if PX<4 then((decoder_at.f x0 PX).bind fun mi=>((coder_Up.f sS mi).bind fun t152=>(decoder_New.l0 k x0 (wrap64 (PX+1)) sP sQ t152 sU sV))) else(some (sP,sQ,sS,sU,sV,0))
def decoder_New.f(k:Nat)(a0:ByteArray):Option (Int×Int×Int×ByteArray×Int×Int):=if(a0.size:Int)>65536 then(some (0,0,0,(⟨#[]⟩:ByteArray),0,500)) else((coder_New.f).bind fun iR=>(decoder_New.l0 k a0 0 iR.1 iR.2.1 0 a0 4))
def decoder_New.T8:Bool×List (List Nat×List Nat):=(true,[([],[]),([0],[0]),([],[]),([],[]),([2,3],[2,3]),([1,4,4],[1,4]),([0,1,2,3,4,5],[]),([6,5,5,0,1,2,3,4,5],[5,6])])
def decoder_New.B8:List Nat:= [0,1,0,0,12,31,63,127]
theorem decoder_New.tab8:rtab .any (opsOf Tryz.f144 8)=decoder_New.T8:=by kernel_rfl
theorem decoder_New.bits8:waitsOk decoder_New.T8.2 decoder_New.B8=true:=by kernel_rfl
theorem decoder_New.calls(k:Nat)(a0:ByteArray)(r1:Int)(r2:Int)(r3:Int)(r4:ByteArray)(r5:Int)(r6:Int)(w:World)(h:decoder_New.f k a0=some (r1,r2,r3,r4,r5,r6)):
  Calls Tryz.prog 144 #[.string a0] w fun e w'=>e= .returned (.tuple #[.agg #[.int .i64 r1,.int .i64 r2,.int .i64 r3,.string r4,.int .i64 r5],.int .i64 r6])∧Below w.heap.size w w':=by
 have nC:=Tryz.underlying204;have wX:=Tryz.underlying88;have HB:=Z_ (Below.refl w.heap.size w);have H:(if(a0.size:Int)>65536 then(some (0,0,0,(⟨#[]⟩:ByteArray),0,500)) else((coder_New.f).bind fun iR=>(decoder_New.l0 k a0 0 iR.1 iR.2.1 0 a0 4)))=some (r1,r2,r3,r4,r5,r6):=h;clear h
 by_cases c2:(a0.size:Int)>65536
 ·rw[if_pos c2] at H;have c2b0:decide (65536<(a0.size:Int))=true:=dt_ c2;have c2b1:decide (65536<a0.size)=true:=dt_ (by omega);clear c2;simp only[Option.some.injEq,Prod.mk.injEq] at H;obtain⟨rfl,rfl,rfl,rfl,rfl,rfl⟩:=H
  go_enter Tryz.func144,Tryz.ntmps144
  go_wp2_with (first|(refine X_ 2 #[.int .i64 0,.int .i64 0,.int .i64 0,.string (⟨#[]⟩:ByteArray),.int .i64 0] 204 ?_;intro iB hg w3 hbox hb;have bL:=Z_ (hbox);have xh:=Z_ (G2_ hg:w.heap.size≤_);have FW:=xh;replace HB:=Hb_ hb;clear hb hbox hg;have wN:=cz_ bL 0;have wO:=cz_ bL 1;have wP:=cz_ bL 2;have CP:=cz_ bL 3;have CQ:=cz_ bL 4;have wQ:=fz_ bL 0;have wR:=fz_ bL 1;have wS:=fz_ bL 2;have CR:=fz_ bL 3;have CV:=fz_ bL 4))
  refine bodyPost_ret (results_ct rfl _ _ iB 204 #[.int .i64 0,.int .i64 0,.int .i64 0,.string (⟨#[]⟩:ByteArray),.int .i64 0] (0,0) _ rfl (blk_put (cs:= #[.int .i64 0,.int .i64 0,.int .i64 0,.string (⟨#[]⟩:ByteArray),.int .i64 0]) (blk_put (cs:= #[.int .i64 0,.int .i64 0,.int .i64 0,.string (⟨#[]⟩:ByteArray),.int .i64 0]) (blk_put (cs:= #[.int .i64 0,.int .i64 0,.int .i64 0,.string (⟨#[]⟩:ByteArray),.int .i64 0]) (blk_put (cs:= #[.int .i64 0,.int .i64 0,.int .i64 0,.string (⟨#[]⟩:ByteArray),.int .i64 0]) (blk_put (cs:= #[.int .i64 0,.int .i64 0,.int .i64 0,.string (⟨#[]⟩:ByteArray),.int .i64 0]) (K_ bL) 0 _ rfl) 1 _ rfl) 2 _ rfl) 3 _ rfl) 4 _ rfl) Tryz.underlying204 rfl (by kernel_rfl)) rfl ?_;exact⟨E_,B_⟩
 ·rw[if_neg c2] at H;have c2b0:decide (65536<(a0.size:Int))=false:=df_ c2;have c2b1:decide (65536<a0.size)=false:=df_ (by omega);clear c2;replace H:=Ob_ H;obtain⟨⟨t146,fV,t148⟩,jR,H⟩:=H;(try dsimp only at H);have A5:=Z_ jR;clear jR;have H':=Z_ H;clear H
  go_enter Tryz.func144,Tryz.ntmps144
  go_wp2_with (first|(refine X_ 2 #[.int .i64 0,.int .i64 0,.int .i64 0,.string (⟨#[]⟩:ByteArray),.int .i64 0] 204 ?_;intro iB hg w6 hbox hb;have bL:=Z_ (hbox);have xh:=Z_ (G2_ hg:w.heap.size≤_);have FW:=xh;replace HB:=Hb_ hb;clear hb hbox hg)|(refine G_ 11 Tryz.func39 #[] ?_;refine(coder_New.calls  t146 fV t148 _ A5.out).mono ?_;rintro e w7 ⟨rfl,hb⟩;refine⟨_,rfl,?_⟩;replace bL:=Z_ (blk_below (K_ bL) hb);replace HB:=Hb_ hb;(try clear hb))|(refine X_ 4 #[.int .i64 0,.int .i64 0,.string (⟨#[]⟩:ByteArray)] 88 ?_;intro lD hg w8 hbox hb;have fM:=Z_ (hbox);have FX:=Z_ (G2_ hg:w.heap.size≤_);have Su:=FX;replace HB:=Hb_ hb;have dw:=Z_ ((by rw[hg];exact Nat.ne_of_lt (blk_lt (g:=iB) (o:= .cells #[.int .i64 0,.int .i64 0,.int .i64 0,.string (⟨#[]⟩:ByteArray),.int .i64 0] 204 (0,0)) (K_ bL)):iB≠lD));have nD:=Z_ ((by rw[hg];exact Nat.ne_of_gt (blk_lt (g:=iB) (o:= .cells #[.int .i64 0,.int .i64 0,.int .i64 0,.string (⟨#[]⟩:ByteArray),.int .i64 0] 204 (0,0)) (K_ bL)):lD≠iB));replace bL:=Z_ (blk_below (K_ bL) hb);clear hb hbox hg;have Vb:=nD.out;have Vd:=dw.out;have jV:=cz_ fM 0;have jW:=cz_ fM 1;have ze:=cz_ fM 2;have jX:=fz_ fM 0;have jY:=fz_ fM 1;have zf:=fz_ fM 2)|(refine X_ 5 #[.int .i64 0,.int .i64 0,.int .i64 0,.string (⟨#[]⟩:ByteArray),.int .i64 0] 204 ?_;intro jc hg zg hbox hb;have bC:=Z_ (hbox);have FY:=Z_ (G2_ hg:w.heap.size≤_);have Sv:=FY;replace HB:=Hb_ hb;have dZ:=Z_ ((by rw[hg];exact Nat.ne_of_lt (blk_lt (g:=iB) (o:= .cells #[.int .i64 0,.int .i64 0,.int .i64 0,.string (⟨#[]⟩:ByteArray),.int .i64 0] 204 (0,0)) (blk_far (blk_far (blk_far (K_ bL) dw.out _) dw.out _) dw.out _)):iB≠jc));have kZ:=Z_ ((by rw[hg];exact Nat.ne_of_gt (blk_lt (g:=iB) (o:= .cells #[.int .i64 0,.int .i64 0,.int .i64 0,.string (⟨#[]⟩:ByteArray),.int .i64 0] 204 (0,0)) (blk_far (blk_far (blk_far (K_ bL) dw.out _) dw.out _) dw.out _)):jc≠iB));replace bL:=Z_ (blk_below (g:=iB) (o:= .cells #[.int .i64 0,.int .i64 0,.int .i64 0,.string (⟨#[]⟩:ByteArray),.int .i64 0] 204 (0,0)) (blk_far (blk_far (blk_far (K_ bL) dw.out _) dw.out _) dw.out _) hb);have d9:=Z_ ((by rw[hg];exact Nat.ne_of_lt (blk_lt (g:=lD) (o:= .cells #[.int .i64 t146,.int .i64 fV,.string t148] 88 (0,0)) (blk_put (cs:= #[.int .i64 t146,.int .i64 fV,.string (⟨#[]⟩:ByteArray)]) (blk_put (cs:= #[.int .i64 t146,.int .i64 0,.string (⟨#[]⟩:ByteArray)]) (blk_put (cs:= #[.int .i64 0,.int .i64 0,.string (⟨#[]⟩:ByteArray)]) (K_ fM) 0 _ rfl) 1 _ rfl) 2 _ rfl)):lD≠jc));have lc:=Z_ ((by rw[hg];exact Nat.ne_of_gt (blk_lt (g:=lD) (o:= .cells #[.int .i64 t146,.int .i64 fV,.string t148] 88 (0,0)) (blk_put (cs:= #[.int .i64 t146,.int .i64 fV,.string (⟨#[]⟩:ByteArray)]) (blk_put (cs:= #[.int .i64 t146,.int .i64 0,.string (⟨#[]⟩:ByteArray)]) (blk_put (cs:= #[.int .i64 0,.int .i64 0,.string (⟨#[]⟩:ByteArray)]) (K_ fM) 0 _ rfl) 1 _ rfl) 2 _ rfl)):jc≠lD));replace fM:=Z_ (blk_below (g:=lD) (o:= .cells #[.int .i64 t146,.int .i64 fV,.string t148] 88 (0,0)) (blk_put (cs:= #[.int .i64 t146,.int .i64 fV,.string (⟨#[]⟩:ByteArray)]) (blk_put (cs:= #[.int .i64 t146,.int .i64 0,.string (⟨#[]⟩:ByteArray)]) (blk_put (cs:= #[.int .i64 0,.int .i64 0,.string (⟨#[]⟩:ByteArray)]) (K_ fM) 0 _ rfl) 1 _ rfl) 2 _ rfl) hb);clear hb hbox hg;have FZ:=kZ.out;have F3:=dZ.out;have Sy:=lc.out;have Sz:=d9.out;have zh:=cz_ bC 0;have zi:=cz_ bC 1;have zk:=cz_ bC 2;have zl:=cz_ bC 3;have zm:=cz_ bC 4;have zn:=fz_ bC 0;have zo:=fz_ bC 1;have zq:=fz_ bC 2;have zt:=fz_ bC 3;have zu:=fz_ bC 4))
  go_loopg [18] k (fun kq v18 w'=>∃(mo:Int) (dx:Int),v18= .int .i64 mo∧Aside0 (decoder_New.l0 kq a0 mo t146 fV dx a0 4=some (r1,r2,r3,r4,r5,r6))∧Aside0 (kq≤k)∧Aside0 (w'.heap[iB]?=some (.cells #[.int .i64 0,.int .i64 0,.int .i64 0,.string (⟨#[]⟩:ByteArray),.int .i64 0] 204 (0,0)))∧Aside0 (w'.heap[lD]?=some (.cells #[.int .i64 t146,.int .i64 fV,.string t148] 88 (0,0)))∧Aside0 (w'.heap[jc]?=some (.cells #[.int .i64 t146,.int .i64 fV,.int .i64 dx,.string a0,.int .i64 4] 204 (0,0)))∧Aside0 (Below w.heap.size w w'))
  case atStart=>exact⟨(0),(0),(E1_),H',⟨Nat.le_refl _⟩,⟨(blk_far (blk_far (blk_far (blk_far (blk_far (K_ bL) dZ.out _) dZ.out _) dZ.out _) dZ.out _) dZ.out _)⟩,⟨(blk_far (blk_far (blk_far (blk_far (blk_far (K_ fM) d9.out _) d9.out _) d9.out _) d9.out _) d9.out _)⟩,⟨(blk_put (cs:= #[.int .i64 t146,.int .i64 fV,.int .i64 0,.string a0,.int .i64 0]) (blk_put (cs:= #[.int .i64 t146,.int .i64 fV,.int .i64 0,.string (⟨#[]⟩:ByteArray),.int .i64 0]) (blk_put (cs:= #[.int .i64 t146,.int .i64 fV,.int .i64 0,.string (⟨#[]⟩:ByteArray),.int .i64 0]) (blk_put (cs:= #[.int .i64 t146,.int .i64 0,.int .i64 0,.string (⟨#[]⟩:ByteArray),.int .i64 0]) (blk_put (cs:= #[.int .i64 0,.int .i64 0,.int .i64 0,.string (⟨#[]⟩:ByteArray),.int .i64 0]) (K_ bC) 0 _ rfl) 1 _ rfl) 2 _ rfl) 3 _ rfl) 4 _ rfl)⟩,⟨B_⟩⟩
  case round=>
   clear H'
   try clear c1
   try clear c2
   try clear c2b0
   try clear c2b1
   try clear p2
   try clear c3
   try clear c9
   try clear c12
   try clear c13
   try clear c14
   try clear jV
   try clear jW
   try clear ze
   try clear zh
   try clear zi
   try clear zk
   try clear zl
   try clear zm
   try clear wN
   try clear wO
   try clear wP
   try clear CP
   try clear CQ
   try clear jX
   try clear jY
   try clear zf
   try clear zn
   try clear zo
   try clear zq
   try clear zt
   try clear zu
   try clear wQ
   try clear wR
   try clear wS
   try clear CR
   try clear CV
   obtain⟨mo,dx,rfl,HA,jb,bL,fM,bC,HB⟩:=hrel
   cases gk with
   |zero=>exact absurd HA.out (by simp[decoder_New.l0])
   |succ k1=>
    have H:=HA.out;clear HA;simp only[decoder_New.l0] at H
    by_cases c15:mo<4
    ·rw[if_pos c15] at H;have c15b0:=dt_ c15;clear c15;replace H:=Ob_ H;obtain⟨mi,jZ,H⟩:=H;(try dsimp only at H);have yL:=Z_ jZ;clear jZ;replace H:=Ob_ H;obtain⟨t152,pu,H⟩:=H;(try dsimp only at H);have EL:=Z_ pu;clear pu;have H':=Z_ H;clear H
     try go_wp2
     replace bL:=Z_ (blk_drew bL.out);replace fM:=Z_ (blk_drew fM.out);replace bC:=Z_ (blk_drew bC.out);replace HB:=Z_ (below_drew1 HB.out);refine start_ (n:=8) (S:=fun w'=>w'.cell? ⟨jc,0,none⟩=some (.int .i64 t146)∧w'.cell? ⟨jc,1,none⟩=some (.int .i64 fV)∧w'.cell? ⟨jc,2,none⟩=some (.int .i64 dx)∧w'.cell? ⟨jc,3,none⟩=some (.string a0)∧w'.cell? ⟨jc,4,none⟩=some (.int .i64 4)) (ds:= [7]) #[false,false,false,false,false,false,false,false] (by kernel_rfl) rfl rfl ⟨(blk_cell bC.out 0).trans rfl,(blk_cell bC.out 1).trans rfl,(blk_cell bC.out 2).trans rfl,(blk_cell bC.out 3).trans rfl,(blk_cell bC.out 4).trans rfl⟩ (fun hHeld=>?_);refine with_tabW decoder_New.tab8 decoder_New.bits8 (fun HT_ HW_=>?_);generalize wr.drew=EJ at bL fM bC HB hHeld ⊢;refine P_ 0 21 ?_;refine P_ 2 23 ?_;refine P_ 3 24 ?_;refine T_ 1 22 (y:=by rintro w' ⟨s0,s1,s2,s3,s4⟩;go_simp;with_reducible rfl) (h:=?_);refine O_ 4 25 fun K hK=>?_
     refine g_ Tryz.func159 #[.string a0,.int .i64 mo] ?_
     with_reducible refine(decoder_at.calls a0 mo mi _ yL.out).mono ?_
     rintro e w' ⟨rfl,⟨nd,rfl⟩⟩;refine⟨_,rfl,?_⟩;refine hK.out _ _ ⟨(blk_cell bC.out 0).trans rfl,(blk_cell bC.out 1).trans rfl,(blk_cell bC.out 2).trans rfl,(blk_cell bC.out 3).trans rfl,(blk_cell bC.out 4).trans rfl⟩ (fun hHeld=>?_);clear hK K;refine Nm_ 25 ?_;refine O_ 5 26 fun K hK=>?_
     refine g_ Tryz.func137 #[.int .i64 dx,.int .i64 mi] ?_
     with_reducible refine(coder_Up.calls dx mi t152 _ EL.out).mono ?_
     rintro e w' ⟨rfl,⟨nd,rfl⟩⟩;refine⟨_,rfl,?_⟩;refine hK.out _ _ ⟨(blk_cell bC.out 0).trans rfl,(blk_cell bC.out 1).trans rfl,(blk_cell bC.out 2).trans rfl,(blk_cell bC.out 3).trans rfl,(blk_cell bC.out 4).trans rfl⟩ (fun hHeld=>?_);clear hK K;refine Nm_ 26 ?_;refine P_ 6 27 ?_;refine last_ (i:=7) (N:=none) #[true,true,true,true,true,true,true,true] rfl rfl (one_of HT_.out (by kernel_rfl)) (by decide) (fun K hK=>?_);have F4:EJ.cell? ⟨jc,2,none⟩=some (.int .i64 dx):=(blk_cell bC.out 2).trans rfl;have Bl:=blk_frozen bC.out 2;have zw:=dZ.out;have zx:=d9.out;have zy:=kZ.out;have zA:=lc.out;refine skip_ (w1:=?_) (by rfl) rfl ?_ ?_;rotate_left
     ·go_simp
      rfl
     refine hK.out _ _ ?_;clear hK K;refine done_ (done_of HT_.out (by kernel_rfl)) ?_
     try go_wp2
     go_roundg k1
     case measure=>have:=jb.out;omega
     case rel=>exact⟨(wrap64 (mo+1)),(t152),(E1_),H',⟨by have:=jb.out;omega⟩,⟨(blk_far (K_ bL) dZ.out _)⟩,⟨(blk_far (K_ fM) d9.out _)⟩,⟨(blk_put (cs:= #[.int .i64 t146,.int .i64 fV,.int .i64 dx,.string a0,.int .i64 4]) (K_ bC) 2 _ rfl)⟩,⟨B_⟩⟩
    ·rw[if_neg c15] at H;have c15b0:=df_ c15;clear c15;simp only[Option.some.injEq,Prod.mk.injEq] at H;obtain⟨rfl,rfl,rfl,rfl,rfl,rfl⟩:=H;have SA:=kZ.out;have SB:=dZ.out;have SC:=lc.out;have SE:=d9.out;have si:=cz_ bC 0;have sj:=cz_ bC 1;have Jt:=cz_ bC 2;have Ju:=cz_ bC 3;have Jv:=cz_ bC 4;have su:=fz_ bC 0;have sw:=fz_ bC 1;have Jw:=fz_ bC 2;have Jy:=fz_ bC 3;have Jz:=fz_ bC 4;have F5:=dw.out;have F6:=nD.out;have sW:=cz_ bL 0;have sZ:=cz_ bL 1;have tq:=cz_ bL 2;have JA:=cz_ bL 3;have JB:=cz_ bL 4;have tu:=fz_ bL 0;have tC:=fz_ bL 1;have tF:=fz_ bL 2;have JC:=fz_ bL 3;have JD:=fz_ bL 4;go_wp2;refine bodyPost_ret (results_ct rfl _ _ iB 204 #[.int .i64 t146,.int .i64 fV,.int .i64 dx,.string a0,.int .i64 4] (0,0) _ rfl (blk_put (cs:= #[.int .i64 t146,.int .i64 fV,.int .i64 dx,.string a0,.int .i64 0]) (blk_put (cs:= #[.int .i64 t146,.int .i64 fV,.int .i64 dx,.string (⟨#[]⟩:ByteArray),.int .i64 0]) (blk_put (cs:= #[.int .i64 t146,.int .i64 fV,.int .i64 0,.string (⟨#[]⟩:ByteArray),.int .i64 0]) (blk_put (cs:= #[.int .i64 t146,.int .i64 0,.int .i64 0,.string (⟨#[]⟩:ByteArray),.int .i64 0]) (blk_put (cs:= #[.int .i64 0,.int .i64 0,.int .i64 0,.string (⟨#[]⟩:ByteArray),.int .i64 0]) (K_ bL) 0 _ rfl) 1 _ rfl) 2 _ rfl) 3 _ rfl) 4 _ rfl) Tryz.underlying204 rfl (by kernel_rfl)) rfl ?_;exact⟨E_,B_⟩
def decoder_May.f(ae:Int)(af:Int)(ax:Int)(aQ:ByteArray)(aW:Int):Option (Bool):=(coder_Ends.f ae af).bind fun t154=>(if t154=true then(if ax≥ae then(if ax≤af then(if(aQ.size:Int)≤65536 then(if aW≥4 then(some (decide (aW≤65544))) else(some false)) else(some false)) else(some false)) else(some false)) else(some false))
theorem decoder_May.calls(ae:Int)(af:Int)(ax:Int)(aQ:ByteArray)(aW:Int)(r:Bool)(w:World)(h:decoder_May.f ae af ax aQ aW=some r):
  Calls Tryz.prog 175 #[.agg #[.int .i64 ae,.int .i64 af,.int .i64 ax,.string aQ,.int .i64 aW]] w fun e w'=>e= .returned (.bool r)∧Below w.heap.size w w':=by
 have nC:=Tryz.underlying204;have HB:=Z_ (Below.refl w.heap.size w);have H:((coder_Ends.f ae af).bind fun t154=>(if t154=true then(if ax≥ae then(if ax≤af then(if(aQ.size:Int)≤65536 then(if aW≥4 then(some (decide (aW≤65544))) else(some false)) else(some false)) else(some false)) else(some false)) else(some false)))=some r:=h;clear h;replace H:=Ob_ H;obtain⟨t154,fU,H⟩:=H;(try dsimp only at H);have A2:=Z_ fU;clear fU
 by_cases c3:t154=true
 ·subst c3;rw[if_pos rfl] at H
  by_cases c4:ax≥ae
  ·rw[if_pos c4] at H;have c4b0:decide (ae≤ax)=true:=dt_ c4;clear c4
   by_cases c5:ax≤af
   ·rw[if_pos c5] at H;have c5b0:=dt_ c5;clear c5
    by_cases c6:(aQ.size:Int)≤65536
    ·rw[if_pos c6] at H;have c6b0:=dt_ c6;have c6b1:decide (aQ.size≤65536)=true:=dt_ (by omega);clear c6
     by_cases c7:aW≥4
     ·rw[if_pos c7] at H;have c7b0:decide (4≤aW)=true:=dt_ c7;clear c7;obtain rfl:=Option.some.inj H
      go_enter Tryz.func175,Tryz.ntmps175
      go_wp2_with (first|((try (refine gate_guard (by rfl) ?_;dsimp only));refine X_ 1 #[.int .i64 ae,.int .i64 af,.int .i64 ax,.string aQ,.int .i64 aW] 204 ?_;intro pz hg w8 hbox hb;have aN:=Z_ (hbox);have jd:=Z_ (G2_ hg:w.heap.size≤_);have pE:=jd;replace HB:=Hb_ hb;clear hb hbox hg;have qG:=cz_ aN 0;have qH:=cz_ aN 1;have PY:=cz_ aN 2;have PZ:=cz_ aN 3;have P5:=cz_ aN 4;have qI:=fz_ aN 0;have qJ:=fz_ aN 1;have P6:=fz_ aN 2;have P7:=fz_ aN 3;have P8:=fz_ aN 4)|(refine G_ 7 Tryz.func111 #[.int .i64 ae,.int .i64 af] ?_;refine(coder_Ends.calls ae af true _ A2.out).mono ?_;rintro e w' ⟨rfl,⟨nd,rfl⟩⟩;refine⟨_,rfl,?_⟩))
      go_ret;exact⟨E_,B_⟩
     ·rw[if_neg c7] at H;have c7b0:decide (4≤aW)=false:=df_ c7;clear c7;obtain rfl:=Option.some.inj H
      go_enter Tryz.func175,Tryz.ntmps175
      go_wp2_with (first|((try (refine gate_guard (by rfl) ?_;dsimp only));refine X_ 1 #[.int .i64 ae,.int .i64 af,.int .i64 ax,.string aQ,.int .i64 aW] 204 ?_;intro pz hg o5 hbox hb;have aN:=Z_ (hbox);have jd:=Z_ (G2_ hg:w.heap.size≤_);have pE:=jd;replace HB:=Hb_ hb;clear hb hbox hg;have iH:=cz_ aN 0;have iI:=cz_ aN 1;have JE:=cz_ aN 2;have JF:=cz_ aN 3;have JG:=cz_ aN 4;have iJ:=fz_ aN 0;have iK:=fz_ aN 1;have JH:=fz_ aN 2;have JI:=fz_ aN 3;have JJ:=fz_ aN 4)|(refine G_ 7 Tryz.func111 #[.int .i64 ae,.int .i64 af] ?_;refine(coder_Ends.calls ae af true _ A2.out).mono ?_;rintro e w' ⟨rfl,⟨nd,rfl⟩⟩;refine⟨_,rfl,?_⟩))
      go_ret;exact⟨E_,B_⟩
    ·rw[if_neg c6] at H;have c6b0:=df_ c6;have c6b1:decide (aQ.size≤65536)=false:=df_ (by omega);clear c6;obtain rfl:=Option.some.inj H
     go_enter Tryz.func175,Tryz.ntmps175
     go_wp2_with (first|((try (refine gate_guard (by rfl) ?_;dsimp only));refine X_ 1 #[.int .i64 ae,.int .i64 af,.int .i64 ax,.string aQ,.int .i64 aW] 204 ?_;intro pz hg w12 hbox hb;have aN:=Z_ (hbox);have jd:=Z_ (G2_ hg:w.heap.size≤_);have pE:=jd;replace HB:=Hb_ hb;clear hb hbox hg;have gL:=cz_ aN 0;have gM:=cz_ aN 1;have nU:=cz_ aN 2;have tH:=cz_ aN 3;have tJ:=cz_ aN 4;have gN:=fz_ aN 0;have gP:=fz_ aN 1;have nV:=fz_ aN 2;have tK:=fz_ aN 3;have tL:=fz_ aN 4)|(refine G_ 7 Tryz.func111 #[.int .i64 ae,.int .i64 af] ?_;refine(coder_Ends.calls ae af true _ A2.out).mono ?_;rintro e w' ⟨rfl,⟨nd,rfl⟩⟩;refine⟨_,rfl,?_⟩))
     go_ret;exact⟨E_,B_⟩
   ·rw[if_neg c5] at H;have c5b0:=df_ c5;clear c5;obtain rfl:=Option.some.inj H
    go_enter Tryz.func175,Tryz.ntmps175
    go_wp2_with (first|((try (refine gate_guard (by rfl) ?_;dsimp only));refine X_ 1 #[.int .i64 ae,.int .i64 af,.int .i64 ax,.string aQ,.int .i64 aW] 204 ?_;intro pz hg yN hbox hb;have aN:=Z_ (hbox);have jd:=Z_ (G2_ hg:w.heap.size≤_);have pE:=jd;replace HB:=Hb_ hb;clear hb hbox hg;have jN:=cz_ aN 0;have jO:=cz_ aN 1;have zB:=cz_ aN 2;have zC:=cz_ aN 3;have zD:=cz_ aN 4;have jP:=fz_ aN 0;have jQ:=fz_ aN 1;have zF:=fz_ aN 2;have zG:=fz_ aN 3;have zH:=fz_ aN 4)|(refine G_ 7 Tryz.func111 #[.int .i64 ae,.int .i64 af] ?_;refine(coder_Ends.calls ae af true _ A2.out).mono ?_;rintro e w' ⟨rfl,⟨nd,rfl⟩⟩;refine⟨_,rfl,?_⟩))
    go_ret;exact⟨E_,B_⟩
  ·rw[if_neg c4] at H;have c4b0:decide (ae≤ax)=false:=df_ c4;clear c4;obtain rfl:=Option.some.inj H
   go_enter Tryz.func175,Tryz.ntmps175
   go_wp2_with (first|((try (refine gate_guard (by rfl) ?_;dsimp only));refine X_ 1 #[.int .i64 ae,.int .i64 af,.int .i64 ax,.string aQ,.int .i64 aW] 204 ?_;intro pz hg w16 hbox hb;have aN:=Z_ (hbox);have jd:=Z_ (G2_ hg:w.heap.size≤_);have pE:=jd;replace HB:=Hb_ hb;clear hb hbox hg;have nJ:=cz_ aN 0;have nK:=cz_ aN 1;have JK:=cz_ aN 2;have JL:=cz_ aN 3;have JM:=cz_ aN 4;have nL:=fz_ aN 0;have nM:=fz_ aN 1;have JN:=fz_ aN 2;have JO:=fz_ aN 3;have JP:=fz_ aN 4)|(refine G_ 7 Tryz.func111 #[.int .i64 ae,.int .i64 af] ?_;refine(coder_Ends.calls ae af true _ A2.out).mono ?_;rintro e w' ⟨rfl,⟨nd,rfl⟩⟩;refine⟨_,rfl,?_⟩))
   go_ret;exact⟨E_,B_⟩
 ·replace c3:=Bool.eq_false_iff.mpr c3;subst c3;rw[if_neg (show ¬(false=true) by decide)] at H;obtain rfl:=Option.some.inj H
  go_enter Tryz.func175,Tryz.ntmps175
  go_wp2_with (first|((try (refine gate_guard (by rfl) ?_;dsimp only));refine X_ 1 #[.int .i64 ae,.int .i64 af,.int .i64 ax,.string aQ,.int .i64 aW] 204 ?_;intro pz hg EJ hbox hb;have aN:=Z_ (hbox);have jd:=Z_ (G2_ hg:w.heap.size≤_);have pE:=jd;replace HB:=Hb_ hb;clear hb hbox hg;have zI:=cz_ aN 0;have zJ:=cz_ aN 1;have zK:=cz_ aN 2;have zL:=cz_ aN 3;have zM:=cz_ aN 4;have zN:=fz_ aN 0;have zO:=fz_ aN 1;have zP:=fz_ aN 2;have zQ:=fz_ aN 3;have zR:=fz_ aN 4)|(refine G_ 7 Tryz.func111 #[.int .i64 ae,.int .i64 af] ?_;refine(coder_Ends.calls ae af false _ A2.out).mono ?_;rintro e w' ⟨rfl,⟨nd,rfl⟩⟩;refine⟨_,rfl,?_⟩))
  go_ret;exact⟨E_,B_⟩
def stream_Many.f(a0:Int)(a1:Int):Option (Int):=if a1=0 then(none) else(some (wrap64 (Int.tdiv (wrap64 ((wrap64 (a0+a1)) - 1)) a1)))
theorem stream_Many.calls(a0:Int)(a1:Int)(r:Int)(w:World)(h:stream_Many.f a0 a1=some r):
  Calls Tryz.prog 46 #[.int .i64 a0,.int .i64 a1] w fun e w'=>e= .returned (.int .i64 r)∧Drawn0 w w':=by
 have H:(if a1=0 then(none) else(some (wrap64 (Int.tdiv (wrap64 ((wrap64 (a0+a1)) - 1)) a1))))=some r:=h;clear h
 by_cases c3:a1=0
 ·rw[if_pos c3] at H;exact absurd H (by simp)
 ·rw[if_neg c3] at H;have c3b0:(a1==0)=false:=beq_eq_false_iff_ne.mpr c3;have c3b1:(a1 !=0)=true:=bne_iff_ne.mpr c3;obtain rfl:=Option.some.inj H
  go_enter Tryz.func46,Tryz.ntmps46
  go_wp2;go_ret;exact⟨E1_,D_⟩
mutual
def varint_Put.j0:Nat→Int→Bool→Option (ByteArray×Int)
 |0,_,_=>none
 |k+1,x0,qC=>if qC=true then(some ((⟨#[]⟩:ByteArray),200)) else(varint_Put.l0 k x0 ([]:List Int))
def varint_Put.l0:Nat→Int→List Int→Option (ByteArray×Int)
 |0,_,_=>none
 |k+1,x0,x4=>if x0≥128 then(if x4.length<140737488355328 then(varint_Put.l0 k (wrap64 (Int.tdiv x0 128)) (x4++ [(wrap64 ((Int.tmod x0 128)+128))%256])) else(none)) else(if x4.length<140737488355328 then(some (strOfNums (x4++ [(x0)%256]),0)) else(none))
end
def varint_Put.f(k:Nat)(a0:Int):Option (ByteArray×Int):=if a0<0 then(varint_Put.j0 k a0 true) else(varint_Put.j0 k a0 (decide (a0>4294967295)))
theorem varint_Put.calls(k:Nat)(a0:Int)(r1:ByteArray)(r2:Int)(w:World)(h:varint_Put.f k a0=some (r1,r2)):
  Calls Tryz.prog 86 #[.int .i64 a0] w fun e w'=>e= .returned (.tuple #[.string r1,.int .i64 r2])∧Below w.heap.size w w':=by
 have HB:=Z_ (Below.refl w.heap.size w);have H:(if a0<0 then(varint_Put.j0 k a0 true) else(varint_Put.j0 k a0 (decide (a0>4294967295))))=some (r1,r2):=h;clear h;have l8:=Z_ H;clear H
 go_enter Tryz.func86,Tryz.ntmps86
 go_upto_region 1 with (fail)
 go_cut [10] (fun v10 wc=>∃(kq:Nat) (tN:Bool),v10= .bool tN∧Aside0 (varint_Put.j0 kq a0 tN=some (r1,r2))∧Aside0 (kq≤k)∧Aside0 (Below w.heap.size w wc))
 case first=>
  have H:=l8.out;clear l8
  by_cases c3:a0<0
  ·rw[if_pos c3] at H;have c3b0:=dt_ c3;clear c3;(first|rw[c3b0]|(simp only[i64_w,i32_w];rw[c3b0])|skip);have H':=Z_ H;clear H;go_wp2;go_meet
   case rel=>exact⟨_,(true),(E1_),H',⟨L_⟩,⟨B_⟩⟩
  ·rw[if_neg c3] at H;have c3b0:=df_ c3;clear c3;(first|rw[c3b0]|(simp only[i64_w,i32_w];rw[c3b0])|skip);have H':=Z_ H;clear H;go_wp2;go_meet
   case rel=>exact⟨_,(decide (a0>4294967295)),(E1_),H',⟨L_⟩,⟨B_⟩⟩
 case rest=>
  clear l8
  try clear p2
  try clear c3
  try clear c3b0
  obtain⟨kq,tN,rfl,HA,qR,HB⟩:=hcut
  cases kq with
  |zero=>exact absurd HA.out (by simp[varint_Put.j0])
  |succ oZ=>
   have H:=HA.out;clear HA;simp only[varint_Put.j0] at H
   by_cases c4:tN=true
   ·subst c4;rw[if_pos rfl] at H;simp only[Option.some.injEq,Prod.mk.injEq] at H;obtain⟨rfl,rfl⟩:=H;go_wp2;go_ret2;exact⟨E_,B_⟩
   ·replace c4:=Bool.eq_false_iff.mpr c4;subst c4;rw[if_neg (show ¬(false=true) by decide)] at H;have H':=Z_ H;clear H;go_wp2
    go_loopg [0,4] oZ (fun kq v0 v4 w'=>∃(j3:Int) (eG:List Int),v0= .int .i64 j3∧Aside0 (varint_Put.l0 kq j3 eG=some (r1,r2))∧Aside0 (kq≤oZ)∧Aside0 (Kd.R (Kd.int .u8) 5 w' w.heap.size (fun _=>True) v4 eG)∧Aside0 (Below w.heap.size w w'))
    case atStart=>exact⟨(a0),(([]:List Int)),(E1_),H',⟨Nat.le_refl _⟩,⟨by first|exact Kd.R_nil _ _ _ _ _|exact Kd.N_nil _ _ _ _ _|exact Kd.V_nil _ _ _ _ _|exact Kd.Q_nil _ _ _ _ _|exact Kd.S_nil _ _ _ _ _⟩,⟨B_⟩⟩
    case round=>
     clear H'
     try clear p2
     try clear c3
     try clear c3b0
     try clear c4
     try clear p2
     obtain⟨j3,eG,rfl,HA,iq,HO_4,HB⟩:=hrel
     cases gk with
     |zero=>exact absurd HA.out (by simp[varint_Put.l0])
     |succ k2=>
      have H:=HA.out;clear HA;simp only[varint_Put.l0] at H
      by_cases c5:j3≥128
      ·rw[if_pos c5] at H;have c5b0:decide (128≤j3)=true:=dt_ c5;clear c5
       by_cases c6:eG.length<140737488355328
       ·rw[if_pos c6] at H;have P9:=Z_ c6;clear c6;obtain⟨F7,pF⟩:∃y_:List Int,y_=(eG++ [(wrap64 ((Int.tmod j3 128)+128))%256]):=⟨_,rfl⟩;replace H:(varint_Put.l0 k2 (wrap64 (Int.tdiv j3 128)) F7)=some (r1,r2):=by first|(rw[pF];with_reducible exact H)|(have bS:=(bs_ _ _).symm.trans H;rw[pF];with_reducible exact bS)|(have bS:=(bs_ _ _).symm.trans H;with_reducible exact bS)|with_reducible exact H|(rw[pF];exact H)|exact H
        have F8:=Z_ pF;clear pF;have H':=Z_ H;clear H
        go_wp2_with (first|((with_reducible refine gate_builtin (b:= .append) (xs:= #[.tmp 15,.tmp 20]) rfl ?_);at_builtin;refine Kd.R_append (Kd.int .u8) (w0:=w) w.heap.size rfl (.tmp 15) (.tmp 20) 27 5 (.int .u8 0) 1 rfl Tryz.underlying27 info5 rfl (by decide) (by omega) u4 eG ((wrap64 ((Int.tmod j3 128)+128))%256) [.int .u8 ((wrap64 ((Int.tmod j3 128)+128))%256)] (fun _=>True) (fun _=>False) rfl rfl ?aP (fun _ hk=>hk.elim) ?aF ?aO ?aB ?aS ?aL ?_;(case aP=>exact rfl);(case aB=>exact B_);(case aF=>exact(fun _ _=>trivial));(case aO=>exact(R_ HO_4));(case aS=>exact(below_size B_));(case aL=>have:=P9.out;omega);intro v157 w7 ho hb hg hat;rw[←F8.out] at ho;replace HB:=Z_ (hb);have F9:=Z_ (ho);clear HO_4;clear ho hb hg hat))
        go_roundg k2
        case measure=>have:=qR.out;have:=iq.out;omega
        case rel=>exact⟨(wrap64 (Int.tdiv j3 128)),(F7),(E1_),H',⟨by have:=qR.out;have:=iq.out;omega⟩,⟨R_ F9⟩,⟨B_⟩⟩
       ·rw[if_neg c6] at H;exact absurd H (by simp)
      ·rw[if_neg c5] at H;have c5b0:decide (128≤j3)=false:=df_ c5;clear c5
       by_cases c8:eG.length<140737488355328
       ·rw[if_pos c8] at H;have Qa:=Z_ c8;clear c8;obtain⟨y159,hy159⟩:∃y_:List Int,y_=(eG++ [(j3)%256]):=⟨_,rfl⟩;replace H:(some (strOfNums y159,0))=some (r1,r2):=by first|(rw[hy159];with_reducible exact H)|(have bS:=(bs_ _ _).symm.trans H;rw[hy159];with_reducible exact bS)|(have bS:=(bs_ _ _).symm.trans H;with_reducible exact bS)|with_reducible exact H|(rw[hy159];exact H)|exact H
        have Ga:=Z_ hy159;clear hy159;simp only[Option.some.injEq,Prod.mk.injEq] at H;obtain⟨rfl,rfl⟩:=H
        go_wp2_with (first|((with_reducible refine gate_builtin (b:= .append) (xs:= #[.tmp 22,.tmp 25]) rfl ?_);at_builtin;refine Kd.R_append (Kd.int .u8) (w0:=w) w.heap.size rfl (.tmp 22) (.tmp 25) 27 5 (.int .u8 0) 1 rfl Tryz.underlying27 info5 rfl (by decide) (by omega) u4 eG ((j3)%256) [.int .u8 ((j3)%256)] (fun _=>True) (fun _=>False) rfl rfl ?aP (fun _ hk=>hk.elim) ?aF ?aO ?aB ?aS ?aL ?_;(case aP=>exact rfl);(case aB=>exact B_);(case aF=>exact(fun _ _=>trivial));(case aO=>exact(R_ HO_4));(case aS=>exact(below_size B_));(case aL=>have:=Qa.out;omega);intro v160 w9 ho hb hg hat;rw[←Ga.out] at ho;replace HB:=Z_ (hb);have Gb:=Z_ (ho);clear HO_4;clear ho hb hg hat;have SF:=own_string (P:=Tryz.prog) Tryz.underlying27 Tryz.underlying5 Tryz.underlying9 (Kd.own_of_R Gb.out)))
        go_ret2;exact⟨E_,B_⟩
       ·rw[if_neg c8] at H;exact absurd H (by simp)
def stream_number.f(k:Nat)(a0:Int):Option (ByteArray):=(varint_Put.f k a0).bind fun xk=>(some xk.1)
theorem stream_number.calls(k:Nat)(a0:Int)(r:ByteArray)(w:World)(h:stream_number.f k a0=some r):
  Calls Tryz.prog 55 #[.int .i64 a0] w fun e w'=>e= .returned (.string r)∧Below w.heap.size w w':=by
 have HB:=Z_ (Below.refl w.heap.size w);have H:((varint_Put.f k a0).bind fun xk=>(some xk.1))=some r:=h;clear h;replace H:=Ob_ H;obtain⟨⟨t162,Qb⟩,fU,H⟩:=H;replace H:(some t162)=some r:=H;have A2:=Z_ fU;clear fU;obtain rfl:=Option.some.inj H
 go_enter Tryz.func55,Tryz.ntmps55
 go_wp2_with (first|(refine G_ 7 Tryz.func86 #[.int .i64 a0] ?_;refine(varint_Put.calls k a0 t162 Qb _ A2.out).mono ?_;rintro e w3 ⟨rfl,hb⟩;refine⟨_,rfl,?_⟩;replace HB:=Hb_ hb;(try clear hb)))
 go_ret;exact⟨E_,B_⟩
def stream_size.f(a0:Int):Option (Bool):=if a0≥9 then(some (decide (a0≤65535))) else(some false)
theorem stream_size.calls(a0:Int)(r:Bool)(w:World)(h:stream_size.f a0=some r):
  Calls Tryz.prog 47 #[.int .i64 a0] w fun e w'=>e= .returned (.bool r)∧Drawn0 w w':=by
 have H:(if a0≥9 then(some (decide (a0≤65535))) else(some false))=some r:=h;clear h
 by_cases c2:a0≥9
 ·rw[if_pos c2] at H;have c2b0:decide (9≤a0)=true:=dt_ c2;clear c2;obtain rfl:=Option.some.inj H
  go_enter Tryz.func47,Tryz.ntmps47
  go_wp2;go_ret;exact⟨E1_,D_⟩
 ·rw[if_neg c2] at H;have c2b0:decide (9≤a0)=false:=df_ c2;clear c2;obtain rfl:=Option.some.inj H
  go_enter Tryz.func47,Tryz.ntmps47
  go_wp2;go_ret;exact⟨E1_,D_⟩
mutual
def varint_Get.j0:Nat→ByteArray→Int→Bool→Option (Int×Int×Int)
 |0,_,_,_=>none
 |k+1,x0,x1,x20=>if x20=true then(some (0,0,200)) else(varint_Get.l0 k x0 x1 0 0 x1)
def varint_Get.l0:Nat→ByteArray→Int→Int→Int→Int→Option (Int×Int×Int)
 |0,_,_,_,_,_=>none
 |k+1,x0,x1,x7,x8,x9=>if x9<(x0.size:Int) then(varint_Get.j2 k x0 x1 x7 x8 x9 (decide (x8<35))) else(varint_Get.j2 k x0 x1 x7 x8 x9 false)
def varint_Get.j2:Nat→ByteArray→Int→Int→Int→Int→Bool→Option (Int×Int×Int)
 |0,_,_,_,_,_,_=>none
 |k+1,x0,x1,x7,x8,x9,x29=>if x29=true then(if 0≤x9 then(if x9<(x0.size:Int) then(if 0≤x8 then(if(wrap64 (bt x0 x9))≥128 then(varint_Get.l0 k x0 x1 (Go.bits .or .i64 x7 (shl .i64 (Int.tmod (wrap64 (bt x0 x9)) 128) x8)) (wrap64 (x8+7)) (wrap64 (x9+1))) else((varint_Put.f k (Go.bits .or .i64 x7 (shl .i64 (Int.tmod (wrap64 (bt x0 x9)) 128) x8))).bind fun Bn=>(if Bn.2=0 then(if 0≤x1 then(if x1≤(wrap64 (x9+1)) then(if(wrap64 (x9+1))≤(x0.size:Int) then(if Bn.1.toList=(x0.extract (x1:Int).toNat ((wrap64 (x9+1)):Int).toNat).toList then(some (Go.bits .or .i64 x7 (shl .i64 (Int.tmod (wrap64 (bt x0 x9)) 128) x8),wrap64 (x9+1),0)) else(some (0,0,200))) else(none)) else(none)) else(none)) else(some (0,0,200))))) else(none)) else(none)) else(none)) else(some (0,0,200))
end
def varint_Get.f(k:Nat)(a0:ByteArray)(a1:Int):Option (Int×Int×Int):=if a1<0 then(varint_Get.j0 k a0 a1 true) else(varint_Get.j0 k a0 a1 (decide (a1>(a0.size:Int))))
theorem varint_Get.calls(k:Nat)(a0:ByteArray)(a1:Int)(r1:Int)(r2:Int)(r3:Int)(w:World)(h:varint_Get.f k a0 a1=some (r1,r2,r3)):
  Calls Tryz.prog 79 #[.string a0,.int .i64 a1] w fun e w'=>e= .returned (.tuple #[.int .i64 r1,.int .i64 r2,.int .i64 r3])∧Below w.heap.size w w':=by
 have HB:=Z_ (Below.refl w.heap.size w);have H:(if a1<0 then(varint_Get.j0 k a0 a1 true) else(varint_Get.j0 k a0 a1 (decide (a1>(a0.size:Int)))))=some (r1,r2,r3):=h;clear h;have nI:=Z_ H;clear H
 go_enter Tryz.func79,Tryz.ntmps79
 go_upto_region 1 with (fail)
 go_cut [20] (fun v20 wc=>∃(kq:Nat) (tO:Bool),v20= .bool tO∧Aside0 (varint_Get.j0 kq a0 a1 tO=some (r1,r2,r3))∧Aside0 (kq≤k)∧Aside0 (Below w.heap.size w wc))
 case first=>
  have H:=nI.out;clear nI
  by_cases c4:a1<0
  ·rw[if_pos c4] at H;have c4b0:=dt_ c4;clear c4;(first|rw[c4b0]|(simp only[i64_w,i32_w];rw[c4b0])|skip);have H':=Z_ H;clear H;go_wp2;go_meet
   case rel=>exact⟨_,(true),(E1_),H',⟨L_⟩,⟨B_⟩⟩
  ·rw[if_neg c4] at H;have c4b0:=df_ c4;clear c4;(first|rw[c4b0]|(simp only[i64_w,i32_w];rw[c4b0])|skip);have H':=Z_ H;clear H;go_wp2;go_meet
   case rel=>exact⟨_,(decide (a1>(a0.size:Int))),(E1_),H',⟨L_⟩,⟨B_⟩⟩
 case rest=>
  clear nI
  try clear p2
  try clear c4
  try clear c4b0
  obtain⟨kq,tO,rfl,HA,HJ2,HB⟩:=hcut
  cases kq with
  |zero=>exact absurd HA.out (by simp[varint_Get.j0])
  |succ rZ=>
   have H:=HA.out;clear HA;simp only[varint_Get.j0] at H
   by_cases c5:tO=true
   ·subst c5;rw[if_pos rfl] at H;simp only[Option.some.injEq,Prod.mk.injEq] at H;obtain⟨rfl,rfl,rfl⟩:=H;go_wp2
    go_ret3
    exact⟨E_,B_⟩
   ·replace c5:=Bool.eq_false_iff.mpr c5;subst c5;rw[if_neg (show ¬(false=true) by decide)] at H;have H':=Z_ H;clear H;go_wp2
    go_loopg [7,8,9] rZ (fun kq v7 v8 v9 w'=>∃(eY:Int) (fo:Int) (bE:Int),v7= .int .i64 eY∧v8= .int .i64 fo∧v9= .int .i64 bE∧Aside0 (varint_Get.l0 kq a0 a1 eY fo bE=some (r1,r2,r3))∧Aside0 (kq≤rZ)∧Aside0 (Below w.heap.size w w'))
    case atStart=>exact⟨(0),(0),(a1),(E1_),(E1_),(E1_),H',⟨Nat.le_refl _⟩,⟨B_⟩⟩
    case round=>
     clear H'
     try clear p2
     try clear c4
     try clear c4b0
     try clear c5
     try clear p2
     obtain⟨eY,fo,bE,rfl,rfl,rfl,HA,iq,HB⟩:=hrel
     cases gk with
     |zero=>exact absurd HA.out (by simp[varint_Get.l0])
     |succ k2=>
      have H:=HA.out;clear HA;simp only[varint_Get.l0] at H;have Qc:=Z_ H;clear H
      go_upto_region 5 with (fail)
      go_cut [29] (fun v29 wc=>∃(kq:Nat) (tQ:Bool),v29= .bool tQ∧Aside0 (varint_Get.j2 kq a0 a1 eY fo bE tQ=some (r1,r2,r3))∧Aside0 (kq≤k2)∧Aside0 (Below w.heap.size w wc))
      case first=>
       have H:=Qc.out;clear Qc
       by_cases c7:bE<(a0.size:Int)
       ·rw[if_pos c7] at H;have c7b0:=dt_ c7;clear c7;(first|rw[c7b0]|(simp only[i64_w,i32_w];rw[c7b0])|skip);have H':=Z_ H;clear H;go_wp2;go_meet
        case rel=>exact⟨_,(decide (fo<35)),(E1_),H',⟨by have:=HJ2.out;have:=iq.out;first|omega|exact Nat.le_refl _⟩,⟨B_⟩⟩
       ·rw[if_neg c7] at H;have c7b0:=df_ c7;clear c7;(first|rw[c7b0]|(simp only[i64_w,i32_w];rw[c7b0])|skip);have H':=Z_ H;clear H;go_wp2;go_meet
        case rel=>exact⟨_,(false),(E1_),H',⟨by have:=HJ2.out;have:=iq.out;first|omega|exact Nat.le_refl _⟩,⟨B_⟩⟩
      case rest=>
       clear Qc
       try clear p2
       try clear c4
       try clear c4b0
       try clear c5
       try clear c7
       try clear c7b0
       try clear p2
       obtain⟨kq,tQ,rfl,HA,SH,HB⟩:=hcut
       cases kq with
       |zero=>exact absurd HA.out (by simp[varint_Get.j2])
       |succ JQ=>
        have H:=HA.out;clear HA;simp only[varint_Get.j2] at H
        by_cases c8:tQ=true
        ·subst c8;rw[if_pos rfl] at H
         by_cases c9:0≤bE
         ·rw[if_pos c9] at H;have c9b0:=dt_ c9;clear c9
          by_cases c10:bE<(a0.size:Int)
          ·rw[if_pos c10] at H;have c10b0:=dt_ c10;clear c10
           by_cases c12:0≤fo
           ·rw[if_pos c12] at H;have c12b0:=eq_true c12;have c12b1:=dt_ c12;clear c12;obtain⟨mq,je⟩:∃j_:Int,(shl .i64 (Int.tmod (wrap64 (bt a0 bE)) 128) fo)=j_:=⟨_,rfl⟩;(first|rw[je] at H|simp only[je] at H);have CY:(IntKind.i64.wrap ((Int.tmod (wrap64 (bt a0 bE)) 128)*2 ^ min fo.toNat 64))=mq:=je;have hji13z:fo≤64→(IntKind.i64.wrap ((Int.tmod (wrap64 (bt a0 bE)) 128)*2 ^ fo.toNat))=mq:=shl_small je;have hji13y:(wrap64 ((Int.tmod (wrap64 (bt a0 bE)) 128)*2 ^ min fo.toNat 64))=mq:=(i64_w _).symm.trans CY;have hji13x:fo≤64→(wrap64 ((Int.tmod (wrap64 (bt a0 bE)) 128)*2 ^ fo.toNat))=mq:=fun h_=>(i64_w _).symm.trans (hji13z h_)
            by_cases c14:(wrap64 (bt a0 bE))≥128
            ·rw[if_pos c14] at H;have c14b0:decide (128≤(wrap64 (bt a0 bE)))=true:=dt_ c14;clear c14;have H':=Z_ H;clear H;have qD:0≤(bE:Int):=od_ A_;have qE:bE<(a0.size:Int):=od_ A_;have qW:=bt_at a0 bE;replace qD:=eq_true qD;replace qE:=eq_true qE;go_wp2
             go_roundg JQ
             case measure=>have:=HJ2.out;have:=iq.out;have:=SH.out;omega
             case rel=>exact⟨(Go.bits .or .i64 eY (mq)),(wrap64 (fo+7)),(wrap64 (bE+1)),(by first|rfl|(simp;done)|(simp only[←je]<;>(first|rfl|simp))|(simp[*];done)),(E1_),(E1_),H',⟨by have:=HJ2.out;have:=iq.out;have:=SH.out;omega⟩,⟨B_⟩⟩
            ·rw[if_neg c14] at H;have c14b0:decide (128≤(wrap64 (bt a0 bE)))=false:=df_ c14;clear c14;replace H:=Ob_ H;obtain⟨⟨t164,pG⟩,Gc,H⟩:=H;(try dsimp only at H);have Qd:=Z_ Gc;clear Gc
             by_cases c16:pG=0
             ·rw[if_pos c16] at H;have c16b0:(pG==0)=true:=beq_iff_eq.mpr c16;have c16b1:(pG !=0)=false:=bne_eq_false_iff_eq.mpr c16;clear c16
              by_cases c17:0≤a1
              ·rw[if_pos c17] at H;have c17b0:=eq_true c17;have c17b1:=dt_ c17;clear c17
               by_cases c18:a1≤(wrap64 (bE+1))
               ·rw[if_pos c18] at H;have c18b0:=eq_true c18;have c18b1:=dt_ c18
                by_cases c19:(wrap64 (bE+1))≤(a0.size:Int)
                ·rw[if_pos c19] at H;have c19b0:=eq_true c19;have c19b1:=dt_ c19
                 by_cases c20:t164.toList=(a0.extract (a1:Int).toNat ((wrap64 (bE+1)):Int).toNat).toList
                 ·rw[if_pos c20] at H;have c20b0:(t164.toList==(a0.extract (a1:Int).toNat ((wrap64 (bE+1)):Int).toNat).toList)=true:=beq_iff_eq.mpr c20;(try simp only[nC_] at c20b0);have c20b1:(t164.toList !=(a0.extract (a1:Int).toNat ((wrap64 (bE+1)):Int).toNat).toList)=false:=bne_eq_false_iff_eq.mpr c20;(try simp only[nC_] at c20b1);clear c20;simp only[Option.some.injEq,Prod.mk.injEq] at H;obtain⟨rfl,rfl,rfl⟩:=H;have qD:0≤(bE:Int):=od_ A_;have qE:bE<(a0.size:Int):=od_ A_;have qW:=bt_at a0 bE;replace qD:=eq_true qD;replace qE:=eq_true qE
                  go_wp2_with (first|((with_reducible refine gate_callee (f:=86) rfl ?_);refine goesL_ (some 48) rfl rfl Tryz.func86 (by kernel_rfl) rfl #[.int .i64 (Go.bits .or .i64 eY (mq))] rfl (by(try simp only[List.map_toArray,List.map_cons,List.map_nil]);first|done|(simp only[je];rfl)|rfl|(simp only[List.length_drop,List.length_take];rfl)) ?_;refine(varint_Put.calls JQ (Go.bits .or .i64 eY (mq)) t164 pG _ Qd.out).mono ?_;rintro e yM ⟨rfl,hb⟩;refine⟨_,rfl,?_⟩;replace HB:=Hb_ hb;(try clear hb)))
                  go_ret3
                  exact⟨by first|rfl|(simp[errW_none,errW_some]<;>rfl)|(simp only[←je];first|rfl|(simp[errW_none,errW_some]<;>rfl))|(simp[*,errW_none,errW_some]<;>rfl),B_⟩
                 ·rw[if_neg c20] at H;have c20b0:(t164.toList==(a0.extract (a1:Int).toNat ((wrap64 (bE+1)):Int).toNat).toList)=false:=beq_eq_false_iff_ne.mpr c20;(try simp only[nC_] at c20b0);have c20b1:(t164.toList !=(a0.extract (a1:Int).toNat ((wrap64 (bE+1)):Int).toNat).toList)=true:=bne_iff_ne.mpr c20;(try simp only[nC_] at c20b1);simp only[Option.some.injEq,Prod.mk.injEq] at H;obtain⟨rfl,rfl,rfl⟩:=H;have qD:0≤(bE:Int):=od_ A_;have qE:bE<(a0.size:Int):=od_ A_;have qW:=bt_at a0 bE;replace qD:=eq_true qD;replace qE:=eq_true qE
                  go_wp2_with (first|((with_reducible refine gate_callee (f:=86) rfl ?_);refine goesL_ (some 48) rfl rfl Tryz.func86 (by kernel_rfl) rfl #[.int .i64 (Go.bits .or .i64 eY (mq))] rfl (by(try simp only[List.map_toArray,List.map_cons,List.map_nil]);first|done|(simp only[je];rfl)|rfl|(simp only[List.length_drop,List.length_take];rfl)) ?_;refine(varint_Put.calls JQ (Go.bits .or .i64 eY (mq)) t164 pG _ Qd.out).mono ?_;rintro e zS ⟨rfl,hb⟩;refine⟨_,rfl,?_⟩;replace HB:=Hb_ hb;(try clear hb)))
                  go_ret3
                  exact⟨by first|rfl|(simp[errW_none,errW_some]<;>rfl)|(simp only[←je];first|rfl|(simp[errW_none,errW_some]<;>rfl))|(simp[*,errW_none,errW_some]<;>rfl),B_⟩
                ·rw[if_neg c19] at H;exact absurd H (by simp)
               ·rw[if_neg c18] at H;exact absurd H (by simp)
              ·rw[if_neg c17] at H;exact absurd H (by simp)
             ·rw[if_neg c16] at H;have c16b0:(pG==0)=false:=beq_eq_false_iff_ne.mpr c16;have c16b1:(pG !=0)=true:=bne_iff_ne.mpr c16;simp only[Option.some.injEq,Prod.mk.injEq] at H;obtain⟨rfl,rfl,rfl⟩:=H;have qD:0≤(bE:Int):=od_ A_;have qE:bE<(a0.size:Int):=od_ A_;have qW:=bt_at a0 bE;replace qD:=eq_true qD;replace qE:=eq_true qE
              go_wp2_with (first|((with_reducible refine gate_callee (f:=86) rfl ?_);refine goesL_ (some 48) rfl rfl Tryz.func86 (by kernel_rfl) rfl #[.int .i64 (Go.bits .or .i64 eY (mq))] rfl (by(try simp only[List.map_toArray,List.map_cons,List.map_nil]);first|done|(simp only[je];rfl)|rfl|(simp only[List.length_drop,List.length_take];rfl)) ?_;refine(varint_Put.calls JQ (Go.bits .or .i64 eY (mq)) t164 pG _ Qd.out).mono ?_;rintro e Cu ⟨rfl,hb⟩;refine⟨_,rfl,?_⟩;replace HB:=Hb_ hb;(try clear hb)))
              go_ret3
              exact⟨by first|rfl|(simp[errW_none,errW_some]<;>rfl)|(simp only[←je];first|rfl|(simp[errW_none,errW_some]<;>rfl))|(simp[*,errW_none,errW_some]<;>rfl),B_⟩
           ·rw[if_neg c12] at H;exact absurd H (by simp)
          ·rw[if_neg c10] at H;exact absurd H (by simp)
         ·rw[if_neg c9] at H;exact absurd H (by simp)
        ·replace c8:=Bool.eq_false_iff.mpr c8;subst c8;rw[if_neg (show ¬(false=true) by decide)] at H;simp only[Option.some.injEq,Prod.mk.injEq] at H;obtain⟨rfl,rfl,rfl⟩:=H;go_wp2
         go_ret3
         exact⟨E_,B_⟩
def riff_size.f(k:Nat)(a0:ByteArray)(a1:Int):Option (Int):=if 0≤a1 then(if a1≤(wrap64 (a1+4)) then(if(wrap64 (a1+4))≤(a0.size:Int) then((field_Get.f k (a0.extract (a1:Int).toNat ((wrap64 (a1+4)):Int).toNat)).bind fun xm=>(some xm.1)) else(none)) else(none)) else(none)
theorem riff_size.calls(k:Nat)(a0:ByteArray)(a1:Int)(r:Int)(w:World)(h:riff_size.f k a0 a1=some r):
  Calls Tryz.prog 89 #[.string a0,.int .i64 a1] w fun e w'=>e= .returned (.int .i64 r)∧Drawn0 w w':=by
 have H:(if 0≤a1 then(if a1≤(wrap64 (a1+4)) then(if(wrap64 (a1+4))≤(a0.size:Int) then((field_Get.f k (a0.extract (a1:Int).toNat ((wrap64 (a1+4)):Int).toNat)).bind fun xm=>(some xm.1)) else(none)) else(none)) else(none))=some r:=h;clear h
 by_cases c3:0≤a1
 ·rw[if_pos c3] at H;have c3b0:=eq_true c3;have c3b1:=dt_ c3;clear c3
  by_cases c4:a1≤(wrap64 (a1+4))
  ·rw[if_pos c4] at H;have c4b0:=eq_true c4;have c4b1:=dt_ c4
   by_cases c5:(wrap64 (a1+4))≤(a0.size:Int)
   ·rw[if_pos c5] at H;have c5b0:=eq_true c5;have c5b1:=dt_ c5;replace H:=Ob_ H;obtain⟨⟨Gd,t167⟩,pI,H⟩:=H;replace H:(some Gd)=some r:=H;have A6:=Z_ pI;clear pI;obtain rfl:=Option.some.inj H
    go_enter Tryz.func89,Tryz.ntmps89
    go_wp2_with (first|(refine G_ 13 Tryz.func64 #[.string (a0.extract (a1:Int).toNat ((wrap64 (a1+4)):Int).toNat)] ?_;refine(field_Get.calls k (a0.extract (a1:Int).toNat ((wrap64 (a1+4)):Int).toNat) Gd t167 _ A6.out).mono ?_;rintro e w' ⟨rfl,⟨nd,rfl⟩⟩;refine⟨_,rfl,?_⟩))
    go_ret;exact⟨E1_,D_⟩
   ·rw[if_neg c5] at H;exact absurd H (by simp)
  ·rw[if_neg c4] at H;exact absurd H (by simp)
 ·rw[if_neg c3] at H;exact absurd H (by simp)
mutual
def riff_Chunks.j0:Nat→ByteArray→Bool→Option ((List (S116))×Int)
 |0,_,_=>none
 |k+1,x0,Ve=>if Ve=true then(some (([]:List (S116)),2000)) else(riff_Chunks.l0 k x0 ([]:List (S116)) 12)
def riff_Chunks.l0:Nat→ByteArray→List (S116)→Int→Option ((List (S116))×Int)
 |0,_,_,_=>none
 |k+1,x0,x4,x5=>if x5<(x0.size:Int) then(if(x4.length:Int)=64 then(riff_Chunks.j2 k x0 x4 x5 true) else(riff_Chunks.j2 k x0 x4 x5 (decide ((wrap64 ((x0.size:Int) - x5))<8)))) else(some (x4,0))
def riff_Chunks.j2:Nat→ByteArray→List (S116)→Int→Bool→Option ((List (S116))×Int)
 |0,_,_,_,_=>none
 |k+1,x0,x4,x5,Vf=>if Vf=true then(some (([]:List (S116)),2000)) else(if 0≤x5 then(if x5≤(wrap64 (x5+4)) then(if(wrap64 (x5+4))≤(x0.size:Int) then((riff_size.f k x0 (wrap64 (x5+4))).bind fun eU=>(if(wrap64 (eU+(Int.tmod eU 2)))>(wrap64 ((x0.size:Int) - (wrap64 (x5+8)))) then(some (([]:List (S116)),2000)) else(if x4.length<4398046511104 then(riff_Chunks.l0 k x0 (x4++ [(⟨x0.extract (x5:Int).toNat ((wrap64 (x5+4)):Int).toNat,wrap64 (x5+8),eU⟩:S116)]) (wrap64 ((wrap64 (x5+8))+(wrap64 (eU+(Int.tmod eU 2)))))) else(none)))) else(none)) else(none)) else(none))
end
def riff_Chunks.f(k:Nat)(a0:ByteArray):Option ((List (S116))×Int):=if(a0.size:Int)>4096 then(riff_Chunks.j0 k a0 true) else(if(a0.size:Int)<12 then(riff_Chunks.j0 k a0 true) else((strings_HasPrefix.f a0 (⟨#[82,73,70,70]⟩:ByteArray)).bind fun t168=>(if t168=true then((riff_size.f k a0 4).bind fun mr=>(if mr=(wrap64 ((a0.size:Int) - 8)) then(if 8≤12 then(if 12≤(a0.size:Int) then(riff_Chunks.j0 k a0 ((a0.extract 8 12).toList !=([87,65,86,69]:List UInt8))) else(none)) else(none)) else(riff_Chunks.j0 k a0 true))) else(riff_Chunks.j0 k a0 true))))
def riff_Chunks.T8:Bool×List (List Nat×List Nat):=(true,[([],[]),([],[]),([],[]),([2],[2]),([0,1,3],[0,1,3]),([],[]),([5],[5]),([],[]),([],[]),([8],[8]),([7,9],[7,9]),([4,6,10],[4,6,10]),([],[]),([12,11,10,0,1,2,3,4,5,6,7,8,9,10,11,12],[11,12])])
def riff_Chunks.B8:List Nat:= [0,0,0,4,15,0,32,0,0,256,896,2047,0,8191]
theorem riff_Chunks.tab8:rtab .any (opsOf Tryz.f58 8)=riff_Chunks.T8:=by kernel_rfl
theorem riff_Chunks.bits8:waitsOk riff_Chunks.T8.2 riff_Chunks.B8=true:=by kernel_rfl
theorem riff_Chunks.calls(k:Nat)(a0:ByteArray)(r1:List (S116))(r2:Int)(w:World)(h:riff_Chunks.f k a0=some (r1,r2)):
  Calls Tryz.prog 58 #[.string a0] w fun e w'=>∃eB:Value,e= .returned (.tuple #[eB,.int .i64 r2])∧Kd.R k116 116 w' w.heap.size (fun _=>True) eB r1∧Below w.heap.size w w':=by
 have Bo:=Tryz.underlying116;have HB:=Z_ (Below.refl w.heap.size w);have H:(if(a0.size:Int)>4096 then(riff_Chunks.j0 k a0 true) else(if(a0.size:Int)<12 then(riff_Chunks.j0 k a0 true) else((strings_HasPrefix.f a0 (⟨#[82,73,70,70]⟩:ByteArray)).bind fun t168=>(if t168=true then((riff_size.f k a0 4).bind fun mr=>(if mr=(wrap64 ((a0.size:Int) - 8)) then(if 8≤12 then(if 12≤(a0.size:Int) then(riff_Chunks.j0 k a0 ((a0.extract 8 12).toList !=([87,65,86,69]:List UInt8))) else(none)) else(none)) else(riff_Chunks.j0 k a0 true))) else(riff_Chunks.j0 k a0 true)))))=some (r1,r2):=h;clear h;have l8:=Z_ H;clear H
 go_enter Tryz.func58,Tryz.ntmps58
 go_upto_region 1 with (fail)
 go_cut [33] (fun v33 wc=>∃(kq:Nat) (tT:Bool),v33= .bool tT∧Aside0 (riff_Chunks.j0 kq a0 tT=some (r1,r2))∧Aside0 (kq≤k)∧Aside0 (Below w.heap.size w wc))
 case first=>
  have H:=l8.out;clear l8
  by_cases c3:(a0.size:Int)>4096
  ·rw[if_pos c3] at H;have c3b0:decide (4096<(a0.size:Int))=true:=dt_ c3;have c3b1:decide (4096<a0.size)=true:=dt_ (by omega);clear c3;(first|rw[c3b0]|(simp only[i64_w,i32_w];rw[c3b0])|skip);have H':=Z_ H;clear H;go_wp2;go_meet
   case rel=>exact⟨_,(true),(E1_),H',⟨L_⟩,⟨B_⟩⟩
  ·rw[if_neg c3] at H;have c3b0:decide (4096<(a0.size:Int))=false:=df_ c3;have c3b1:decide (4096<a0.size)=false:=df_ (by omega);clear c3;(first|rw[c3b0]|(simp only[i64_w,i32_w];rw[c3b0])|skip)
   by_cases c4:(a0.size:Int)<12
   ·rw[if_pos c4] at H;have c4b0:=dt_ c4;have c4b1:decide (a0.size<12)=true:=dt_ (by omega);clear c4;have H':=Z_ H;clear H;go_wp2;go_meet
    case rel=>exact⟨_,(true),(E1_),H',⟨L_⟩,⟨B_⟩⟩
   ·rw[if_neg c4] at H;have c4b0:=df_ c4;have c4b1:decide (a0.size<12)=false:=df_ (by omega);clear c4;replace H:=Ob_ H;obtain⟨t168,jR,H⟩:=H;(try dsimp only at H);have A5:=Z_ jR;clear jR
    by_cases c6:t168=true
    ·subst c6;rw[if_pos rfl] at H;replace H:=Ob_ H;obtain⟨mr,wu,H⟩:=H;(try dsimp only at H);have A7:=Z_ wu;clear wu
     by_cases c8:mr=(wrap64 ((a0.size:Int) - 8))
     ·rw[if_pos c8] at H;have c8b0:(mr==(wrap64 ((a0.size:Int) - 8)))=true:=beq_iff_eq.mpr c8;have c8b1:(mr !=(wrap64 ((a0.size:Int) - 8)))=false:=bne_eq_false_iff_eq.mpr c8;clear c8
      by_cases c9:8≤12
      ·rw[if_pos c9] at H;have c9b0:=eq_true c9;have c9b1:=dt_ c9;clear c9
       by_cases c10:12≤(a0.size:Int)
       ·rw[if_pos c10] at H;have c10b0:=eq_true c10;have c10b1:=dt_ c10;clear c10;have H':=Z_ H;clear H
        go_wp2_with (first|(go_at_call 88;refine(strings_HasPrefix.calls a0 (⟨#[82,73,70,70]⟩:ByteArray) true _ A5.out).mono ?_;rintro e w' ⟨rfl,⟨nd,rfl⟩⟩)|(go_at_call 89;refine(riff_size.calls k a0 4 mr _ A7.out).mono ?_;rintro e w' ⟨rfl,⟨nd,rfl⟩⟩))
        go_meet
        case rel=>exact⟨_,(((a0.extract 8 12).toList !=([87,65,86,69]:List UInt8))),(E1_),H',⟨L_⟩,⟨B_⟩⟩
       ·rw[if_neg c10] at H;exact absurd H (by simp)
      ·rw[if_neg c9] at H;exact absurd H (by simp)
     ·rw[if_neg c8] at H;have c8b0:(mr==(wrap64 ((a0.size:Int) - 8)))=false:=beq_eq_false_iff_ne.mpr c8;have c8b1:(mr !=(wrap64 ((a0.size:Int) - 8)))=true:=bne_iff_ne.mpr c8;have H':=Z_ H;clear H
      go_wp2_with (first|(go_at_call 88;refine(strings_HasPrefix.calls a0 (⟨#[82,73,70,70]⟩:ByteArray) true _ A5.out).mono ?_;rintro e w' ⟨rfl,⟨nd,rfl⟩⟩)|(go_at_call 89;refine(riff_size.calls k a0 4 mr _ A7.out).mono ?_;rintro e w' ⟨rfl,⟨nd,rfl⟩⟩))
      go_meet
      case rel=>exact⟨_,(true),(E1_),H',⟨L_⟩,⟨B_⟩⟩
    ·replace c6:=Bool.eq_false_iff.mpr c6;subst c6;rw[if_neg (show ¬(false=true) by decide)] at H;have H':=Z_ H;clear H
     go_wp2_with (first|(go_at_call 88;refine(strings_HasPrefix.calls a0 (⟨#[82,73,70,70]⟩:ByteArray) false _ A5.out).mono ?_;rintro e w' ⟨rfl,⟨nd,rfl⟩⟩))
     go_meet
     case rel=>exact⟨_,(true),(E1_),H',⟨L_⟩,⟨B_⟩⟩
 case rest=>
  clear l8
  try clear c1
  try clear p2
  try clear c3
  try clear c3b0
  try clear c3b1
  try clear c4
  try clear c4b0
  try clear c4b1
  try clear c5
  try clear c6
  try clear p6
  try clear c8
  try clear c8b0
  try clear c8b1
  try clear c9
  try clear c9b0
  try clear c9b1
  try clear c10
  try clear c10b0
  try clear c10b1
  obtain⟨kq,tT,rfl,HA,qR,HB⟩:=hcut
  cases kq with
  |zero=>exact absurd HA.out (by simp[riff_Chunks.j0])
  |succ oZ=>
   have H:=HA.out;clear HA;simp only[riff_Chunks.j0] at H
   by_cases c11:tT=true
   ·subst c11;rw[if_pos rfl] at H;simp only[Option.some.injEq,Prod.mk.injEq] at H;obtain⟨rfl,rfl⟩:=H;go_wp2;go_ret2;exact⟨_,E_,by first|exact Kd.R_nil _ _ _ _ _|exact Kd.N_nil _ _ _ _ _|exact Kd.V_nil _ _ _ _ _|exact Kd.Q_nil _ _ _ _ _|exact Kd.S_nil _ _ _ _ _,B_⟩
   ·replace c11:=Bool.eq_false_iff.mpr c11;subst c11;rw[if_neg (show ¬(false=true) by decide)] at H;have H':=Z_ H;clear H;go_wp2
    go_loopg [4,5] oZ (fun kq v4 v5 w'=>∃(eG:List (S116)) (bK:Int),v5= .int .i64 bK∧Aside0 (riff_Chunks.l0 kq a0 eG bK=some (r1,r2))∧Aside0 (kq≤oZ)∧Aside0 (Kd.R k116 116 w' w.heap.size (fun _=>True) v4 eG)∧Aside0 (Below w.heap.size w w'))
    case atStart=>exact⟨(([]:List (S116))),(12),(E1_),H',⟨Nat.le_refl _⟩,⟨by first|exact Kd.R_nil _ _ _ _ _|exact Kd.N_nil _ _ _ _ _|exact Kd.V_nil _ _ _ _ _|exact Kd.Q_nil _ _ _ _ _|exact Kd.S_nil _ _ _ _ _⟩,⟨B_⟩⟩
    case round=>
     clear H'
     try clear c1
     try clear p2
     try clear c3
     try clear c3b0
     try clear c3b1
     try clear c4
     try clear c4b0
     try clear c4b1
     try clear c5
     try clear c6
     try clear p6
     try clear c8
     try clear c8b0
     try clear c8b1
     try clear c9
     try clear c9b0
     try clear c9b1
     try clear c10
     try clear c10b0
     try clear c10b1
     try clear c11
     try clear p2
     try clear p6
     obtain⟨eG,bK,rfl,HA,iq,HO_4,HB⟩:=hrel
     cases gk with
     |zero=>exact absurd HA.out (by simp[riff_Chunks.l0])
     |succ k2=>
      have H:=HA.out;clear HA;simp only[riff_Chunks.l0] at H
      by_cases c12:bK<(a0.size:Int)
      ·rw[if_pos c12] at H;have c12b0:=dt_ c12;clear c12;have CZ:=Z_ H;clear H
       go_upto_region 6 with (fail)
       go_cut [47] (fun v47 wc=>∃(kq:Nat) (nW:Bool),v47= .bool nW∧Aside0 (riff_Chunks.j2 kq a0 eG bK nW=some (r1,r2))∧Aside0 (kq≤k2)∧Aside0 (Kd.R k116 116 wc w.heap.size (fun _=>True) u4 eG)∧Aside0 (Below w.heap.size w wc))
       case first=>
        have H:=CZ.out;clear CZ
        by_cases c14:(eG.length:Int)=64
        ·rw[if_pos c14] at H;have c14b0:((eG.length:Int)==64)=true:=beq_iff_eq.mpr c14;have c14b1:((eG.length:Int) !=64)=false:=bne_eq_false_iff_eq.mpr c14;clear c14;(first|rw[c14b0]|(simp only[i64_w,i32_w];rw[c14b0])|skip);have H':=Z_ H;clear H;obtain⟨Gf,C8,C9⟩:=Kd.R_slice HO_4.out;subst C9;go_wp2;go_meet
         case rel=>exact⟨_,(true),(E1_),H',⟨by have:=qR.out;have:=iq.out;first|omega|exact Nat.le_refl _⟩,⟨R_ HO_4⟩,⟨B_⟩⟩
        ·rw[if_neg c14] at H;have c14b0:((eG.length:Int)==64)=false:=beq_eq_false_iff_ne.mpr c14;have c14b1:((eG.length:Int) !=64)=true:=bne_iff_ne.mpr c14;(first|rw[c14b0]|(simp only[i64_w,i32_w];rw[c14b0])|skip);have H':=Z_ H;clear H;obtain⟨Vg,Qe,zT⟩:=Kd.R_slice HO_4.out;subst zT;go_wp2;go_meet
         case rel=>exact⟨_,(decide ((wrap64 ((a0.size:Int) - bK))<8)),(E1_),H',⟨by have:=qR.out;have:=iq.out;first|omega|exact Nat.le_refl _⟩,⟨R_ HO_4⟩,⟨B_⟩⟩
       case rest=>
        clear CZ
        try clear c1
        try clear p2
        try clear c3
        try clear c3b0
        try clear c3b1
        try clear c4
        try clear c4b0
        try clear c4b1
        try clear c5
        try clear c6
        try clear p6
        try clear c8
        try clear c8b0
        try clear c8b1
        try clear c9
        try clear c9b0
        try clear c9b1
        try clear c10
        try clear c10b0
        try clear c10b1
        try clear c11
        try clear c12
        try clear c12b0
        try clear c14
        try clear c14b0
        try clear c14b1
        try clear p2
        try clear p6
        obtain⟨kq,nW,rfl,HA,Gg,HO_4,HB⟩:=hcut
        cases kq with
        |zero=>exact absurd HA.out (by simp[riff_Chunks.j2])
        |succ vL=>
         have H:=HA.out;clear HA;simp only[riff_Chunks.j2] at H
         by_cases c17:nW=true
         ·subst c17;rw[if_pos rfl] at H;simp only[Option.some.injEq,Prod.mk.injEq] at H;obtain⟨rfl,rfl⟩:=H;go_wp2;go_ret2;exact⟨_,E_,by first|exact Kd.R_nil _ _ _ _ _|exact Kd.N_nil _ _ _ _ _|exact Kd.V_nil _ _ _ _ _|exact Kd.Q_nil _ _ _ _ _|exact Kd.S_nil _ _ _ _ _,B_⟩
         ·replace c17:=Bool.eq_false_iff.mpr c17;subst c17;rw[if_neg (show ¬(false=true) by decide)] at H
          by_cases c18:0≤bK
          ·rw[if_pos c18] at H;have c18b0:=eq_true c18;have c18b1:=dt_ c18;clear c18
           by_cases c19:bK≤(wrap64 (bK+4))
           ·rw[if_pos c19] at H;have c19b0:=eq_true c19;have c19b1:=dt_ c19
            by_cases c20:(wrap64 (bK+4))≤(a0.size:Int)
            ·rw[if_pos c20] at H;have c20b0:=eq_true c20;have c20b1:=dt_ c20;replace H:=Ob_ H;obtain⟨eU,xn,H⟩:=H;(try dsimp only at H);have Da:=Z_ xn;clear xn
             by_cases qF:(wrap64 (eU+(Int.tmod eU 2)))>(wrap64 ((a0.size:Int) - (wrap64 (bK+8))))
             ·rw[if_pos qF] at H;have c22b0:decide ((wrap64 ((a0.size:Int) - (wrap64 (bK+8))))<(wrap64 (eU+(Int.tmod eU 2))))=true:=dt_ qF;clear qF;simp only[Option.some.injEq,Prod.mk.injEq] at H;obtain⟨rfl,rfl⟩:=H
              try go_wp2
              replace HO_4:=Z_ (Kd.R_drew HO_4.out);replace HB:=Z_ (below_drew1 HB.out);refine start_ (n:=14) (S:=fun w'=>True) (ds:= []) #[false,false,false,false,false,false,false,false,false,false,false,false,false,false] (by kernel_rfl) rfl rfl trivial (fun hHeld=>?_);refine with_tabW riff_Chunks.tab8 riff_Chunks.bits8 (fun HT_ HW_=>?_);generalize wc.drew=Cu at HO_4 HB hHeld ⊢;refine P_ 0 48 ?_;refine P_ 1 49 ?_;refine P_ 2 50 ?_;refine P_ 3 51 ?_;refine P_ 4 52 ?_;refine P_ 5 53 ?_;refine P_ 6 54 ?_;refine P_ 7 55 ?_;refine P_ 8 56 ?_;refine P_ 9 57 ?_;refine join_ (σ:=Nat) 1 #[true,true,true,true,true,true,true,true,true,true,true,true,true,false] (fun s_=> [(58,.int .i64 eU),(6,.pointer (some ⟨s_,0,none⟩)),(59,.agg #[.string (a0.extract (bK:Int).toNat ((wrap64 (bK+4)):Int).toNat),.int .i64 (wrap64 (bK+8)),.int .i64 eU])]) (fun s_ w'=>(Kd.R k116 116 w' w.heap.size (fun k_=>k_≠s_) u4 eG)∧(w'.heap[s_]?=some (.cells #[.string (⟨#[]⟩:ByteArray),.int .i64 0,.int .i64 0] 116 (0,0)))∧(w.heap.size≤s_)∧(w.heap.size≤s_)∧(Below w.heap.size w w')) ?_ ?_;rotate_left
              ·intro hCont;refine two_ (i:=10) (j:=12) (Ni:=some 58) (Nj:=some 6) #[true,true,true,true,true,true,true,true,true,true,true,false,false,false] #[true,true,true,true,true,true,true,true,true,true,false,false,true,false] rfl rfl rfl rfl (two_of HT_.out (by kernel_rfl)) (by decide) (by decide) (fun K hK=>?_) (fun K hK=>?_)
               ·skip
                refine g_ Tryz.func89 #[.string a0,.int .i64 (wrap64 (bK+4))] ?_
                with_reducible refine(riff_size.calls vL a0 (wrap64 (bK+4)) eU _ Da.out).mono ?_
                rintro e w' ⟨rfl,⟨nd,rfl⟩⟩;refine⟨_,rfl,?_⟩;refine hK.out _ _ trivial (fun hHeld=>?_);clear hK K;refine Nm_ 58 ?_;refine P_ 11 59 ?_;refine O_ 12 6 fun K hK=>?_
                refine box_step ?hg (N:=6) ?hd (cs:= #[.string (⟨#[]⟩:ByteArray),.int .i64 0,.int .i64 0]) (t:=116) ?hr ?_;(case hd=>rfl);(case hg=>rfl);(case hr=>first|(go_simp;done)|(go_simp;rfl));intro bV hg tV hbox hb;replace HO_4:=Z_ (Kd.R_below (Kd.R_elderB (R_ HO_4) bV (Nat.le_of_eq hg.symm)) hb);have bF:=Z_ (hbox);have j4:=Z_ ((G2_ hg:w.heap.size≤_));have j5:=Z_ ((G2_ hg:w.heap.size≤_));replace HB:=Hb_ hb;clear hb hbox hg;refine hK.out _ _ trivial (fun hHeld=>?_);clear hK K;refine Nm_ 6 ?_;exact norm_ (by simp only[putAll,Act.put,List.setIfInBounds_toArray,List.set_cons_zero,List.set_cons_succ]) (hCont (bV) _ ⟨(by(with_reducible repeat (first|apply Kd.R_alloc|apply Kd.R_drewN|apply Kd.R_drew));exact Kd.R_mono HO_4.out (fun _ hk=>hk.2)),(K_ bF),j4.out,j5.out,B_⟩)
               ·skip
                refine box_step ?hg (N:=6) ?hd (cs:= #[.string (⟨#[]⟩:ByteArray),.int .i64 0,.int .i64 0]) (t:=116) ?hr ?_;(case hd=>rfl);(case hg=>rfl);(case hr=>first|(go_simp;done)|(go_simp;rfl));intro bV hg tV hbox hb;replace HO_4:=Z_ (Kd.R_below (Kd.R_elderB (R_ HO_4) bV (Nat.le_of_eq hg.symm)) hb);have bF:=Z_ (hbox);have j4:=Z_ ((G2_ hg:w.heap.size≤_));have j5:=Z_ ((G2_ hg:w.heap.size≤_));replace HB:=Hb_ hb;clear hb hbox hg;refine hK.out _ _ trivial (fun hHeld=>?_);clear hK K;refine Nm_ 6 ?_;refine O_ 10 58 fun K hK=>?_
                refine g_ Tryz.func89 #[.string a0,.int .i64 (wrap64 (bK+4))] ?_
                with_reducible refine(riff_size.calls vL a0 (wrap64 (bK+4)) eU _ Da.out).mono ?_
                rintro e w' ⟨rfl,⟨nd,rfl⟩⟩;refine⟨_,rfl,?_⟩;refine hK.out _ _ trivial (fun hHeld=>?_);clear hK K;refine Nm_ 58 ?_;refine P_ 11 59 ?_;exact norm_ (by simp only[putAll,Act.put,List.setIfInBounds_toArray,List.set_cons_zero,List.set_cons_succ]) (hCont (bV) _ ⟨(by(with_reducible repeat (first|apply Kd.R_alloc|apply Kd.R_drewN|apply Kd.R_drew));exact Kd.R_mono HO_4.out (fun _ hk=>hk.2)),(K_ bF),j4.out,j5.out,B_⟩)
              rintro bV tX ⟨tY,tZ,qM,uf,ug⟩;have bU:Aside0 (Kd.R k116 116 tX w.heap.size (fun k_=>k_≠bV) u4 eG):=⟨tY⟩;have bN:Aside0 (tX.heap[bV]?=some (.cells #[.string (⟨#[]⟩:ByteArray),.int .i64 0,.int .i64 0] 116 (0,0))):=⟨tZ⟩;have eX:Aside0 (w.heap.size≤bV):=⟨qM⟩;have j6:Aside0 (w.heap.size≤bV):=⟨uf⟩;have mD:Aside0 (Below w.heap.size w tX):=⟨ug⟩;clear HO_4;clear HB;clear tY tZ qM uf ug;have HO_4:=bU;have bF:=bN;have j4:=eX;have j5:=j6;have HB:=mD;clear bU bN eX j6 mD;have hHeld:=trivial;refine norm_ (a':=?_) ?_ ?_;rotate_left
              ·simp only[putAll,Act.put,List.setIfInBounds_toArray,List.set_cons_zero,List.set_cons_succ];rfl
              refine one_ (i:=13) (N:=none) #[true,true,true,true,true,true,true,true,true,true,true,true,true,true] rfl rfl (one_of HT_.out (by kernel_rfl)) (by decide) (fun K hK=>?_);have Vh:tX.cell? ⟨bV,0,none⟩=some (.string (⟨#[]⟩:ByteArray)):=(blk_cell bF.out 0).trans rfl;have SI:=blk_frozen bF.out 0;have Qf:tX.cell? ⟨bV,1,none⟩=some (.int .i64 0):=(blk_cell bF.out 1).trans rfl;have Gh:=blk_frozen bF.out 1;have Qg:tX.cell? ⟨bV,2,none⟩=some (.int .i64 0):=(blk_cell bF.out 2).trans rfl;have Gi:=blk_frozen bF.out 2;refine skip_ (w1:=?_) (by rfl) rfl ?_ ?_;rotate_left
              ·go_simp
               rfl
              refine hK.out _ _ trivial (fun hHeld=>?_);clear hK K;refine done_ (done_of HT_.out (by kernel_rfl)) ?_;have JR:=cz_ bF 0;have JS:=cz_ bF 1;have JU:=cz_ bF 2;have JV:=fz_ bF 0;have JW:=fz_ bF 1;have JX:=fz_ bF 2
              try go_wp2
              go_ret2;exact⟨_,E_,by first|exact Kd.R_nil _ _ _ _ _|exact Kd.N_nil _ _ _ _ _|exact Kd.V_nil _ _ _ _ _|exact Kd.Q_nil _ _ _ _ _|exact Kd.S_nil _ _ _ _ _,B_⟩
             ·rw[if_neg qF] at H;have c22b0:decide ((wrap64 ((a0.size:Int) - (wrap64 (bK+8))))<(wrap64 (eU+(Int.tmod eU 2))))=false:=df_ qF;clear qF
              by_cases lJ:eG.length<4398046511104
              ·rw[if_pos lJ] at H;have xq:=Z_ lJ;clear lJ;obtain⟨Gj,pJ⟩:∃y_:List (S116),y_=(eG++ [(⟨a0.extract (bK:Int).toNat ((wrap64 (bK+4)):Int).toNat,wrap64 (bK+8),eU⟩:S116)]):=⟨_,rfl⟩;replace H:(riff_Chunks.l0 vL a0 Gj (wrap64 ((wrap64 (bK+8))+(wrap64 (eU+(Int.tmod eU 2))))))=some (r1,r2):=by first|(rw[pJ];with_reducible exact H)|(have bS:=(bs_ _ _).symm.trans H;rw[pJ];with_reducible exact bS)|(have bS:=(bs_ _ _).symm.trans H;with_reducible exact bS)|with_reducible exact H|(rw[pJ];exact H)|exact H
               have Gl:=Z_ pJ;clear pJ;have H':=Z_ H;clear H
               try go_wp2
               replace HO_4:=Z_ (Kd.R_drew HO_4.out);replace HB:=Z_ (below_drew1 HB.out);refine start_ (n:=14) (S:=fun w'=>True) (ds:= []) #[false,false,false,false,false,false,false,false,false,false,false,false,false,false] (by kernel_rfl) rfl rfl trivial (fun hHeld=>?_);refine with_tabW riff_Chunks.tab8 riff_Chunks.bits8 (fun HT_ HW_=>?_);generalize wc.drew=Vi at HO_4 HB hHeld ⊢;refine P_ 0 48 ?_;refine P_ 1 49 ?_;refine P_ 2 50 ?_;refine P_ 3 51 ?_;refine P_ 4 52 ?_;refine P_ 5 53 ?_;refine P_ 6 54 ?_;refine P_ 7 55 ?_;refine P_ 8 56 ?_;refine P_ 9 57 ?_;refine join_ (σ:=Nat) 1 #[true,true,true,true,true,true,true,true,true,true,true,true,true,false] (fun s_=> [(58,.int .i64 eU),(6,.pointer (some ⟨s_,0,none⟩)),(59,.agg #[.string (a0.extract (bK:Int).toNat ((wrap64 (bK+4)):Int).toNat),.int .i64 (wrap64 (bK+8)),.int .i64 eU])]) (fun s_ w'=>(Kd.R k116 116 w' w.heap.size (fun k_=>k_≠s_) u4 eG)∧(w'.heap[s_]?=some (.cells #[.string (⟨#[]⟩:ByteArray),.int .i64 0,.int .i64 0] 116 (0,0)))∧(w.heap.size≤s_)∧(w.heap.size≤s_)∧(Below w.heap.size w w')) ?_ ?_;rotate_left
               ·intro hCont;refine two_ (i:=10) (j:=12) (Ni:=some 58) (Nj:=some 6) #[true,true,true,true,true,true,true,true,true,true,true,false,false,false] #[true,true,true,true,true,true,true,true,true,true,false,false,true,false] rfl rfl rfl rfl (two_of HT_.out (by kernel_rfl)) (by decide) (by decide) (fun K hK=>?_) (fun K hK=>?_)
                ·skip
                 refine g_ Tryz.func89 #[.string a0,.int .i64 (wrap64 (bK+4))] ?_
                 with_reducible refine(riff_size.calls vL a0 (wrap64 (bK+4)) eU _ Da.out).mono ?_
                 rintro e w' ⟨rfl,⟨nd,rfl⟩⟩;refine⟨_,rfl,?_⟩;refine hK.out _ _ trivial (fun hHeld=>?_);clear hK K;refine Nm_ 58 ?_;refine P_ 11 59 ?_;refine O_ 12 6 fun K hK=>?_
                 refine box_step ?hg (N:=6) ?hd (cs:= #[.string (⟨#[]⟩:ByteArray),.int .i64 0,.int .i64 0]) (t:=116) ?hr ?_;(case hd=>rfl);(case hg=>rfl);(case hr=>first|(go_simp;done)|(go_simp;rfl));intro bV hg w32 hbox hb;replace HO_4:=Z_ (Kd.R_below (Kd.R_elderB (R_ HO_4) bV (Nat.le_of_eq hg.symm)) hb);have bF:=Z_ (hbox);have j4:=Z_ ((G2_ hg:w.heap.size≤_));have j5:=Z_ ((G2_ hg:w.heap.size≤_));replace HB:=Hb_ hb;clear hb hbox hg;refine hK.out _ _ trivial (fun hHeld=>?_);clear hK K;refine Nm_ 6 ?_;exact norm_ (by simp only[putAll,Act.put,List.setIfInBounds_toArray,List.set_cons_zero,List.set_cons_succ]) (hCont (bV) _ ⟨(by(with_reducible repeat (first|apply Kd.R_alloc|apply Kd.R_drewN|apply Kd.R_drew));exact Kd.R_mono HO_4.out (fun _ hk=>hk.2)),(K_ bF),j4.out,j5.out,B_⟩)
                ·skip
                 refine box_step ?hg (N:=6) ?hd (cs:= #[.string (⟨#[]⟩:ByteArray),.int .i64 0,.int .i64 0]) (t:=116) ?hr ?_;(case hd=>rfl);(case hg=>rfl);(case hr=>first|(go_simp;done)|(go_simp;rfl));intro bV hg w32 hbox hb;replace HO_4:=Z_ (Kd.R_below (Kd.R_elderB (R_ HO_4) bV (Nat.le_of_eq hg.symm)) hb);have bF:=Z_ (hbox);have j4:=Z_ ((G2_ hg:w.heap.size≤_));have j5:=Z_ ((G2_ hg:w.heap.size≤_));replace HB:=Hb_ hb;clear hb hbox hg;refine hK.out _ _ trivial (fun hHeld=>?_);clear hK K;refine Nm_ 6 ?_;refine O_ 10 58 fun K hK=>?_
                 refine g_ Tryz.func89 #[.string a0,.int .i64 (wrap64 (bK+4))] ?_
                 with_reducible refine(riff_size.calls vL a0 (wrap64 (bK+4)) eU _ Da.out).mono ?_
                 rintro e w' ⟨rfl,⟨nd,rfl⟩⟩;refine⟨_,rfl,?_⟩;refine hK.out _ _ trivial (fun hHeld=>?_);clear hK K;refine Nm_ 58 ?_;refine P_ 11 59 ?_;exact norm_ (by simp only[putAll,Act.put,List.setIfInBounds_toArray,List.set_cons_zero,List.set_cons_succ]) (hCont (bV) _ ⟨(by(with_reducible repeat (first|apply Kd.R_alloc|apply Kd.R_drewN|apply Kd.R_drew));exact Kd.R_mono HO_4.out (fun _ hk=>hk.2)),(K_ bF),j4.out,j5.out,B_⟩)
               rintro bV xu ⟨tY,tZ,qM,uf,ug⟩;have bU:Aside0 (Kd.R k116 116 xu w.heap.size (fun k_=>k_≠bV) u4 eG):=⟨tY⟩;have bN:Aside0 (xu.heap[bV]?=some (.cells #[.string (⟨#[]⟩:ByteArray),.int .i64 0,.int .i64 0] 116 (0,0))):=⟨tZ⟩;have eX:Aside0 (w.heap.size≤bV):=⟨qM⟩;have j6:Aside0 (w.heap.size≤bV):=⟨uf⟩;have mD:Aside0 (Below w.heap.size w xu):=⟨ug⟩;clear HO_4;clear HB;clear tY tZ qM uf ug;have HO_4:=bU;have bF:=bN;have j4:=eX;have j5:=j6;have HB:=mD;clear bU bN eX j6 mD;have hHeld:=trivial;refine norm_ (a':=?_) ?_ ?_;rotate_left
               ·simp only[putAll,Act.put,List.setIfInBounds_toArray,List.set_cons_zero,List.set_cons_succ];rfl
               refine one_ (i:=13) (N:=none) #[true,true,true,true,true,true,true,true,true,true,true,true,true,true] rfl rfl (one_of HT_.out (by kernel_rfl)) (by decide) (fun K hK=>?_);have Vj:xu.cell? ⟨bV,0,none⟩=some (.string (⟨#[]⟩:ByteArray)):=(blk_cell bF.out 0).trans rfl;have SK:=blk_frozen bF.out 0;have Vk:xu.cell? ⟨bV,1,none⟩=some (.int .i64 0):=(blk_cell bF.out 1).trans rfl;have SL:=blk_frozen bF.out 1;have Qh:xu.cell? ⟨bV,2,none⟩=some (.int .i64 0):=(blk_cell bF.out 2).trans rfl;have Gn:=blk_frozen bF.out 2;refine skip_ (w1:=?_) (by rfl) rfl ?_ ?_;rotate_left
               ·go_simp
                rfl
               refine hK.out _ _ trivial (fun hHeld=>?_);clear hK K;refine done_ (done_of HT_.out (by kernel_rfl)) ?_;have uh:=cz_ bF 0;have ui:=cz_ bF 1;have uj:=cz_ bF 2;have uk:=fz_ bF 0;have ul:=fz_ bF 1;have um:=fz_ bF 2
               try go_wp2_with (first|((with_reducible refine gate_builtin (b:= .append) (xs:= #[.tmp 73,.tmp 75]) rfl ?_);(try (refine gate_guard (by rfl) ?_;dsimp only));at_builtin;refine Kd.R_append k116 (w0:=w) w.heap.size rfl (.tmp 73) (.tmp 75) 110 116 (.agg #[(.string ⟨#[]⟩),(.int .i64 0),(.int .i64 0)]) 32 rfl Tryz.underlying110 info116 rfl (by decide) (by omega) u4 eG (⟨a0.extract (bK:Int).toNat ((wrap64 (bK+4)):Int).toNat,wrap64 (bK+8),eU⟩:S116) [.string (a0.extract (bK:Int).toNat ((wrap64 (bK+4)):Int).toNat),.int .i64 (wrap64 (bK+8)),.int .i64 eU] (fun k_=>k_≠bV) (fun _=>False) rfl (by first|(go_simp;done)|(go_simp;rfl)) ?aP (fun _ hk=>hk.elim) ?aF ?aO ?aB ?aS ?aL ?_;(case aP=>exact k116_mkM _ _ _ (⟨a0.extract (bK:Int).toNat ((wrap64 (bK+4)):Int).toNat,wrap64 (bK+8),eU⟩:S116));(case aB=>exact B_);(case aF=>exact(fun k_ hk=>Kd.freshB (g:=bV) (o:= .cells #[.string (a0.extract (bK:Int).toNat ((wrap64 (bK+4)):Int).toNat),.int .i64 (wrap64 (bK+8)),.int .i64 eU] 116 (0,0)) (blk_put (cs:= #[.string (a0.extract (bK:Int).toNat ((wrap64 (bK+4)):Int).toNat),.int .i64 (wrap64 (bK+8)),.int .i64 0]) (blk_put (cs:= #[.string (a0.extract (bK:Int).toNat ((wrap64 (bK+4)):Int).toNat),.int .i64 0,.int .i64 0]) (blk_put (cs:= #[.string (⟨#[]⟩:ByteArray),.int .i64 0,.int .i64 0]) (K_ bF) 0 _ rfl) 1 _ rfl) 2 _ rfl) k_ hk));(case aO=>exact(by(with_reducible repeat (first|apply Kd.R_alloc|apply Kd.R_drewN|apply Kd.R_drew));exact Kd.R_mono (Kd.R_far (p:=⟨bV,2,none⟩) (Kd.R_far (p:=⟨bV,1,none⟩) (Kd.R_far (p:=⟨bV,0,none⟩) (Kd.R_mono HO_4.out (fun k_ hk=>(⟨hk,hk⟩:_∧k_≠bV))) (fun _ hk=>hk.2) (.string (a0.extract (bK:Int).toNat ((wrap64 (bK+4)):Int).toNat))) (fun _ hk=>hk.2) (.int .i64 (wrap64 (bK+8)))) (fun _ hk=>hk.2) (.int .i64 eU)) (fun _ hk=>hk.1)));(case aS=>exact(below_size B_));(case aL=>have:=xq.out;omega);intro v173 JY ho hb hg hat;rw[←Gl.out] at ho;replace bF:=Z_ (blk_grown (g:=bV) (o:= .cells #[.string (a0.extract (bK:Int).toNat ((wrap64 (bK+4)):Int).toNat),.int .i64 (wrap64 (bK+8)),.int .i64 eU] 116 (0,0)) (blk_put (cs:= #[.string (a0.extract (bK:Int).toNat ((wrap64 (bK+4)):Int).toNat),.int .i64 (wrap64 (bK+8)),.int .i64 0]) (blk_put (cs:= #[.string (a0.extract (bK:Int).toNat ((wrap64 (bK+4)):Int).toNat),.int .i64 0,.int .i64 0]) (blk_put (cs:= #[.string (⟨#[]⟩:ByteArray),.int .i64 0,.int .i64 0]) (K_ bF) 0 _ rfl) 1 _ rfl) 2 _ rfl) hg (Kd.R_away HO_4.out (fun _ hk=>hk)));replace HB:=Z_ (hb);have Gp:=Z_ (ho);clear HO_4;clear ho hb hg hat;have zU:=cz_ bF 0;have zV:=cz_ bF 1;have JZ:=cz_ bF 2;have zW:=fz_ bF 0;have zX:=fz_ bF 1;have J2:=fz_ bF 2))
               go_roundg vL
               case measure=>have:=qR.out;have:=iq.out;have:=Gg.out;omega
               case rel=>exact⟨(Gj),(wrap64 ((wrap64 (bK+8))+(wrap64 (eU+(Int.tmod eU 2))))),(E1_),H',⟨by have:=qR.out;have:=iq.out;have:=Gg.out;omega⟩,⟨by(with_reducible repeat (first|apply Kd.R_alloc|apply Kd.R_drewN|apply Kd.R_drew));exact Kd.R_mono Gp.out (fun _ hk=>trivial)⟩,⟨B_⟩⟩
              ·rw[if_neg lJ] at H;exact absurd H (by simp)
            ·rw[if_neg c20] at H;exact absurd H (by simp)
           ·rw[if_neg c19] at H;exact absurd H (by simp)
          ·rw[if_neg c18] at H;exact absurd H (by simp)
      ·rw[if_neg c12] at H;have c12b0:=df_ c12;clear c12;simp only[Option.some.injEq,Prod.mk.injEq] at H;obtain⟨rfl,rfl⟩:=H;go_wp2;go_ret2;exact⟨_,E_,R_ HO_4,B_⟩
def wave_two.f(k:Nat)(a0:ByteArray)(a1:Int):Option (Int):=if 0≤a1 then(if a1≤(wrap64 (a1+2)) then(if(wrap64 (a1+2))≤(a0.size:Int) then((field_Get.f k (a0.extract (a1:Int).toNat ((wrap64 (a1+2)):Int).toNat)).bind fun xw=>(some xw.1)) else(none)) else(none)) else(none)
theorem wave_two.mono:∀a0 a1 k,LeO (wave_two.f k a0 a1) (wave_two.f (k+1) a0 a1):=by
 intro a0 a1 k;unfold wave_two.f
 repeat' first
   |(with_reducible exact field_Get.mono _ _)
   |(with_reducible exact LeO.refl _)
   |(with_reducible exact LeO.none _)
   |(with_reducible refine LeO.ite ?_ ?_)
   |(with_reducible refine LeO.bind ?_ (fun _=>?_))
   |exact field_Get.mono _ _
   |exact LeO.none _
   |refine LeO.ite ?_ ?_
   |refine LeO.bind ?_ (fun _=>?_)
theorem wave_two.calls(k:Nat)(a0:ByteArray)(a1:Int)(r:Int)(w:World)(h:wave_two.f k a0 a1=some r):
  Calls Tryz.prog 93 #[.string a0,.int .i64 a1] w fun e w'=>e= .returned (.int .i64 r)∧Drawn0 w w':=by
 have H:(if 0≤a1 then(if a1≤(wrap64 (a1+2)) then(if(wrap64 (a1+2))≤(a0.size:Int) then((field_Get.f k (a0.extract (a1:Int).toNat ((wrap64 (a1+2)):Int).toNat)).bind fun xw=>(some xw.1)) else(none)) else(none)) else(none))=some r:=h;clear h
 by_cases c3:0≤a1
 ·rw[if_pos c3] at H;have c3b0:=eq_true c3;have c3b1:=dt_ c3;clear c3
  by_cases c4:a1≤(wrap64 (a1+2))
  ·rw[if_pos c4] at H;have c4b0:=eq_true c4;have c4b1:=dt_ c4
   by_cases c5:(wrap64 (a1+2))≤(a0.size:Int)
   ·rw[if_pos c5] at H;have c5b0:=eq_true c5;have c5b1:=dt_ c5;replace H:=Ob_ H;obtain⟨⟨t175,Qi⟩,pI,H⟩:=H;replace H:(some t175)=some r:=H;have A6:=Z_ pI;clear pI;obtain rfl:=Option.some.inj H
    go_enter Tryz.func93,Tryz.ntmps93
    go_wp2_with (first|(refine G_ 13 Tryz.func64 #[.string (a0.extract (a1:Int).toNat ((wrap64 (a1+2)):Int).toNat)] ?_;refine(field_Get.calls k (a0.extract (a1:Int).toNat ((wrap64 (a1+2)):Int).toNat) t175 Qi _ A6.out).mono ?_;rintro e w' ⟨rfl,⟨nd,rfl⟩⟩;refine⟨_,rfl,?_⟩))
    go_ret;exact⟨E1_,D_⟩
   ·rw[if_neg c5] at H;exact absurd H (by simp)
  ·rw[if_neg c4] at H;exact absurd H (by simp)
 ·rw[if_neg c3] at H;exact absurd H (by simp)
def wave_format.f(k:Nat)(a0:ByteArray):Option (Int×Int×Bool):=(wave_two.f k a0 2).bind fun bW=>((wave_two.f k a0 14).bind fun cZ=>((pcm_May.f bW cZ).bind fun xx=>(if xx=true then((wave_two.f k a0 0).bind fun t182=>(if t182=1 then((wave_two.f k a0 12).bind fun t183=>((pcm_Frame.f bW cZ).bind fun xy=>(some (bW,cZ,(t183==xy))))) else(some (bW,cZ,false)))) else(some (bW,cZ,false)))))
theorem wave_format.mono:∀a0 k,LeO (wave_format.f k a0) (wave_format.f (k+1) a0):=by
 intro a0 k;unfold wave_format.f
 repeat' first
   |(with_reducible exact wave_two.mono _ _ _)
   |(with_reducible exact LeO.refl _)
   |(with_reducible exact LeO.none _)
   |(with_reducible refine LeO.ite ?_ ?_)
   |(with_reducible refine LeO.bind ?_ (fun _=>?_))
   |exact wave_two.mono _ _ _
   |exact LeO.none _
   |refine LeO.ite ?_ ?_
   |refine LeO.bind ?_ (fun _=>?_)
def wave_format.T2:Bool×List (List Nat×List Nat):=(true,[([],[]),([],[]),([1],[1]),([2,2],[2]),([3],[3]),([4,3,3],[3,4]),([5,3],[3,5]),([3,6],[3,6]),([7,5],[7]),([8],[8]),([9,8,8],[8,9]),([8],[8]),([11,10,8],[8,11]),([10,12,8],[8,10,12]),([8,13],[8,13]),([0,12,0],[0]),([14,15,0,1,2,3,4,5,6,7,8,9,10,11,12,13,14,15],[14])])
def wave_format.B2:List Nat:= [0,0,2,6,14,30,62,126,254,510,1022,510,4094,8190,16382,8191,65535]
theorem wave_format.tab2:rtab .any (opsOf Tryz.f60 2)=wave_format.T2:=by kernel_rfl
theorem wave_format.bits2:waitsOk wave_format.T2.2 wave_format.B2=true:=by kernel_rfl
theorem wave_format.calls(k:Nat)(a0:ByteArray)(r1:Int)(r2:Int)(r3:Bool)(w:World)(h:wave_format.f k a0=some (r1,r2,r3)):
  Calls Tryz.prog 60 #[.string a0] w fun e w'=>e= .returned (.tuple #[.agg #[.int .i64 r1,.int .i64 r2],.bool r3])∧Below w.heap.size w w':=by
 have fH:=Tryz.underlying23;have HB:=Z_ (Below.refl w.heap.size w);have H:((wave_two.f k a0 2).bind fun bW=>((wave_two.f k a0 14).bind fun cZ=>((pcm_May.f bW cZ).bind fun xx=>(if xx=true then((wave_two.f k a0 0).bind fun t182=>(if t182=1 then((wave_two.f k a0 12).bind fun t183=>((pcm_Frame.f bW cZ).bind fun xy=>(some (bW,cZ,(t183==xy))))) else(some (bW,cZ,false)))) else(some (bW,cZ,false))))))=some (r1,r2,r3):=h;clear h;replace H:=Ob_ H;obtain⟨bW,fU,H⟩:=H;(try dsimp only at H);have A2:=Z_ fU;clear fU;replace H:=Ob_ H;obtain⟨cZ,jw,H⟩:=H;(try dsimp only at H);have A3:=Z_ jw;clear jw;replace H:=Ob_ H;obtain⟨xx,Bi,H⟩:=H;(try dsimp only at H);have A4:=Z_ Bi;clear Bi
 by_cases c5:xx=true
 ·subst c5;rw[if_pos rfl] at H;replace H:=Ob_ H;obtain⟨t182,pI,H⟩:=H;(try dsimp only at H);have A6:=Z_ pI;clear pI
  by_cases c7:t182=1
  ·rw[if_pos c7] at H;have c7b0:(t182==1)=true:=beq_iff_eq.mpr c7;have c7b1:(t182 !=1)=false:=bne_eq_false_iff_eq.mpr c7;clear c7;replace H:=Ob_ H;obtain⟨t183,uo,H⟩:=H;(try dsimp only at H);have A8:=Z_ uo;clear uo;replace H:=Ob_ H;obtain⟨xy,Bp,H⟩:=H;(try dsimp only at H);have A9:=Z_ Bp;clear Bp;simp only[Option.some.injEq,Prod.mk.injEq] at H;obtain⟨rfl,rfl,rfl⟩:=H
   go_enter Tryz.func60,Tryz.ntmps60
   try go_wp2_with (first|(refine X_ 2 #[.int .i64 0,.int .i64 0] 23 ?_;intro bB hg o5 hbox hb;have aJ:=Z_ (hbox);have pK:=Z_ (G2_ hg:w.heap.size≤_);have Bq:=pK;replace HB:=Hb_ hb;clear hb hbox hg)|(refine G_ 6 Tryz.func93 #[.string a0,.int .i64 2] ?_;refine(wave_two.calls k a0 2 bW _ A2.out).mono ?_;rintro e w' ⟨rfl,⟨nd,rfl⟩⟩;refine⟨_,rfl,?_⟩;(try (rw[drewN_self o5];generalize hq_:World.drewN o5 _=o5;have bU:Aside0 (o5.heap[bB]?=some (.cells #[.int .i64 0,.int .i64 0] 23 (0,0))):=⟨by rw[←hq_];exact(K_ aJ)⟩;have bN:Aside0 (Below w.heap.size w o5):=⟨by rw[←hq_];exact B_⟩;clear aJ HB hq_;have aJ:=bU;have HB:=bN;clear bU bN)))|(refine G_ 8 Tryz.func93 #[.string a0,.int .i64 14] ?_;refine(wave_two.calls k a0 14 cZ _ A3.out).mono ?_;rintro e w' ⟨rfl,⟨nd,rfl⟩⟩;refine⟨_,rfl,?_⟩;(try (rw[drewN_self o5];generalize hq_:World.drewN o5 _=o5;have bU:Aside0 (o5.heap[bB]?=some (.cells #[.int .i64 0,.int .i64 0] 23 (0,0))):=⟨by rw[←hq_];exact(K_ aJ)⟩;have bN:Aside0 (Below w.heap.size w o5):=⟨by rw[←hq_];exact B_⟩;clear aJ HB hq_;have aJ:=bU;have HB:=bN;clear bU bN)))|(refine X_ 4 #[.int .i64 0,.int .i64 0] 23 ?_;intro bH hg zg hbox hb;have aT:=Z_ (hbox);have pM:=Z_ (G2_ hg:w.heap.size≤_);have Br:=pM;replace HB:=Hb_ hb;have bI:=Z_ ((by rw[hg];exact Nat.ne_of_lt (blk_lt (g:=bB) (o:= .cells #[.int .i64 0,.int .i64 0] 23 (0,0)) (K_ aJ)):bB≠bH));have aX:=Z_ ((by rw[hg];exact Nat.ne_of_gt (blk_lt (g:=bB) (o:= .cells #[.int .i64 0,.int .i64 0] 23 (0,0)) (K_ aJ)):bH≠bB));replace aJ:=Z_ (blk_below (K_ aJ) hb);clear hb hbox hg;have FZ:=aX.out;have F3:=bI.out;have gL:=cz_ aT 0;have gM:=cz_ aT 1;have gN:=fz_ aT 0;have gP:=fz_ aT 1))
   have bU:Aside0 (((zg.setCell ⟨bH,0,none⟩ (.int .i64 bW)).setCell ⟨bH,1,none⟩ (.int .i64 cZ)).heap[bB]?=some (.cells #[.int .i64 0,.int .i64 0] 23 (0,0))):=⟨(blk_far (blk_far (K_ aJ) bI.out _) bI.out _)⟩;have bN:Aside0 (((zg.setCell ⟨bH,0,none⟩ (.int .i64 bW)).setCell ⟨bH,1,none⟩ (.int .i64 cZ)).heap[bH]?=some (.cells #[.int .i64 bW,.int .i64 cZ] 23 (0,0))):=⟨(blk_put (cs:= #[.int .i64 bW,.int .i64 0]) (blk_put (cs:= #[.int .i64 0,.int .i64 0]) (K_ aT) 0 _ rfl) 1 _ rfl)⟩;have eX:Aside0 (Below w.heap.size w ((zg.setCell ⟨bH,0,none⟩ (.int .i64 bW)).setCell ⟨bH,1,none⟩ (.int .i64 cZ))):=⟨B_⟩;(try clear aJ);(try clear aT);(try clear HB);generalize ((zg.setCell ⟨bH,0,none⟩ (.int .i64 bW)).setCell ⟨bH,1,none⟩ (.int .i64 cZ))=yN at bU bN eX ⊢;have aJ:=bU;have aT:=bN;have HB:=eX;clear bU bN eX;replace aJ:=Z_ (blk_drew aJ.out);replace aT:=Z_ (blk_drew aT.out);replace HB:=Z_ (below_drew1 HB.out);refine start_ (n:=17) (S:=fun w'=>w'.cell? ⟨bH,0,none⟩=some (.int .i64 bW)∧w'.cell? ⟨bH,1,none⟩=some (.int .i64 cZ)) (ds:= []) #[false,false,false,false,false,false,false,false,false,false,false,false,false,false,false,false,false] (by kernel_rfl) rfl rfl ⟨(blk_cell aT.out 0).trans rfl,(blk_cell aT.out 1).trans rfl⟩ (fun hHeld=>?_);refine with_tabW wave_format.tab2 wave_format.bits2 (fun HT_ HW_=>?_);generalize yN.drew=nX at aJ aT HB hHeld ⊢;refine T_ 0 10 (y:=by rintro w' ⟨s0,s1⟩;go_simp;with_reducible rfl) (h:=?_);refine T_ 1 11 (y:=by rintro w' ⟨s0,s1⟩;go_simp;with_reducible rfl) (h:=?_);refine O_ 2 12 fun K hK=>?_
   refine g_ Tryz.func62 #[.agg #[.int .i64 bW,.int .i64 cZ]] ?_
   with_reducible refine(pcm_May.calls bW cZ true _ A4.out).mono ?_
   rintro e w16 ⟨rfl,hb⟩;refine⟨_,rfl,?_⟩;replace aJ:=Z_ (blk_below (K_ aJ) hb);replace aT:=Z_ (blk_below (K_ aT) hb);replace HB:=Hb_ hb;(try clear hb);(try clear hb2);(try clear hk);(try clear hi);refine hK.out _ _ ⟨(blk_cell aT.out 0).trans rfl,(blk_cell aT.out 1).trans rfl⟩ (fun hHeld=>?_);clear hK K;refine Nm_ 12 ?_;refine P_ 3 13 ?_;refine P_ 4 14 ?_;refine O_ 5 15 fun K hK=>?_
   refine g_ Tryz.func93 #[.string a0,.int .i64 0] ?_
   with_reducible refine(wave_two.calls k a0 0 t182 _ A6.out).mono ?_
   rintro e w' ⟨rfl,⟨nd,rfl⟩⟩;refine⟨_,rfl,?_⟩;refine hK.out _ _ ⟨(blk_cell aT.out 0).trans rfl,(blk_cell aT.out 1).trans rfl⟩ (fun hHeld=>?_);clear hK K;refine Nm_ 15 ?_;refine P_ 6 16 ?_;refine P_ 7 17 ?_;refine P_ 8 18 ?_;refine P_ 9 19 ?_;refine T_ 11 21 (y:=by rintro w' ⟨s0,s1⟩;go_simp;with_reducible rfl) (h:=?_);refine O_ 10 20 fun K hK=>?_
   refine g_ Tryz.func93 #[.string a0,.int .i64 12] ?_
   with_reducible refine(wave_two.calls k a0 12 t183 _ A8.out).mono ?_
   rintro e w' ⟨rfl,⟨nd,rfl⟩⟩;refine⟨_,rfl,?_⟩;refine hK.out _ _ ⟨(blk_cell aT.out 0).trans rfl,(blk_cell aT.out 1).trans rfl⟩ (fun hHeld=>?_);clear hK K;refine Nm_ 20 ?_;refine O_ 12 22 fun K hK=>?_
   refine g_ Tryz.func29 #[.agg #[.int .i64 bW,.int .i64 cZ]] ?_
   with_reducible refine(pcm_Frame.calls bW cZ xy _ A9.out).mono ?_
   rintro e Db ⟨rfl,hb⟩;refine⟨_,rfl,?_⟩;replace aJ:=Z_ (blk_below (K_ aJ) hb);replace aT:=Z_ (blk_below (K_ aT) hb);replace HB:=Hb_ hb;(try clear hb);(try clear hb2);(try clear hk);(try clear hi);refine hK.out _ _ ⟨(blk_cell aT.out 0).trans rfl,(blk_cell aT.out 1).trans rfl⟩ (fun hHeld=>?_);clear hK K;refine Nm_ 22 ?_;refine P_ 13 23 ?_;refine P_ 14 24 ?_;refine one_ (i:=15) (N:=none) #[true,true,true,true,true,true,true,true,true,true,true,true,true,true,true,true,false] rfl rfl (one_of HT_.out (by kernel_rfl)) (by decide) (fun K hK=>?_);have Qj:Db.cell? ⟨bB,0,none⟩=some (.int .i64 0):=(blk_cell aJ.out 0).trans rfl;have Gq:=blk_frozen aJ.out 0;have J3:=aX.out;have J4:=bI.out;have F4:Db.cell? ⟨bB,1,none⟩=some (.int .i64 0):=(blk_cell aJ.out 1).trans rfl;have Bl:=blk_frozen aJ.out 1;have zx:=aX.out;have zA:=bI.out;refine skip_ (w1:=?_) (by rfl) rfl ?_ ?_;rotate_left
   ·go_simp
    rfl
   refine hK.out _ _ ⟨((cell_far (p:=⟨bB,_,none⟩) aX.out _).trans (((cell_far (p:=⟨bB,_,none⟩) aX.out _).trans (hHeld.1)))),((cell_far (p:=⟨bB,_,none⟩) aX.out _).trans (((cell_far (p:=⟨bB,_,none⟩) aX.out _).trans (hHeld.2))))⟩ (fun hHeld=>?_);clear hK K;refine P_ 16 3 ?_;refine done_ (done_of HT_.out (by kernel_rfl)) ?_
   try go_wp2
   refine bodyPost_ret (results_ct rfl _ _ bB 23 #[.int .i64 bW,.int .i64 cZ] (0,0) _ rfl (blk_put (cs:= #[.int .i64 bW,.int .i64 0]) (blk_put (cs:= #[.int .i64 0,.int .i64 0]) (K_ aJ) 0 _ rfl) 1 _ rfl) Tryz.underlying23 rfl (by kernel_rfl)) rfl ?_;exact⟨E_,B_⟩
  ·rw[if_neg c7] at H;have c7b0:(t182==1)=false:=beq_eq_false_iff_ne.mpr c7;have c7b1:(t182 !=1)=true:=bne_iff_ne.mpr c7;simp only[Option.some.injEq,Prod.mk.injEq] at H;obtain⟨rfl,rfl,rfl⟩:=H
   go_enter Tryz.func60,Tryz.ntmps60
   try go_wp2_with (first|(refine X_ 2 #[.int .i64 0,.int .i64 0] 23 ?_;intro bB hg nY hbox hb;have aJ:=Z_ (hbox);have pK:=Z_ (G2_ hg:w.heap.size≤_);have Bq:=pK;replace HB:=Hb_ hb;clear hb hbox hg)|(refine G_ 6 Tryz.func93 #[.string a0,.int .i64 2] ?_;refine(wave_two.calls k a0 2 bW _ A2.out).mono ?_;rintro e w' ⟨rfl,⟨nd,rfl⟩⟩;refine⟨_,rfl,?_⟩;(try (rw[drewN_self nY];generalize hq_:World.drewN nY _=nY;have bU:Aside0 (nY.heap[bB]?=some (.cells #[.int .i64 0,.int .i64 0] 23 (0,0))):=⟨by rw[←hq_];exact(K_ aJ)⟩;have bN:Aside0 (Below w.heap.size w nY):=⟨by rw[←hq_];exact B_⟩;clear aJ HB hq_;have aJ:=bU;have HB:=bN;clear bU bN)))|(refine G_ 8 Tryz.func93 #[.string a0,.int .i64 14] ?_;refine(wave_two.calls k a0 14 cZ _ A3.out).mono ?_;rintro e w' ⟨rfl,⟨nd,rfl⟩⟩;refine⟨_,rfl,?_⟩;(try (rw[drewN_self nY];generalize hq_:World.drewN nY _=nY;have bU:Aside0 (nY.heap[bB]?=some (.cells #[.int .i64 0,.int .i64 0] 23 (0,0))):=⟨by rw[←hq_];exact(K_ aJ)⟩;have bN:Aside0 (Below w.heap.size w nY):=⟨by rw[←hq_];exact B_⟩;clear aJ HB hq_;have aJ:=bU;have HB:=bN;clear bU bN)))|(refine X_ 4 #[.int .i64 0,.int .i64 0] 23 ?_;intro bH hg yM hbox hb;have aT:=Z_ (hbox);have pM:=Z_ (G2_ hg:w.heap.size≤_);have Br:=pM;replace HB:=Hb_ hb;have bI:=Z_ ((by rw[hg];exact Nat.ne_of_lt (blk_lt (g:=bB) (o:= .cells #[.int .i64 0,.int .i64 0] 23 (0,0)) (K_ aJ)):bB≠bH));have aX:=Z_ ((by rw[hg];exact Nat.ne_of_gt (blk_lt (g:=bB) (o:= .cells #[.int .i64 0,.int .i64 0] 23 (0,0)) (K_ aJ)):bH≠bB));replace aJ:=Z_ (blk_below (K_ aJ) hb);clear hb hbox hg;have SN:=aX.out;have SQ:=bI.out;have J5:=cz_ aT 0;have J6:=cz_ aT 1;have J7:=fz_ aT 0;have J8:=fz_ aT 1))
   have bU:Aside0 (((yM.setCell ⟨bH,0,none⟩ (.int .i64 bW)).setCell ⟨bH,1,none⟩ (.int .i64 cZ)).heap[bB]?=some (.cells #[.int .i64 0,.int .i64 0] 23 (0,0))):=⟨(blk_far (blk_far (K_ aJ) bI.out _) bI.out _)⟩;have bN:Aside0 (((yM.setCell ⟨bH,0,none⟩ (.int .i64 bW)).setCell ⟨bH,1,none⟩ (.int .i64 cZ)).heap[bH]?=some (.cells #[.int .i64 bW,.int .i64 cZ] 23 (0,0))):=⟨(blk_put (cs:= #[.int .i64 bW,.int .i64 0]) (blk_put (cs:= #[.int .i64 0,.int .i64 0]) (K_ aT) 0 _ rfl) 1 _ rfl)⟩;have eX:Aside0 (Below w.heap.size w ((yM.setCell ⟨bH,0,none⟩ (.int .i64 bW)).setCell ⟨bH,1,none⟩ (.int .i64 cZ))):=⟨B_⟩;(try clear aJ);(try clear aT);(try clear HB);generalize ((yM.setCell ⟨bH,0,none⟩ (.int .i64 bW)).setCell ⟨bH,1,none⟩ (.int .i64 cZ))=tV at bU bN eX ⊢;have aJ:=bU;have aT:=bN;have HB:=eX;clear bU bN eX;replace aJ:=Z_ (blk_drew aJ.out);replace aT:=Z_ (blk_drew aT.out);replace HB:=Z_ (below_drew1 HB.out);refine start_ (n:=17) (S:=fun w'=>w'.cell? ⟨bH,0,none⟩=some (.int .i64 bW)∧w'.cell? ⟨bH,1,none⟩=some (.int .i64 cZ)) (ds:= []) #[false,false,false,false,false,false,false,false,false,false,false,false,false,false,false,false,false] (by kernel_rfl) rfl rfl ⟨(blk_cell aT.out 0).trans rfl,(blk_cell aT.out 1).trans rfl⟩ (fun hHeld=>?_);refine with_tabW wave_format.tab2 wave_format.bits2 (fun HT_ HW_=>?_);generalize tV.drew=tX at aJ aT HB hHeld ⊢;refine T_ 0 10 (y:=by rintro w' ⟨s0,s1⟩;go_simp;with_reducible rfl) (h:=?_);refine T_ 1 11 (y:=by rintro w' ⟨s0,s1⟩;go_simp;with_reducible rfl) (h:=?_);refine O_ 2 12 fun K hK=>?_
   refine g_ Tryz.func62 #[.agg #[.int .i64 bW,.int .i64 cZ]] ?_
   with_reducible refine(pcm_May.calls bW cZ true _ A4.out).mono ?_
   rintro e Gr ⟨rfl,hb⟩;refine⟨_,rfl,?_⟩;replace aJ:=Z_ (blk_below (K_ aJ) hb);replace aT:=Z_ (blk_below (K_ aT) hb);replace HB:=Hb_ hb;(try clear hb);(try clear hb2);(try clear hk);(try clear hi);refine hK.out _ _ ⟨(blk_cell aT.out 0).trans rfl,(blk_cell aT.out 1).trans rfl⟩ (fun hHeld=>?_);clear hK K;refine Nm_ 12 ?_;refine P_ 3 13 ?_;refine P_ 4 14 ?_;refine O_ 5 15 fun K hK=>?_
   refine g_ Tryz.func93 #[.string a0,.int .i64 0] ?_
   with_reducible refine(wave_two.calls k a0 0 t182 _ A6.out).mono ?_
   rintro e w' ⟨rfl,⟨nd,rfl⟩⟩;refine⟨_,rfl,?_⟩;refine hK.out _ _ ⟨(blk_cell aT.out 0).trans rfl,(blk_cell aT.out 1).trans rfl⟩ (fun hHeld=>?_);clear hK K;refine Nm_ 15 ?_;refine P_ 6 16 ?_;refine P_ 7 17 ?_;refine P_ 8 18 ?_;refine U_ 9 19 ?_;refine U_ 10 20 ?_;refine U_ 11 21 ?_;refine U_ 12 22 ?_;refine U_ 13 23 ?_;refine P_ 14 24 ?_;refine one_ (i:=15) (N:=none) #[true,true,true,true,true,true,true,true,true,true,true,true,true,true,true,true,false] rfl rfl (one_of HT_.out (by kernel_rfl)) (by decide) (fun K hK=>?_);have Qf:Gr.cell? ⟨bB,0,none⟩=some (.int .i64 0):=(blk_cell aJ.out 0).trans rfl;have Gh:=blk_frozen aJ.out 0;have J9:=aX.out;have Ka:=bI.out;have Qg:Gr.cell? ⟨bB,1,none⟩=some (.int .i64 0):=(blk_cell aJ.out 1).trans rfl;have Gi:=blk_frozen aJ.out 1;have Kb:=aX.out;have Ke:=bI.out;refine skip_ (w1:=?_) (by rfl) rfl ?_ ?_;rotate_left
   ·go_simp
    rfl
   refine hK.out _ _ ⟨((cell_far (p:=⟨bB,_,none⟩) aX.out _).trans (((cell_far (p:=⟨bB,_,none⟩) aX.out _).trans (hHeld.1)))),((cell_far (p:=⟨bB,_,none⟩) aX.out _).trans (((cell_far (p:=⟨bB,_,none⟩) aX.out _).trans (hHeld.2))))⟩ (fun hHeld=>?_);clear hK K;refine P_ 16 3 ?_;refine done_ (done_of HT_.out (by kernel_rfl)) ?_
   try go_wp2
   refine bodyPost_ret (results_ct rfl _ _ bB 23 #[.int .i64 bW,.int .i64 cZ] (0,0) _ rfl (blk_put (cs:= #[.int .i64 bW,.int .i64 0]) (blk_put (cs:= #[.int .i64 0,.int .i64 0]) (K_ aJ) 0 _ rfl) 1 _ rfl) Tryz.underlying23 rfl (by kernel_rfl)) rfl ?_;exact⟨E_,B_⟩
 ·replace c5:=Bool.eq_false_iff.mpr c5;subst c5;rw[if_neg (show ¬(false=true) by decide)] at H;simp only[Option.some.injEq,Prod.mk.injEq] at H;obtain⟨rfl,rfl,rfl⟩:=H
  go_enter Tryz.func60,Tryz.ntmps60
  try go_wp2_with (first|(refine X_ 2 #[.int .i64 0,.int .i64 0] 23 ?_;intro bB hg vW hbox hb;have aJ:=Z_ (hbox);have pK:=Z_ (G2_ hg:w.heap.size≤_);have Bq:=pK;replace HB:=Hb_ hb;clear hb hbox hg)|(refine G_ 6 Tryz.func93 #[.string a0,.int .i64 2] ?_;refine(wave_two.calls k a0 2 bW _ A2.out).mono ?_;rintro e w' ⟨rfl,⟨nd,rfl⟩⟩;refine⟨_,rfl,?_⟩;(try (rw[drewN_self vW];generalize hq_:World.drewN vW _=vW;have bU:Aside0 (vW.heap[bB]?=some (.cells #[.int .i64 0,.int .i64 0] 23 (0,0))):=⟨by rw[←hq_];exact(K_ aJ)⟩;have bN:Aside0 (Below w.heap.size w vW):=⟨by rw[←hq_];exact B_⟩;clear aJ HB hq_;have aJ:=bU;have HB:=bN;clear bU bN)))|(refine G_ 8 Tryz.func93 #[.string a0,.int .i64 14] ?_;refine(wave_two.calls k a0 14 cZ _ A3.out).mono ?_;rintro e w' ⟨rfl,⟨nd,rfl⟩⟩;refine⟨_,rfl,?_⟩;(try (rw[drewN_self vW];generalize hq_:World.drewN vW _=vW;have bU:Aside0 (vW.heap[bB]?=some (.cells #[.int .i64 0,.int .i64 0] 23 (0,0))):=⟨by rw[←hq_];exact(K_ aJ)⟩;have bN:Aside0 (Below w.heap.size w vW):=⟨by rw[←hq_];exact B_⟩;clear aJ HB hq_;have aJ:=bU;have HB:=bN;clear bU bN)))|(refine X_ 4 #[.int .i64 0,.int .i64 0] 23 ?_;intro bH hg Kg hbox hb;have aT:=Z_ (hbox);have pM:=Z_ (G2_ hg:w.heap.size≤_);have Br:=pM;replace HB:=Hb_ hb;have bI:=Z_ ((by rw[hg];exact Nat.ne_of_lt (blk_lt (g:=bB) (o:= .cells #[.int .i64 0,.int .i64 0] 23 (0,0)) (K_ aJ)):bB≠bH));have aX:=Z_ ((by rw[hg];exact Nat.ne_of_gt (blk_lt (g:=bB) (o:= .cells #[.int .i64 0,.int .i64 0] 23 (0,0)) (K_ aJ)):bH≠bB));replace aJ:=Z_ (blk_below (K_ aJ) hb);clear hb hbox hg;have Gs:=aX.out;have Gt:=bI.out;have nZ:=cz_ aT 0;have oh:=cz_ aT 1;have ol:=fz_ aT 0;have om:=fz_ aT 1))
  have bU:Aside0 (((Kg.setCell ⟨bH,0,none⟩ (.int .i64 bW)).setCell ⟨bH,1,none⟩ (.int .i64 cZ)).heap[bB]?=some (.cells #[.int .i64 0,.int .i64 0] 23 (0,0))):=⟨(blk_far (blk_far (K_ aJ) bI.out _) bI.out _)⟩;have bN:Aside0 (((Kg.setCell ⟨bH,0,none⟩ (.int .i64 bW)).setCell ⟨bH,1,none⟩ (.int .i64 cZ)).heap[bH]?=some (.cells #[.int .i64 bW,.int .i64 cZ] 23 (0,0))):=⟨(blk_put (cs:= #[.int .i64 bW,.int .i64 0]) (blk_put (cs:= #[.int .i64 0,.int .i64 0]) (K_ aT) 0 _ rfl) 1 _ rfl)⟩;have eX:Aside0 (Below w.heap.size w ((Kg.setCell ⟨bH,0,none⟩ (.int .i64 bW)).setCell ⟨bH,1,none⟩ (.int .i64 cZ))):=⟨B_⟩;(try clear aJ);(try clear aT);(try clear HB);generalize ((Kg.setCell ⟨bH,0,none⟩ (.int .i64 bW)).setCell ⟨bH,1,none⟩ (.int .i64 cZ))=xu at bU bN eX ⊢;have aJ:=bU;have aT:=bN;have HB:=eX;clear bU bN eX;replace aJ:=Z_ (blk_drew aJ.out);replace aT:=Z_ (blk_drew aT.out);replace HB:=Z_ (below_drew1 HB.out);refine start_ (n:=17) (S:=fun w'=>w'.cell? ⟨bH,0,none⟩=some (.int .i64 bW)∧w'.cell? ⟨bH,1,none⟩=some (.int .i64 cZ)) (ds:= []) #[false,false,false,false,false,false,false,false,false,false,false,false,false,false,false,false,false] (by kernel_rfl) rfl rfl ⟨(blk_cell aT.out 0).trans rfl,(blk_cell aT.out 1).trans rfl⟩ (fun hHeld=>?_);refine with_tabW wave_format.tab2 wave_format.bits2 (fun HT_ HW_=>?_);generalize xu.drew=EM at aJ aT HB hHeld ⊢;refine T_ 0 10 (y:=by rintro w' ⟨s0,s1⟩;go_simp;with_reducible rfl) (h:=?_);refine T_ 1 11 (y:=by rintro w' ⟨s0,s1⟩;go_simp;with_reducible rfl) (h:=?_);refine O_ 2 12 fun K hK=>?_
  refine g_ Tryz.func62 #[.agg #[.int .i64 bW,.int .i64 cZ]] ?_
  with_reducible refine(pcm_May.calls bW cZ false _ A4.out).mono ?_
  rintro e Qk ⟨rfl,hb⟩;refine⟨_,rfl,?_⟩;replace aJ:=Z_ (blk_below (K_ aJ) hb);replace aT:=Z_ (blk_below (K_ aT) hb);replace HB:=Hb_ hb;(try clear hb);(try clear hb2);(try clear hk);(try clear hi);refine hK.out _ _ ⟨(blk_cell aT.out 0).trans rfl,(blk_cell aT.out 1).trans rfl⟩ (fun hHeld=>?_);clear hK K;refine Nm_ 12 ?_;refine P_ 3 13 ?_;refine U_ 4 14 ?_;refine U_ 5 15 ?_;refine U_ 6 16 ?_;refine P_ 7 17 ?_;refine P_ 8 18 ?_;refine U_ 9 19 ?_;refine U_ 10 20 ?_;refine U_ 11 21 ?_;refine U_ 12 22 ?_;refine U_ 13 23 ?_;refine P_ 14 24 ?_;refine one_ (i:=15) (N:=none) #[true,true,true,true,true,true,true,true,true,true,true,true,true,true,true,true,false] rfl rfl (one_of HT_.out (by kernel_rfl)) (by decide) (fun K hK=>?_);have Qh:Qk.cell? ⟨bB,0,none⟩=some (.int .i64 0):=(blk_cell aJ.out 0).trans rfl;have Gn:=blk_frozen aJ.out 0;have Kh:=aX.out;have Ki:=bI.out;have Vl:Qk.cell? ⟨bB,1,none⟩=some (.int .i64 0):=(blk_cell aJ.out 1).trans rfl;have SS:=blk_frozen aJ.out 1;have Kj:=aX.out;have Kk:=bI.out;refine skip_ (w1:=?_) (by rfl) rfl ?_ ?_;rotate_left
  ·go_simp
   rfl
  refine hK.out _ _ ⟨((cell_far (p:=⟨bB,_,none⟩) aX.out _).trans (((cell_far (p:=⟨bB,_,none⟩) aX.out _).trans (hHeld.1)))),((cell_far (p:=⟨bB,_,none⟩) aX.out _).trans (((cell_far (p:=⟨bB,_,none⟩) aX.out _).trans (hHeld.2))))⟩ (fun hHeld=>?_);clear hK K;refine P_ 16 3 ?_;refine done_ (done_of HT_.out (by kernel_rfl)) ?_
  try go_wp2
  refine bodyPost_ret (results_ct rfl _ _ bB 23 #[.int .i64 bW,.int .i64 cZ] (0,0) _ rfl (blk_put (cs:= #[.int .i64 bW,.int .i64 0]) (blk_put (cs:= #[.int .i64 0,.int .i64 0]) (K_ aJ) 0 _ rfl) 1 _ rfl) Tryz.underlying23 rfl (by kernel_rfl)) rfl ?_;exact⟨E_,B_⟩
def descantref1_Low.l0:Nat→Int→Int→List Int→Int→Option (ByteArray)
 |0,_,_,_,_=>none
 |k+1,x0,x1,x5,x6=>if x6<x1 then(if 0≤(wrap64 (8*x6)) then(if 0≤x6 then(if x6<(x5.length:Int) then(descantref1_Low.l0 k x0 x1 (x5.set (x6:Int).toNat ((shr .i64 x0 (wrap64 (8*x6)))%256)) (wrap64 (x6+1))) else(none)) else(none)) else(none)) else(some (strOfNums x5))
def descantref1_Low.f(k:Nat)(a0:Int)(a1:Int):Option (ByteArray):=if 0≤a1 then(if(a1:Int).toNat≤281474976710656 then(descantref1_Low.l0 k a0 a1 (List.replicate (a1:Int).toNat 0) 0) else(none)) else(none)
theorem descantref1_Low.calls(k:Nat)(a0:Int)(a1:Int)(r:ByteArray)(w:World)(h:descantref1_Low.f k a0 a1=some r):
  Calls Tryz.prog 30 #[.int .i64 a0,.int .i64 a1] w fun e w'=>e= .returned (.string r)∧Below w.heap.size w w':=by
 have HB:=Z_ (Below.refl w.heap.size w);have H:(if 0≤a1 then(if(a1:Int).toNat≤281474976710656 then(descantref1_Low.l0 k a0 a1 (List.replicate (a1:Int).toNat 0) 0) else(none)) else(none))=some r:=h;clear h
 by_cases c3:0≤a1
 ·rw[if_pos c3] at H;have c3b0:=eq_true c3;have c3b1:=dt_ c3;clear c3
  by_cases c4:(a1:Int).toNat≤281474976710656
  ·rw[if_pos c4] at H;have c4b0:=eq_true c4;have c4b1:=dt_ c4;(try simp only[nC_] at c4b1);clear c4;obtain⟨Gu,pO⟩:∃y_:List Int,y_=(List.replicate (a1:Int).toNat 0):=⟨_,rfl⟩;replace H:(descantref1_Low.l0 k a0 a1 Gu 0)=some r:=by first|(rw[pO];with_reducible exact H)|(have bS:=(bs_ _ _).symm.trans H;rw[pO];with_reducible exact bS)|(have bS:=(bs_ _ _).symm.trans H;with_reducible exact bS)|with_reducible exact H|(rw[pO];exact H)|exact H
   have Bt:=Z_ pO;clear pO;have H':=Z_ H;clear H
   go_enter Tryz.func30,Tryz.ntmps30
   go_wp2_with (first|((with_reducible refine gate_dst (N:=8) rfl ?_);refine Kd.R_make (Kd.int .u8) _ 5 rfl (N:=8) rfl 27 _ _ rfl a1 rfl rfl Tryz.underlying27 (.int .u8 0) 1 info5 rfl (by decide) (by omega) 0 (ok:=fun _=>True) (okp:=fun _=>True) rfl (fun _ hk=>hk) trivial (od_ A_) (Nat.le_trans (Nat.mul_le_mul_right _ (od_ A_:a1.toNat≤281474976710656)) (by omega)) (Below.refl _ _) (Nat.le_refl _) ?_;intro Ql w5 Gv hb hg_ hnew_;clear hg_ hnew_;(first|rw[←Bt.out] at Gv|(simp only[Int.reduceToNat] at Gv;rw[←Bt.out] at Gv));have Gw:=Z_ (Kd.R_lower Gv (below_size B_));replace HB:=Hb_ hb;clear hb Gv))
   go_loopg [6] k (fun kq v6 w'=>∃(aU:List Int) (cu:Int),v6= .int .i64 cu∧Aside0 (descantref1_Low.l0 kq a0 a1 aU cu=some r)∧Aside0 (kq≤k)∧Aside0 (Kd.R (Kd.int .u8) 5 w' w.heap.size (fun _=>True) Ql aU)∧Aside0 (Below w.heap.size w w'))
   case atStart=>exact⟨(Gu),(0),(E1_),H',⟨Nat.le_refl _⟩,⟨R_ Gw⟩,⟨B_⟩⟩
   case round=>
    clear H'
    try clear p2
    try clear c3
    try clear c3b0
    try clear c3b1
    try clear c4
    try clear c4b0
    try clear c4b1
    obtain⟨aU,cu,rfl,HA,jb,HO_5,HB⟩:=hrel
    cases gk with
    |zero=>exact absurd HA.out (by simp[descantref1_Low.l0])
    |succ k1=>
     have H:=HA.out;clear HA;simp only[descantref1_Low.l0] at H
     by_cases c7:cu<a1
     ·rw[if_pos c7] at H;have c7b0:=dt_ c7;clear c7;obtain⟨EO,Dc⟩:∃j_:Int,(wrap64 (8*cu))=j_:=⟨_,rfl⟩;(first|rw[Dc] at H|simp only[Dc] at H);have hji8w:(IntKind.i64.wrap (8*cu))=EO:=(i64_w _).trans Dc
      by_cases c9:0≤(EO)
      ·rw[if_pos c9] at H;have c9b0:=eq_true c9;have c9b1:=dt_ c9;clear c9;obtain⟨xz,uq⟩:∃j_:Int,(shr .i64 a0 (EO))=j_:=⟨_,rfl⟩;(first|rw[uq] at H|simp only[uq] at H);have Qm:(a0 / 2 ^ min (EO).toNat 64)=xz:=uq;have hji10z:(EO)≤64→(a0 / 2 ^ (EO).toNat)=xz:=shr_small uq
       by_cases c11:0≤cu
       ·rw[if_pos c11] at H;have c11b0:=dt_ c11;clear c11
        by_cases c12:cu<(aU.length:Int)
        ·rw[if_pos c12] at H;have c12b0:=dt_ c12;clear c12;obtain⟨De,pQ⟩:∃y_:List Int,y_=(aU.set (cu:Int).toNat ((xz)%256)):=⟨_,rfl⟩;replace H:(descantref1_Low.l0 k1 a0 a1 De (wrap64 (cu+1)))=some r:=by first|(rw[pQ];with_reducible exact H)|(have bS:=(bs_ _ _).symm.trans H;rw[pQ];with_reducible exact bS)|(have bS:=(bs_ _ _).symm.trans H;with_reducible exact bS)|with_reducible exact H|(rw[pQ];exact H)|exact H
         have Gx:=Z_ pQ;clear pQ;have H':=Z_ H;clear H;have Df:0≤(cu:Int):=od_ A_;have Dg:(cu:Int)<((aU.length:Int):Int):=od_ A_;obtain⟨qX,Gy,xA,xB,Dh,Qn,xC⟩:=Kd.R_form HO_5.out (by omega);(first|cases xA|(injection xA with ea_ en_ ec_;(first|subst ea_|(injection ea_ with ea_;subst ea_));subst ec_;clear en_));have Di:=Z_ xB;have Qo:=Z_ xC;clear xB Dh xC;obtain⟨Dj,Dk⟩:=Kd.R_celln 0 HO_5.out (cu:Int) Df Dg;replace Df:=eq_true Df;replace Dg:=eq_true Dg;have lK:=Kd.R_putg HO_5.out (cu:Int) ((xz)%256)
         go_wp2_with (first|((with_reducible refine gate_store (t:=5) (p:=21) rfl ?_);refine store_event (t:=5) (p:=21) (v:=?vo_w15) (w1:=(wr.setCell ⟨qX,(cu:Int).toNat,none⟩ (.int .u8 ((xz)%256)))) ?hg ?ho ?hn ?hr ?_;(case ho=>rfl);(case hg=>rfl);(case hn=>rfl);(case hr=>first|(go_simp;done)|(go_simp;rfl));intro nX hw;have hg:wr.grownBy nX (some qX):=(by rw[hw];exact lK.2);have hp_:Kd.R (Kd.int .u8) 5 nX w.heap.size (fun _=>True) (.slice (some ⟨qX,0,none⟩) aU.length Gy) De:=(by rw[hw,Gx.out];exact lK.1);clear lK;replace HO_5:=Z_ (hp_);replace HB:=Z_ ((by rw[hw];exact below_set (HB.out) Di.out:Below w.heap.size w nX));clear hg hw hp_))
         go_roundg k1
         case measure=>have:=jb.out;omega
         case rel=>exact⟨(De),(wrap64 (cu+1)),(E1_),H',⟨by have:=jb.out;omega⟩,⟨R_ HO_5⟩,⟨B_⟩⟩
        ·rw[if_neg c12] at H;exact absurd H (by simp)
       ·rw[if_neg c11] at H;exact absurd H (by simp)
      ·rw[if_neg c9] at H;exact absurd H (by simp)
     ·rw[if_neg c7] at H;have c7b0:=df_ c7;clear c7;obtain rfl:=Option.some.inj H;have SV:=own_string (P:=Tryz.prog) Tryz.underlying27 Tryz.underlying5 Tryz.underlying9 (Kd.own_of_R HO_5.out);go_wp2;go_ret;exact⟨E_,B_⟩
  ·rw[if_neg c4] at H;exact absurd H (by simp)
 ·rw[if_neg c3] at H;exact absurd H (by simp)
def descantlaw0_SameInts.l0:Nat→List Int→List Int→Int→Option (Bool)
 |0,_,_,_=>none
 |k+1,x0,x1,x5=>if x5<(x0.length:Int) then(if 0≤x5 then(if x5<(x1.length:Int) then(if(rd x0 x5)=(rd x1 x5) then(descantlaw0_SameInts.l0 k x0 x1 (wrap64 (x5+1))) else(some false)) else(none)) else(none)) else(some true)
def descantlaw0_SameInts.f(k:Nat)(l0:List Int)(l1:List Int):Option (Bool):=if(l0.length:Int)=(l1.length:Int) then(descantlaw0_SameInts.l0 k l0 l1 0) else(some false)
theorem descantlaw0_SameInts.calls(k:Nat)(A0:Option Addr)(c0:Nat)(l0:List Int)(A1:Option Addr)(c1:Nat)(l1:List Int)(r:Bool)(w:World)(hr0:Kd.C (Kd.int .i64) w A0 l0.length l0)(hc0:l0.length≤c0)(hr1:Kd.C (Kd.int .i64) w A1 l1.length l1)(hc1:l1.length≤c1)(h:descantlaw0_SameInts.f k l0 l1=some r):
  Calls Tryz.prog 18 #[.slice A0 l0.length c0,.slice A1 l1.length c1] w fun e w'=>e= .returned (.bool r)∧Drawn0 w w':=by
 have cO:=Z_ hr0;have mY:=Z_ hc0;clear hr0 hc0;have HR1:=Z_ hr1;have Sk:=Z_ hc1;clear hr1 hc1;have H:(if(l0.length:Int)=(l1.length:Int) then(descantlaw0_SameInts.l0 k l0 l1 0) else(some false))=some r:=h;clear h
 by_cases c3:(l0.length:Int)=(l1.length:Int)
 ·rw[if_pos c3] at H;have c3b0:((l0.length:Int)==(l1.length:Int))=true:=beq_iff_eq.mpr c3;have c3b1:((l0.length:Int) !=(l1.length:Int))=false:=bne_eq_false_iff_eq.mpr c3;have c3b2:(l0.length==l1.length)=true:=by first|simpa using c3|(simp at c3 ⊢;omega)
  clear c3;have H':=Z_ H;clear H
  go_enter Tryz.func18,Tryz.ntmps18
  go_wp2
  repeat (go_quiet (fail);try go_wp2)
  go_loopg [5] k (fun kq v5 w'=>∃(aU:Int),v5= .int .i64 aU∧Aside0 (descantlaw0_SameInts.l0 kq l0 l1 aU=some r)∧Aside0 (kq≤k)∧Drawn0 w w')
  case atStart=>exact⟨(0),(E1_),H',⟨Nat.le_refl _⟩,D_⟩
  case round=>
   clear H'
   try clear c1
   try clear p2
   try clear c3
   try clear c3b0
   try clear c3b1
   try clear c3b2
   obtain⟨aU,rfl,HA,jb,⟨m1,rfl⟩⟩:=hrel
   cases gk with
   |zero=>exact absurd HA.out (by simp[descantlaw0_SameInts.l0])
   |succ k1=>
    have H:=HA.out;clear HA;simp only[descantlaw0_SameInts.l0] at H
    by_cases c4:aU<(l0.length:Int)
    ·rw[if_pos c4] at H;have c4b0:=dt_ c4;clear c4
     by_cases c5:0≤aU
     ·rw[if_pos c5] at H;have c5b0:=dt_ c5;clear c5
      by_cases c6:aU<(l1.length:Int)
      ·rw[if_pos c6] at H;have c6b0:=dt_ c6;clear c6
       by_cases c7:(rd l0 aU)=(rd l1 aU)
       ·rw[if_pos c7] at H;have c7b0:((rd l0 aU)==(rd l1 aU))=true:=beq_iff_eq.mpr c7;have c7b1:((rd l0 aU) !=(rd l1 aU))=false:=bne_eq_false_iff_eq.mpr c7;clear c7;have H':=Z_ H;clear H;have qY:0≤(aU:Int):=od_ A_;have qZ:aU<(l0.length:Int):=od_ A_;obtain⟨Gz,e189,zY⟩:=Kd.at_int cO.out aU qY qZ
        cases e189
        replace qY:=eq_true qY;replace qZ:=eq_true qZ;have rq:0≤(aU:Int):=od_ A_;have ru:aU<(l1.length:Int):=od_ A_;obtain⟨GA,e190,zZ⟩:=Kd.at_int HR1.out aU rq ru
        cases e190
        replace rq:=eq_true rq;replace ru:=eq_true ru;go_wp2
        repeat (go_quiet (fail);try go_wp2)
        go_roundg k1
        case measure=>have:=jb.out;omega
        case rel=>exact⟨(wrap64 (aU+1)),(E1_),H',⟨by have:=jb.out;omega⟩,D_⟩
       ·rw[if_neg c7] at H;have c7b0:((rd l0 aU)==(rd l1 aU))=false:=beq_eq_false_iff_ne.mpr c7;have c7b1:((rd l0 aU) !=(rd l1 aU))=true:=bne_iff_ne.mpr c7;obtain rfl:=Option.some.inj H;have qY:0≤(aU:Int):=od_ A_;have qZ:aU<(l0.length:Int):=od_ A_;obtain⟨Gz,e189,zY⟩:=Kd.at_int cO.out aU qY qZ
        cases e189
        replace qY:=eq_true qY;replace qZ:=eq_true qZ;have rq:0≤(aU:Int):=od_ A_;have ru:aU<(l1.length:Int):=od_ A_;obtain⟨GA,e190,zZ⟩:=Kd.at_int HR1.out aU rq ru
        cases e190
        replace rq:=eq_true rq;replace ru:=eq_true ru;go_wp2
        repeat (go_quiet (fail);try go_wp2)
        go_ret;exact⟨E1_,D_⟩
      ·rw[if_neg c6] at H;exact absurd H (by simp)
     ·rw[if_neg c5] at H;exact absurd H (by simp)
    ·rw[if_neg c4] at H;have c4b0:=df_ c4;clear c4;obtain rfl:=Option.some.inj H;go_wp2
     repeat (go_quiet (fail);try go_wp2)
     go_ret;exact⟨E1_,D_⟩
 ·rw[if_neg c3] at H;have c3b0:((l0.length:Int)==(l1.length:Int))=false:=beq_eq_false_iff_ne.mpr c3;have c3b1:((l0.length:Int) !=(l1.length:Int))=true:=bne_iff_ne.mpr c3;have c3b2:(l0.length==l1.length)=false:=by first|simpa using c3|(simp at c3 ⊢;omega)
  obtain rfl:=Option.some.inj H
  go_enter Tryz.func18,Tryz.ntmps18
  go_wp2
  repeat (go_quiet (fail);try go_wp2)
  go_ret;exact⟨E1_,D_⟩
def descantlaw0_SameLists.l0:Nat→List (List Int)→List (List Int)→Int→Option (Bool)
 |0,_,_,_=>none
 |k+1,x0,x1,x5=>if x5<(x0.length:Int) then(if 0≤x5 then(if x5<(x1.length:Int) then((descantlaw0_SameInts.f k (rd_L1 x0 x5) (rd_L1 x1 x5)).bind fun t193=>(if t193=true then(descantlaw0_SameLists.l0 k x0 x1 (wrap64 (x5+1))) else(some false))) else(none)) else(none)) else(some true)
def descantlaw0_SameLists.f(k:Nat)(l0:List (List Int))(l1:List (List Int)):Option (Bool):=if(l0.length:Int)=(l1.length:Int) then(descantlaw0_SameLists.l0 k l0 l1 0) else(some false)
theorem descantlaw0_SameLists.calls(k:Nat)(A0:Option Addr)(c0:Nat)(l0:List (List Int))(A1:Option Addr)(c1:Nat)(l1:List (List Int))(r:Bool)(w:World)(hr0:Kd.C (Kd.slice 3 (Kd.int .i64)) w A0 l0.length l0)(hc0:l0.length≤c0)(hr1:Kd.C (Kd.slice 3 (Kd.int .i64)) w A1 l1.length l1)(hc1:l1.length≤c1)(h:descantlaw0_SameLists.f k l0 l1=some r):
  Calls Tryz.prog 27 #[.slice A0 l0.length c0,.slice A1 l1.length c1] w fun e w'=>e= .returned (.bool r)∧Drawn0 w w':=by
 have cO:=Z_ hr0;have mY:=Z_ hc0;clear hr0 hc0;have HR1:=Z_ hr1;have Sk:=Z_ hc1;clear hr1 hc1;have H:(if(l0.length:Int)=(l1.length:Int) then(descantlaw0_SameLists.l0 k l0 l1 0) else(some false))=some r:=h;clear h
 by_cases c3:(l0.length:Int)=(l1.length:Int)
 ·rw[if_pos c3] at H;have c3b0:((l0.length:Int)==(l1.length:Int))=true:=beq_iff_eq.mpr c3;have c3b1:((l0.length:Int) !=(l1.length:Int))=false:=bne_eq_false_iff_eq.mpr c3;have c3b2:(l0.length==l1.length)=true:=by first|simpa using c3|(simp at c3 ⊢;omega)
  clear c3;have H':=Z_ H;clear H
  go_enter Tryz.func27,Tryz.ntmps27
  go_wp2
  repeat (go_quiet (fail);try go_wp2)
  go_loopg [5] k (fun kq v5 w'=>∃(aU:Int),v5= .int .i64 aU∧Aside0 (descantlaw0_SameLists.l0 kq l0 l1 aU=some r)∧Aside0 (kq≤k)∧Drawn0 w w')
  case atStart=>exact⟨(0),(E1_),H',⟨Nat.le_refl _⟩,D_⟩
  case round=>
   clear H'
   try clear c1
   try clear c2
   try clear p2
   try clear c3
   try clear c3b0
   try clear c3b1
   try clear c3b2
   obtain⟨aU,rfl,HA,jb,⟨m1,rfl⟩⟩:=hrel
   cases gk with
   |zero=>exact absurd HA.out (by simp[descantlaw0_SameLists.l0])
   |succ k1=>
    have H:=HA.out;clear HA;simp only[descantlaw0_SameLists.l0] at H
    by_cases c4:aU<(l0.length:Int)
    ·rw[if_pos c4] at H;have c4b0:=dt_ c4;clear c4
     by_cases c5:0≤aU
     ·rw[if_pos c5] at H;have c5b0:=dt_ c5;clear c5
      by_cases c6:aU<(l1.length:Int)
      ·rw[if_pos c6] at H;have c6b0:=dt_ c6;clear c6;replace H:=Ob_ H;obtain⟨t193,wu,H⟩:=H;(try dsimp only at H);have A7:=Z_ wu;clear wu
       by_cases c8:t193=true
       ·subst c8;rw[if_pos rfl] at H;have H':=Z_ H;clear H;have ry:0≤(aU:Int):=od_ A_;have rz:aU<(l0.length:Int):=od_ A_;obtain⟨GG,Dl,Dm,Dn,Ab,kg,ko⟩:=at_L1 cO.out aU ry rz
        cases Dn
        have iM:=Z_ ko;have iN:=Z_ kg;clear ko kg;replace ry:=eq_true ry;replace rz:=eq_true rz;have rA:0≤(aU:Int):=od_ A_;have rC:aU<(l1.length:Int):=od_ A_;obtain⟨GH,Dp,Dq,Dr,Ac,kr,ku⟩:=at_L1 HR1.out aU rA rC
        cases Dr
        have iO:=Z_ ku;have iP:=Z_ kr;clear ku kr;replace rA:=eq_true rA;replace rC:=eq_true rC
        go_wp2_with (first|(go_at_call 18;refine(descantlaw0_SameInts.calls k1 _ _ (rd_L1 l0 aU) _ _ (rd_L1 l1 aU) true _ (C_ iM.out) iN.out (C_ iO.out) iP.out A7.out).mono ?_;rintro e w' ⟨rfl,⟨nd,rfl⟩⟩;(try exact Dr_)))
        repeat (go_quiet (first|(go_at_call 18;refine(descantlaw0_SameInts.calls k1 _ _ (rd_L1 l0 aU) _ _ (rd_L1 l1 aU) true _ (C_ iM.out) iN.out (C_ iO.out) iP.out A7.out).mono ?_;rintro e w' ⟨rfl,⟨nd,rfl⟩⟩;(try exact Dr_)));try go_wp2_with (first|(go_at_call 18;refine(descantlaw0_SameInts.calls k1 _ _ (rd_L1 l0 aU) _ _ (rd_L1 l1 aU) true _ (C_ iM.out) iN.out (C_ iO.out) iP.out A7.out).mono ?_;rintro e w' ⟨rfl,⟨nd,rfl⟩⟩;(try exact Dr_))))
        go_roundg k1
        case measure=>have:=jb.out;omega
        case rel=>exact⟨(wrap64 (aU+1)),(E1_),H',⟨by have:=jb.out;omega⟩,D_⟩
       ·replace c8:=Bool.eq_false_iff.mpr c8;subst c8;rw[if_neg (show ¬(false=true) by decide)] at H;obtain rfl:=Option.some.inj H;have ry:0≤(aU:Int):=od_ A_;have rz:aU<(l0.length:Int):=od_ A_;obtain⟨GG,Dl,Dm,Dn,Ab,kg,ko⟩:=at_L1 cO.out aU ry rz
        cases Dn
        have iM:=Z_ ko;have iN:=Z_ kg;clear ko kg;replace ry:=eq_true ry;replace rz:=eq_true rz;have rA:0≤(aU:Int):=od_ A_;have rC:aU<(l1.length:Int):=od_ A_;obtain⟨GH,Dp,Dq,Dr,Ac,kr,ku⟩:=at_L1 HR1.out aU rA rC
        cases Dr
        have iO:=Z_ ku;have iP:=Z_ kr;clear ku kr;replace rA:=eq_true rA;replace rC:=eq_true rC
        go_wp2_with (first|(go_at_call 18;refine(descantlaw0_SameInts.calls k1 _ _ (rd_L1 l0 aU) _ _ (rd_L1 l1 aU) false _ (C_ iM.out) iN.out (C_ iO.out) iP.out A7.out).mono ?_;rintro e w' ⟨rfl,⟨nd,rfl⟩⟩;(try exact Dr_)))
        repeat (go_quiet (first|(go_at_call 18;refine(descantlaw0_SameInts.calls k1 _ _ (rd_L1 l0 aU) _ _ (rd_L1 l1 aU) false _ (C_ iM.out) iN.out (C_ iO.out) iP.out A7.out).mono ?_;rintro e w' ⟨rfl,⟨nd,rfl⟩⟩;(try exact Dr_)));try go_wp2_with (first|(go_at_call 18;refine(descantlaw0_SameInts.calls k1 _ _ (rd_L1 l0 aU) _ _ (rd_L1 l1 aU) false _ (C_ iM.out) iN.out (C_ iO.out) iP.out A7.out).mono ?_;rintro e w' ⟨rfl,⟨nd,rfl⟩⟩;(try exact Dr_))))
        go_ret;exact⟨E1_,D_⟩
      ·rw[if_neg c6] at H;exact absurd H (by simp)
     ·rw[if_neg c5] at H;exact absurd H (by simp)
    ·rw[if_neg c4] at H;have c4b0:=df_ c4;clear c4;obtain rfl:=Option.some.inj H;go_wp2
     repeat (go_quiet (fail);try go_wp2)
     go_ret;exact⟨E1_,D_⟩
 ·rw[if_neg c3] at H;have c3b0:((l0.length:Int)==(l1.length:Int))=false:=beq_eq_false_iff_ne.mpr c3;have c3b1:((l0.length:Int) !=(l1.length:Int))=true:=bne_iff_ne.mpr c3;have c3b2:(l0.length==l1.length)=false:=by first|simpa using c3|(simp at c3 ⊢;omega)
  obtain rfl:=Option.some.inj H
  go_enter Tryz.func27,Tryz.ntmps27
  go_wp2
  repeat (go_quiet (fail);try go_wp2)
  go_ret;exact⟨E1_,D_⟩
def descantref13_upTo.f(a0:Int)(a1:Int)(a2:Int):Option (Bool):=if a0≥a1 then(some (decide (a0≤a2))) else(some false)
theorem descantref13_upTo.calls(a0:Int)(a1:Int)(a2:Int)(r:Bool)(w:World)(h:descantref13_upTo.f a0 a1 a2=some r):
  Calls Tryz.prog 28 #[.int .i64 a0,.int .i64 a1,.int .i64 a2] w fun e w'=>e= .returned (.bool r)∧Drawn0 w w':=by
 have H:(if a0≥a1 then(some (decide (a0≤a2))) else(some false))=some r:=h;clear h
 by_cases c4:a0≥a1
 ·rw[if_pos c4] at H;have c4b0:decide (a1≤a0)=true:=dt_ c4;clear c4;obtain rfl:=Option.some.inj H
  go_enter Tryz.func28,Tryz.ntmps28
  go_wp2;go_ret;exact⟨E1_,D_⟩
 ·rw[if_neg c4] at H;have c4b0:decide (a1≤a0)=false:=df_ c4;clear c4;obtain rfl:=Option.some.inj H
  go_enter Tryz.func28,Tryz.ntmps28
  go_wp2;go_ret;exact⟨E1_,D_⟩
def descantref13_FormatMay.f(ae:Int)(af:Int):Option (Bool):=(descantref13_upTo.f ae 1 2).bind fun xD=>(if xD=true then(if af=8 then(some true) else(some (af==16))) else(some false))
theorem descantref13_FormatMay.calls(ae:Int)(af:Int)(r:Bool)(w:World)(h:descantref13_FormatMay.f ae af=some r):
  Calls Tryz.prog 9 #[.agg #[.int .i64 ae,.int .i64 af]] w fun e w'=>e= .returned (.bool r)∧Below w.heap.size w w':=by
 have fH:=Tryz.underlying23;have HB:=Z_ (Below.refl w.heap.size w);have H:((descantref13_upTo.f ae 1 2).bind fun xD=>(if xD=true then(if af=8 then(some true) else(some (af==16))) else(some false)))=some r:=h;clear h;replace H:=Ob_ H;obtain⟨xD,fU,H⟩:=H;(try dsimp only at H);have A2:=Z_ fU;clear fU
 by_cases c3:xD=true
 ·subst c3;rw[if_pos rfl] at H
  by_cases c4:af=8
  ·rw[if_pos c4] at H;have c4b0:(af==8)=true:=beq_iff_eq.mpr c4;have c4b1:(af !=8)=false:=bne_eq_false_iff_eq.mpr c4;clear c4;obtain rfl:=Option.some.inj H
   go_enter Tryz.func9,Tryz.ntmps9
   go_wp2_with (first|(refine X_ 1 #[.int .i64 ae,.int .i64 af] 23 ?_;intro Bu hg w5 hbox hb;have gQ:=Z_ (hbox);have pR:=Z_ (G2_ hg:w.heap.size≤_);have Bv:=pR;replace HB:=Hb_ hb;clear hb hbox hg;have lY:=cz_ gQ 0;have lZ:=cz_ gQ 1;have l5:=fz_ gQ 0;have l7:=fz_ gQ 1)|(refine G_ 5 Tryz.func28 #[.int .i64 ae,.int .i64 1,.int .i64 2] ?_;refine(descantref13_upTo.calls ae 1 2 true _ A2.out).mono ?_;rintro e w' ⟨rfl,⟨nd,rfl⟩⟩;refine⟨_,rfl,?_⟩))
   go_ret;exact⟨E_,B_⟩
  ·rw[if_neg c4] at H;have c4b0:(af==8)=false:=beq_eq_false_iff_ne.mpr c4;have c4b1:(af !=8)=true:=bne_iff_ne.mpr c4;obtain rfl:=Option.some.inj H
   go_enter Tryz.func9,Tryz.ntmps9
   go_wp2_with (first|(refine X_ 1 #[.int .i64 ae,.int .i64 af] 23 ?_;intro Bu hg w7 hbox hb;have gQ:=Z_ (hbox);have pR:=Z_ (G2_ hg:w.heap.size≤_);have Bv:=pR;replace HB:=Hb_ hb;clear hb hbox hg;have kV:=cz_ gQ 0;have kW:=cz_ gQ 1;have kX:=fz_ gQ 0;have kY:=fz_ gQ 1)|(refine G_ 5 Tryz.func28 #[.int .i64 ae,.int .i64 1,.int .i64 2] ?_;refine(descantref13_upTo.calls ae 1 2 true _ A2.out).mono ?_;rintro e w' ⟨rfl,⟨nd,rfl⟩⟩;refine⟨_,rfl,?_⟩))
   go_ret;exact⟨E_,B_⟩
 ·replace c3:=Bool.eq_false_iff.mpr c3;subst c3;rw[if_neg (show ¬(false=true) by decide)] at H;obtain rfl:=Option.some.inj H
  go_enter Tryz.func9,Tryz.ntmps9
  go_wp2_with (first|(refine X_ 1 #[.int .i64 ae,.int .i64 af] 23 ?_;intro Bu hg w9 hbox hb;have gQ:=Z_ (hbox);have pR:=Z_ (G2_ hg:w.heap.size≤_);have Bv:=pR;replace HB:=Hb_ hb;clear hb hbox hg;have jV:=cz_ gQ 0;have jW:=cz_ gQ 1;have jX:=fz_ gQ 0;have jY:=fz_ gQ 1)|(refine G_ 5 Tryz.func28 #[.int .i64 ae,.int .i64 1,.int .i64 2] ?_;refine(descantref13_upTo.calls ae 1 2 false _ A2.out).mono ?_;rintro e w' ⟨rfl,⟨nd,rfl⟩⟩;refine⟨_,rfl,?_⟩))
  go_ret;exact⟨E_,B_⟩
def descantref13_FrameSize.f(ae:Int)(af:Int):Option (Int):=some (wrap64 (Int.tdiv (wrap64 (ae*af)) 8))
theorem descantref13_FrameSize.calls(ae:Int)(af:Int)(r:Int)(w:World)(h:descantref13_FrameSize.f ae af=some r):
  Calls Tryz.prog 22 #[.agg #[.int .i64 ae,.int .i64 af]] w fun e w'=>e= .returned (.int .i64 r)∧Below w.heap.size w w':=by
 have fH:=Tryz.underlying23;have HB:=Z_ (Below.refl w.heap.size w);have H:(some (wrap64 (Int.tdiv (wrap64 (ae*af)) 8)))=some r:=h;clear h;obtain rfl:=Option.some.inj H
 go_enter Tryz.func22,Tryz.ntmps22
 go_wp2_with (first|(refine X_ 1 #[.int .i64 ae,.int .i64 af] 23 ?_;intro SX hg w2 hbox hb;have ut:=Z_ (hbox);have GI:=Z_ (G2_ hg:w.heap.size≤_);have SY:=GI;replace HB:=Hb_ hb;clear hb hbox hg;have Cq:=cz_ ut 0;have Cr:=cz_ ut 1;have Cs:=fz_ ut 0;have Ct:=fz_ ut 1))
 go_ret;exact⟨E_,B_⟩
def file_whole_frames.f(ae:Int)(af:Int)(ax:Int)(aQ:Int)(aW:ByteArray)(eZ:ByteArray)(bO:List ByteArray)(a1:Int):Option (Int):=some (mn ax (wrap64 (aQ - (wrap64 (a1*ax)))))
theorem file_whole_frames.calls(ae:Int)(af:Int)(ax:Int)(aQ:Int)(aW:ByteArray)(eZ:ByteArray)(jf:Option Addr)(fZ:Nat)(bO:List ByteArray)(a1:Int)(r:Int)(w:World)(lF:Kd.C Kd.string w jf bO.length bO)(mE:bO.length≤fZ)(h:file_whole_frames.f ae af ax aQ aW eZ bO a1=some r):
  Calls Tryz.prog 97 #[.agg #[.int .i64 ae,.int .i64 af,.int .i64 ax,.int .i64 aQ,.string aW,.string eZ,.slice jf bO.length fZ],.int .i64 a1] w fun e w'=>e= .returned (.int .i64 r)∧Below w.heap.size w w':=by
 have Bw:=Tryz.underlying127;have nE:=Z_ lF;have xE:=Z_ mE;clear lF mE;have HB:=Z_ (Below.refl w.heap.size w);have H:(some (mn ax (wrap64 (aQ - (wrap64 (a1*ax))))))=some r:=h;clear h;obtain⟨EK,nT⟩:∃j_:Int,(mn ax (wrap64 (aQ - (wrap64 (a1*ax)))))=j_:=⟨_,rfl⟩;(first|rw[nT] at H|simp only[nT] at H);have FJ:(if(wrap64 (aQ - (wrap64 (a1*ax))))<ax then(wrap64 (aQ - (wrap64 (a1*ax)))) else ax)=EK:=nT;obtain rfl:=Option.some.inj H
 go_enter Tryz.func97,Tryz.ntmps97
 go_wp2_with (first|(refine X_ 2 #[.int .i64 ae,.int .i64 af,.int .i64 ax,.int .i64 aQ,.string aW,.string eZ,.slice jf bO.length fZ] 127 ?_;intro S9 hg w4 hbox hb;have gT:=Z_ (hbox);have GJ:=Z_ (G2_ hg:w.heap.size≤_);have Ta:=GJ;replace HB:=Hb_ hb;clear hb hbox hg;have jE:=cz_ gT 0;have jF:=cz_ gT 1;have kT:=cz_ gT 2;have xG:=cz_ gT 3;have xH:=cz_ gT 4;have Qp:=cz_ gT 5;have Qq:=cz_ gT 6;have jG:=fz_ gT 0;have jH:=fz_ gT 1;have kU:=fz_ gT 2;have xI:=fz_ gT 3;have xJ:=fz_ gT 4;have Qr:=fz_ gT 5;have Qs:=fz_ gT 6))
 go_ret;exact⟨by first|rfl|(simp[errW_none,errW_some]<;>rfl)|(simp only[←nT];first|rfl|(simp[errW_none,errW_some]<;>rfl))|(simp[*,errW_none,errW_some]<;>rfl),B_⟩
end Go.Proofs.YtfghldonnffldaaGreatDoor.TBase
namespace Go.Proofs.YtfghldonnffldaaGreatDoor
open Go.RowKit YtfghldonnffldaaGreatDoorW.PrintWords YtfghldonnffldaaGreatDoorW.PrintLast YtfghldonnffldaaGreatDoorW.PrintMore TBase
def ints(xs:List Int):List Value:=xs.map (Value.int .i64)
theorem ints_len(xs:List Int):(ints xs).length=xs.length:=List.length_map _
theorem ints_get(xs:List Int)(j:Nat)(h:j<xs.length):(ints xs)[j]?=some (.int .i64 (xs.getD j 0)):=by
 unfold ints;rw[List.getElem?_map,gE_ h,gD_,gE_ h];rfl
theorem ints_one(xs:List Int):∀v∈ints xs,v.oneCell'=true:=by
 intro v hv;unfold ints at hv;obtain⟨x,_,rfl⟩:=List.mem_map.1 hv;rfl
theorem bcell{W w1:World}(hb:Below W.heap.size W w1):(∀b o,b<W.heap.size→w1.cell? ⟨b,o,none⟩=W.cell? ⟨b,o,none⟩)∧(∀b o,b<W.heap.size→w1.frozen? ⟨b,o,none⟩=W.frozen? ⟨b,o,none⟩):=
 ⟨fun b o h=>hb.cell (p:=⟨b,o,none⟩) h,fun b o h=>hb.frozen (p:=⟨b,o,none⟩) h⟩
theorem all_step{p:Int→Bool}{xs:List Int}{k:Nat}(hk:k<xs.length)(h:∀j,j<k→p (xs.getD j 0)=true)(hp:p (xs.getD k 0)=true):∀j,j<k+1→p (xs.getD j 0)=true:=by
 intro j hj
 by_cases e:j=k
 ·rw[e];exact hp
 ·exact h j (by omega)
theorem all_end{p:Int→Bool}{xs:List Int}(h:∀j,j<xs.length→p (xs.getD j 0)=true):xs.all p=true:=by
 rw[List.all_eq_true];intro x hx;obtain⟨j,hj,rfl⟩:=List.mem_iff_getElem.1 hx;have:=h j hj
 rwa [gD_,gE_ hj] at this
theorem all_no{p:Int→Bool}{xs:List Int}{k:Nat}(hk:k<xs.length)(hp:p (xs.getD k 0)=false):xs.all p=false:=by
 rw[Bool.eq_false_iff];intro h;rw[List.all_eq_true] at h;have:=h (xs.getD k 0) (by rw[gD_,gE_ hk];exact List.getElem_mem _);rw[hp] at this;exact absurd this (by decide)
def weightsOk(x:Int):Bool:=decide (-1048576≤x∧x≤1048576)
theorem weights_calls(g o:Nat)(xs:List Int)(w:World)(hl:xs.length=3)(hc:∀j,j<3→w.cell? ⟨g,o+j,none⟩=some (.int .i64 (xs.getD j 0))):
  Calls Tryz.prog 165 #[.pointer (some ⟨g,o,none⟩)] w fun e w'=>e= .returned (.bool (xs.all weightsOk))∧w=w':=by
 have HL:=Lib.hid hl;have HC:=Lib.hid hc;clear hl hc
 go_enter Tryz.func165,Tryz.ntmps165
 go_wp2
 go_loop [6] (fun i=>∃k:Nat,k≤3∧Hid (∀j,j<k→weightsOk (xs.getD j 0)=true)∧i= .int .i64 k) (fun i=>3 - (intOf i).toNat)
 case atStart=>exact⟨0,by omega,Lib.hid (fun j hj=>absurd hj (by omega)),rfl⟩
 case round=>
  obtain⟨k,hk,HP,rfl⟩:=hrel
  by_cases hlt:k<3
  ·have hcell:=HC.out k hlt;have hlt':(k:Int)<3:=by omega
   obtain⟨x,hx⟩:∃x,xs.getD k 0=x:=⟨_,rfl⟩;rw[hx] at hcell;have HX:=Lib.hid hx;clear hx
   by_cases h1:x< -1048576
   ·go_wp2;go_ret;exact⟨by rw[all_no (k:=k) (by rw[HL.out];exact hlt) (by rw[HX.out];exact df_ (by omega))];rfl,rfl⟩
   ·by_cases h2:1048576<x
    ·have h2':1048577≤x:=by omega
     go_wp2;go_ret;exact⟨by rw[all_no (k:=k) (by rw[HL.out];exact hlt) (by rw[HX.out];exact df_ (by omega))];rfl,rfl⟩
    ·have h2':x<1048577:=by omega
     go_wp2
     go_round
     case rel=>exact⟨k+1,by omega,Lib.hid (all_step (by rw[HL.out];exact hlt) HP.out (by rw[HX.out];exact dt_ (by omega))),by go_num⟩
     case measure=>simp[intOf];omega
  ·obtain rfl:k=3:=by omega
   go_wp2;go_ret;exact⟨by rw[all_end (by rw[HL.out];exact HP.out)];rfl,rfl⟩
def thereOk(x:Int):Bool:=decide (0≤x∧x≤63)
theorem there_calls(g o:Nat)(xs:List Int)(w:World)(hl:xs.length=3)(hc:∀j,j<3→w.cell? ⟨g,o+j,none⟩=some (.int .i64 (xs.getD j 0))):
  Calls Tryz.prog 151 #[.pointer (some ⟨g,o,none⟩)] w fun e w'=>e= .returned (.bool (xs.all thereOk))∧w=w':=by
 have HL:=Lib.hid hl;have HC:=Lib.hid hc;clear hl hc
 go_enter Tryz.func151,Tryz.ntmps151
 go_wp2
 go_loop [6] (fun i=>∃k:Nat,k≤3∧Hid (∀j,j<k→thereOk (xs.getD j 0)=true)∧i= .int .i64 k) (fun i=>3 - (intOf i).toNat)
 case atStart=>exact⟨0,by omega,Lib.hid (fun j hj=>absurd hj (by omega)),rfl⟩
 case round=>
  obtain⟨k,hk,HP,rfl⟩:=hrel
  by_cases hlt:k<3
  ·have hcell:=HC.out k hlt;have hlt':(k:Int)<3:=by omega
   obtain⟨x,hx⟩:∃x,xs.getD k 0=x:=⟨_,rfl⟩;rw[hx] at hcell;have HX:=Lib.hid hx;clear hx
   by_cases h1:x<0
   ·go_wp2;go_ret;exact⟨by rw[all_no (k:=k) (by rw[HL.out];exact hlt) (by rw[HX.out];exact df_ (by omega))];rfl,rfl⟩
   ·by_cases h2:63<x
    ·have h2':64≤x:=by omega
     go_wp2;go_ret;exact⟨by rw[all_no (k:=k) (by rw[HL.out];exact hlt) (by rw[HX.out];exact df_ (by omega))];rfl,rfl⟩
    ·have h2':x<64:=by omega
     go_wp2
     go_round
     case rel=>exact⟨k+1,by omega,Lib.hid (all_step (by rw[HL.out];exact hlt) HP.out (by rw[HX.out];exact dt_ (by omega))),by go_num⟩
     case measure=>simp[intOf];omega
  ·obtain rfl:k=3:=by omega
   go_wp2;go_ret;exact⟨by rw[all_end (by rw[HL.out];exact HP.out)];rfl,rfl⟩
def inputsInOk(x:Int):Bool:=decide (-2047≤x∧x≤2047)
theorem inputsIn_calls(g o:Nat)(xs:List Int)(w:World)(hl:xs.length=3)(hc:∀j,j<3→w.cell? ⟨g,o+j,none⟩=some (.int .i64 (xs.getD j 0))):
  Calls Tryz.prog 166 #[.pointer (some ⟨g,o,none⟩)] w fun e w'=>e= .returned (.bool (xs.all inputsInOk))∧w=w':=by
 have HL:=Lib.hid hl;have HC:=Lib.hid hc;clear hl hc
 go_enter Tryz.func166,Tryz.ntmps166
 go_wp2
 go_loop [6] (fun i=>∃k:Nat,k≤3∧Hid (∀j,j<k→inputsInOk (xs.getD j 0)=true)∧i= .int .i64 k) (fun i=>3 - (intOf i).toNat)
 case atStart=>exact⟨0,by omega,Lib.hid (fun j hj=>absurd hj (by omega)),rfl⟩
 case round=>
  obtain⟨k,hk,HP,rfl⟩:=hrel
  by_cases hlt:k<3
  ·have hcell:=HC.out k hlt;have hlt':(k:Int)<3:=by omega
   obtain⟨x,hx⟩:∃x,xs.getD k 0=x:=⟨_,rfl⟩;rw[hx] at hcell;have HX:=Lib.hid hx;clear hx
   by_cases h1:x< -2047
   ·go_wp2;go_ret;exact⟨by rw[all_no (k:=k) (by rw[HL.out];exact hlt) (by rw[HX.out];exact df_ (by omega))];rfl,rfl⟩
   ·by_cases h2:2047<x
    ·have h2':2048≤x:=by omega
     go_wp2;go_ret;exact⟨by rw[all_no (k:=k) (by rw[HL.out];exact hlt) (by rw[HX.out];exact df_ (by omega))];rfl,rfl⟩
    ·have h2':x<2048:=by omega
     go_wp2
     go_round
     case rel=>exact⟨k+1,by omega,Lib.hid (all_step (by rw[HL.out];exact hlt) HP.out (by rw[HX.out];exact dt_ (by omega))),by go_num⟩
     case measure=>simp[intOf];omega
  ·obtain rfl:k=3:=by omega
   go_wp2;go_ret;exact⟨by rw[all_end (by rw[HL.out];exact HP.out)];rfl,rfl⟩
namespace Crc
def poly:Nat:=3988292384
def step(x:Nat):Nat:=if x%2=1 then(x / 2) ^^^ poly else x / 2
def step4(x:Nat):Nat:=step (step (step (step x)))
def step8(x:Nat):Nat:=step4 (step4 x)
def upd(x b:Nat):Nat:=step8 (x ^^^ b)
def run(x:Nat)(l:List UInt8):Nat:=l.foldl (fun x b=>upd x b.toNat) x
def sum(l:List UInt8):Nat:=4294967295 ^^^ run 4294967295 l
theorem step_bit(x i:Nat):(step x).testBit i=(x.testBit (i+1) !=(x.testBit 0 && poly.testBit i)):=by
 unfold step;rw[Nat.testBit_succ,Nat.testBit_zero]
 split
 next h=>simp[h]
 next h=>simp[h]
theorem step_xor(a b:Nat):step (a ^^^ b)=step a ^^^ step b:=by
 apply Nat.eq_of_testBit_eq;intro i;simp only[step_bit,Nat.testBit_xor]
 cases a.testBit (i+1)<;>cases b.testBit (i+1)<;>cases a.testBit 0<;>cases b.testBit 0<;>cases poly.testBit i<;>rfl
theorem step_lt{x:Nat}(h:x<4294967296):step x<4294967296:=by
 unfold step
 split
 ·exact Nat.xor_lt_two_pow (n:=32) (by omega) (by decide)
 ·omega
theorem step4_xor(a b:Nat):step4 (a ^^^ b)=step4 a ^^^ step4 b:=by simp only[step4,step_xor]
theorem step4_lt{x:Nat}(h:x<4294967296):step4 x<4294967296:=step_lt (step_lt (step_lt (step_lt h)))
theorem step8_lt{x:Nat}(h:x<4294967296):step8 x<4294967296:=step4_lt (step4_lt h)
theorem step_two(y:Nat):step (2*y)=y:=by
 unfold step;rw[if_neg (by omega)];omega
theorem step4_sixteen(y:Nat):step4 (16*y)=y:=by
 unfold step4;rw[show 16*y=2*(2*(2*(2*y))) by omega,step_two,step_two,step_two,step_two]
theorem xor_parts(k x:Nat):(2 ^ k*(x / 2 ^ k)) ^^^ (x%2 ^ k)=x:=by
 apply Nat.eq_of_testBit_eq;intro i;rw[Nat.testBit_xor,Nat.testBit_mod_two_pow,Nat.testBit_two_pow_mul,Nat.testBit_div_two_pow]
 by_cases h:i<k
 ·simp[h,show ¬k≤i by omega]
 ·simp[h,show k≤i by omega,show i - k+k=i by omega]
theorem step4_table(x:Nat):step4 x=(x / 16) ^^^ step4 (x%16):=by
 have h:=xor_parts 4 x;have h2:step4 ((16*(x / 16)) ^^^ (x%16))=step4 x:=congrArg step4 h;rw[step4_xor,step4_sixteen] at h2;exact h2.symm
theorem xor_lt{a b:Nat}(ha:a<4294967296)(hb:b<4294967296):a ^^^ b<4294967296:=Nat.xor_lt_two_pow (n:=32) ha hb
theorem byte_lt(b:UInt8):b.toNat<4294967296:=Nat.lt_trans b.toNat_lt (by decide)
theorem upd_lt{x b:Nat}(hx:x<4294967296)(hb:b<4294967296):upd x b<4294967296:=step8_lt (xor_lt hx hb)
theorem run_lt(l:List UInt8):∀ {x:Nat},x<4294967296→run x l<4294967296:=by
 induction l with
 |nil=>intro x h;exact h
 |cons b l ih=>intro x h;exact ih (upd_lt h (byte_lt b))
theorem run_append(x:Nat)(l m:List UInt8):run x (l++m)=run (run x l) m:=by simp[run,List.foldl_append]
theorem sum_lt(l:List UInt8):sum l<4294967296:=xor_lt (by decide) (run_lt l (by decide))
end Crc
def tab(n:Nat):Array Value:=((List.range 16).map fun i=>Value.int .u32 (if i<n then(Crc.step4 i:Int) else 0)).toArray
theorem tab_size(n:Nat):(tab n).size=16:=by simp[tab]
theorem tab_one(n:Nat):(tab n).all (·.oneCell')=true:=by
 simp[tab,Value.oneCell']
theorem tab_at(n i:Nat)(h:i<16):(tab n)[i]?=some (Value.int .u32 (if i<n then(Crc.step4 i:Int) else 0)):=by
 simp[tab,h]
theorem tab_zero:tab 0= #[Value.int .u32 0,Value.int .u32 0,Value.int .u32 0,Value.int .u32 0,Value.int .u32 0,Value.int .u32 0,Value.int .u32 0,Value.int .u32 0,
  Value.int .u32 0,Value.int .u32 0,Value.int .u32 0,Value.int .u32 0,Value.int .u32 0,Value.int .u32 0,Value.int .u32 0,Value.int .u32 0]:=by
 simp[tab,List.range,List.range.loop]
theorem tab_next(n:Nat):(tab n).setIfInBounds n (.int .u32 (Crc.step4 n))=tab (n+1):=by
 apply Array.ext
 ·simp[tab]
 ·intro i h1 h2;have hi:i<16:=by simpa [tab_size] using h2
  rw[Array.getElem_setIfInBounds (by rw[tab_size];exact hi)]
  by_cases e:n=i
  ·subst e;simp[tab]
  ·have:(i<n+1)=(i<n):=by simp;omega
   simp[tab,e,this]
theorem step_code(x:Nat)(h:x<4294967296):
  Go.bits .xor .u32 ((x:Int) / 2) (Go.bits .and .u32 3988292384 (-(Go.bits .and .u32 (x:Int) 1)%4294967296))=(Crc.step x:Int):=by
 have e1:Go.bits .and .u32 (x:Int) 1=((x%2:Nat):Int):=by
  have:=u32_and_nat x 1 h (by omega);rw[Nat.and_one_is_mod] at this;exact this
 rw[e1];unfold Crc.step
 rcases (show x%2=0∨x%2=1 by omega) with h0|h0
 ·rw[h0,if_neg (by omega)];have e2:Go.bits .and .u32 3988292384 (-((0:Nat):Int)%4294967296)=((0:Nat):Int):=by decide
  rw[e2,show(x:Int) / 2=((x / 2:Nat):Int) by omega,u32_xor_nat _ _ (by omega) (by omega),Nat.xor_zero]
 ·rw[h0,if_pos rfl];have e2:Go.bits .and .u32 3988292384 (-((1:Nat):Int)%4294967296)=((3988292384:Nat):Int):=by decide
  rw[e2,show(x:Int) / 2=((x / 2:Nat):Int) by omega,u32_xor_nat _ _ (by omega) (by omega)];rfl
def steps:Nat→Nat→Nat
 |0,x=>x
 |n+1,x=>Crc.step (steps n x)
theorem steps_lt(n x:Nat)(h:x<4294967296):steps n x<4294967296:=by
 induction n with
 |zero=>exact h
 |succ n ih=>exact Crc.step_lt ih
theorem steps_four(x:Nat):steps 4 x=Crc.step4 x:=rfl
def zeros16:Obj:=Obj.cells (tab 0) 147
theorem zeros16_eq:Obj.cells #[Value.int .u32 0,Value.int .u32 0,Value.int .u32 0,Value.int .u32 0,Value.int .u32 0,Value.int .u32 0,Value.int .u32 0,Value.int .u32 0,
  Value.int .u32 0,Value.int .u32 0,Value.int .u32 0,Value.int .u32 0,Value.int .u32 0,Value.int .u32 0,Value.int .u32 0,Value.int .u32 0] 147=zeros16:=by
 rw[←tab_zero];rfl
theorem half_calls(w:World):Calls Tryz.prog 80 #[] w fun e w'=>e= .returned (.agg (tab 16))∧Below w.heap.size w w':=by
 go_enter Tryz.func80,Tryz.ntmps80
 go_wp2;rw[zeros16_eq]
 go_loopw [4] (fun c wr=>∃n:Nat,n≤16∧c= .int .i64 n∧wr=(w.alloc zeros16).alloc (.cells (tab n) 147)) (fun c _=>16 - (intOf c).toNat)
 case atStart=>exact⟨0,by omega,rfl,rfl⟩
 case round=>
  obtain⟨n,hn,rfl,rfl⟩:=hrel
  by_cases hlt:n<16
  ·have hlt':(n:Int)<16:=by omega
   go_wp2;have hnl:n<4294967296:=by omega
   go_loop [3,9] (fun s c=>∃j:Nat,j≤4∧c= .int .i64 j∧s= .int .u32 (steps j n)) (fun _ c=>4 - (intOf c).toNat)
   case atStart=>exact⟨0,by omega,rfl,rfl⟩
   case round=>
    obtain⟨j,hj,rfl,rfl⟩:=hrel
    by_cases hlj:j<4
    ·have hlj':(j:Int)<4:=by omega
     have hs:=steps_lt j n hnl;have hcode:=step_code (steps j n) hs;go_wp2
     go_round
     case rel=>exact⟨j+1,by omega,by go_num,rfl⟩
     case measure=>simp[intOf];omega
    ·obtain rfl:j=4:=by omega
     rw[steps_four];have hat:=tab_at n n hlt;have hnx:=tab_next n;go_wp2
     go_roundw
     case rel=>exact⟨n+1,by omega,by go_num,rfl⟩
     case measure=>simp[intOf];omega
  ·obtain rfl:n=16:=by omega
   have hg0:((w.alloc zeros16).alloc (.cells (tab 16) 147)).heap[w.heap.size]?=some (.cells (tab 0) 147 (0,0)):=heap_alloc2_old w _ _;have hg1:((w.alloc zeros16).alloc (.cells (tab 16) 147)).heap[w.heap.size+1]?=some (.cells (tab 16) 147 (0,0)):=heap_alloc2_new w _ _;have hi:(Tryz.prog.info? 147).map (·.size)=some (tab 16).size:=by rw[tab_size];kernel_rfl
   go_wp2_with (first
    |(with_reducible refine wpList_load_row rfl 147 (.tmp 1) rfl (w.heap.size+1) rfl 147 (tab 16) (0,0) _ hg1 Tryz.underlying147 rfl hi ?_)
    |(with_reducible refine wpList_store_row rfl 147 (.tmp 0) (.tmp 23) rfl w.heap.size (tab 16) rfl rfl 147 (tab 0) hg0 hi (by rw[tab_size,tab_size]) (tab_one 16) ?_))
   have hg2:=setRow_heap _ w.heap.size (tab 0) (tab 16) 147 (0,0) hg0;refine bodyPost_ret (v:= .agg (tab 16)) (results_cell_row rfl _ _ w.heap.size 147 (tab 16) (0,0) _ rfl hg2 Tryz.underlying147 rfl hi) rfl ⟨rfl,?_⟩;exact below_setRow (((Below.refl _ _).alloc (Nat.le_refl _) _).alloc (by simp) _) (Nat.le_refl _) _
theorem take_snoc(s:ByteArray)(k:Nat)(h:k<s.size):s.data.toList.take (k+1)=s.data.toList.take k++ [s[k]]:=by
 rw[List.take_succ_eq_append_getElem (by simpa using h)];rfl
def reg(s:ByteArray)(k:Nat):Nat:=Crc.run 4294967295 (s.data.toList.take k)
theorem reg_lt(s:ByteArray)(k:Nat):reg s k<4294967296:=Crc.run_lt _ (by decide)
theorem reg_next(s:ByteArray)(k:Nat)(h:k<s.size):reg s (k+1)=Crc.step8 (reg s k ^^^ s[k].toNat):=by
 unfold reg;rw[take_snoc s k h,Crc.run_append];rfl
theorem reg_all(s:ByteArray):reg s s.size=Crc.run 4294967295 s.data.toList:=by
 unfold reg;rw[List.take_of_length_le (by simp)]
theorem and15(x:Nat)(h:x<4294967296):Go.bits .and .u32 (x:Int) 15=((x%16:Nat):Int):=by
 have:=u32_and_nat x 15 h (by omega);rw[Nat.and_two_pow_sub_one_eq_mod x 4] at this;exact this
theorem nibble(x:Nat)(h:x<4294967296):Go.bits .xor .u32 ((x:Int) / 16) (Crc.step4 (x%16):Int)=(Crc.step4 x:Int):=by
 rw[show(x:Int) / 16=((x / 16:Nat):Int) by omega,u32_xor_nat _ _ (by omega) (Crc.step4_lt (by omega)),Crc.step4_table x]
theorem not32(x:Nat)(h:x<4294967296):Go.bits .xor .u32 4294967295 (x:Int)=((4294967295 ^^^ x:Nat):Int):=u32_xor_nat 4294967295 x (by omega) h
theorem ret_wrap{a:Int}(h0:0≤a)(h1:a<4294967296):Ending.returned (.int .i64 (wrap64 a))=Ending.returned (.int .i64 a):=by
 rw[show wrap64 a=a by unfold wrap64;omega]
def crc_Sum.f(s:ByteArray):Option Int:=if s.size≤9223372036854775807 then some (Crc.sum s.data.toList:Int) else none
theorem crc_Sum.some_(s:ByteArray)(h:s.size≤9223372036854775807):crc_Sum.f s=some (Crc.sum s.data.toList:Int):=by
 unfold crc_Sum.f;rw[if_pos h]
theorem crc_Sum.calls(s:ByteArray)(r:Int)(w:World)(h:crc_Sum.f s=some r):
  Calls Tryz.prog 48 #[.string s] w fun e w'=>e= .returned (.int .i64 r)∧Below w.heap.size w w':=by
 have hs:s.size≤9223372036854775807:=by
  unfold crc_Sum.f at h
  by_cases hs:s.size≤9223372036854775807
  ·exact hs
  ·rw[if_neg hs] at h;cases h
 rw[crc_Sum.some_ s hs] at h;obtain rfl:=Option.some.inj h;clear h
 go_enter Tryz.func48,Tryz.ntmps48
 have hi:(Tryz.prog.info? 147).map (·.size)=some (tab 16).size:=by rw[tab_size];kernel_rfl
 go_wp2_with (first
  |(go_at_call 80;refine(half_calls _).mono ?_;rintro e w1 ⟨rfl,hb⟩)
  |(with_reducible refine wpList_store_row rfl 147 (.tmp 3) (.tmp 6) rfl w1.heap.size (tab 16) rfl rfl 147 _ (heap_alloc_new _ _) hi (by simp[tab_size]) (tab_one 16) ?_;rw[World.setRow_alloc_new]))
 clear hi
 have hc:∀j:Nat,j<16→(w1.alloc (.cells (tab 16) 147)).cell? ⟨w1.heap.size,j,none⟩=some (.int .u32 (Crc.step4 j:Int)):=by
  intro j hj;rw[cell_of_row _ _ j _ _ _ (heap_alloc_new w1 _),tab_at 16 j hj,if_pos hj]
 have HC:=Lib.hid hc;clear hc
 go_loop [4,9] (fun x c=>∃k:Nat,k≤s.size∧c= .int .i64 k∧x= .int .u32 (reg s k)) (fun _ c=>s.size - (intOf c).toNat)
 case atStart=>exact⟨0,by omega,rfl,rfl⟩
 case round=>
  obtain⟨k,hk,rfl,rfl⟩:=hrel
  by_cases hlt:k<s.size
  ·have hlt':(k:Int)<s.size:=by omega
   have hr:=reg_lt s k;have hm:((s[k].toNat:Nat):Int)%4294967296=((s[k].toNat:Nat):Int):=by have:=s[k].toNat_lt;omega
   have hx1:=u32_xor_nat (reg s k) s[k].toNat hr (Crc.byte_lt _);have hy:=Crc.xor_lt hr (Crc.byte_lt s[k]);have ha1:=and15 _ hy;have hn1:=nibble _ hy;have hy2:=Crc.step4_lt hy;have ha2:=and15 _ hy2;have hn2:=nibble _ hy2;have hc1:=HC.out ((reg s k ^^^ s[k].toNat)%16) (by omega);have hc2:=HC.out (Crc.step4 (reg s k ^^^ s[k].toNat)%16) (by omega);have HN:=Lib.hid (reg_next s k hlt);go_wp2
   go_round
   case rel=>exact⟨k+1,by omega,by go_num,by rw[HN.out];rfl⟩
   case measure=>simp[intOf];omega
  ·obtain rfl:k=s.size:=by omega
   have hn:Go.bits .xor .u32 IntKind.u32.max (reg s s.size:Int)=(Crc.sum s.data.toList:Int):=by
    have:=not32 _ (reg_lt s s.size);rw[reg_all] at this ⊢;exact this
   have hl:=Crc.sum_lt s.data.toList;go_wp2;go_ret;exact⟨ret_wrap (by omega) (by omega),hb.trans ((Below.refl _ _).alloc hb.size _)⟩
def rdt.T1:Bool×List (List Nat×List Nat):=(true,[([],[]),([],[]),([1],[1]),([2],[2]),([3],[3]),([4],[4]),([5],[5]),([6,5],[5,6]),([5,7],[5,7]),([8,5],[8]),([9],[9]),([9],[9]),([11,9],[9,11]),([12,9],[9,12]),([13,9],[9,13]),([14,9],[9,14]),([9],[9]),([16,9],[9,16]),([17,9],[9,17]),([18,9],[9,18]),([15,19,9],[9,15,19]),([10,20,9],[9,10,20]),([9,21],[9,21]),([0,0,1,2,3,4,5,6,7,8,9,10,11,12,13,14,15,16,17,18,19,20,21,22],[0]),([23,0,1,2,3,4,5,6,7,8,9,10,11,12,13,14,15,16,17,18,19,20,21,22],[23]),([24,22,9,0,1,2,3,4,5,6,7,8,9,10,11,12,13,14,15,16,17,18,19,20,21,22],[22,24])])
def rdt.B1:List Nat:= [0,0,2,6,14,30,62,126,254,510,1022,1022,3070,7166,15358,31742,1022,66558,197630,459774,1047550,2097150,4194302,8388607,16777215,33554431]
theorem rdt.tab1:rtab .any (opsOf Tryz.f42 1)=rdt.T1:=by kernel_rfl
theorem rdt.bits1:waitsOk rdt.T1.2 rdt.B1=true:=by kernel_rfl
def rdt.T5:Bool×List (List Nat×List Nat):=(true,[([],[]),([0],[0]),([1],[1]),([2],[2]),([],[]),([4],[4]),([5],[5]),([6],[6]),([],[]),([7,8],[7,8]),([],[]),([10],[10]),([11],[11]),([12],[12]),([3,9,13],[3,9,13]),([14,0,1,2,3,4,5,6,7,8,9,10,11,12,13,14],[14])])
def rdt.B5:List Nat:= [0,1,3,7,0,16,48,112,0,496,0,1024,3072,7168,16383,32767]
theorem rdt.tab5:rtab .any (opsOf Tryz.f42 5)=rdt.T5:=by kernel_rfl
theorem rdt.bits5:waitsOk rdt.T5.2 rdt.B5=true:=by kernel_rfl
structure RdKeep(w0:World)(g:Nat)(w w':World):Prop where
 bel:Below w0.heap.size w0 w'
 size:w.heap.size≤w'.heap.size
 same:∀k,k<w.heap.size→k≠g→w'.heap[k]?=w.heap[k]?
theorem RdKeep.refl{w0:World}{g:Nat}{w:World}(h:Below w0.heap.size w0 w):RdKeep w0 g w w:=⟨h,Nat.le_refl _,fun _ _ _=>rfl⟩
theorem RdKeep.below{w0:World}{g:Nat}{w w1 w2:World}(h:RdKeep w0 g w w1)(hb:Below w1.heap.size w1 w2):RdKeep w0 g w w2:=⟨below_step h.bel hb,Nat.le_trans h.size hb.size,fun k hk hn=>(hb.block k (Nat.lt_of_lt_of_le hk h.size)).trans (h.same k hk hn)⟩
theorem RdKeep.drew{w0:World}{g:Nat}{w w1:World}(h:RdKeep w0 g w w1):RdKeep w0 g w w1.drew:=h.below (below_drew (Below.refl _ _))
theorem RdKeep.set_{w0:World}{g:Nat}{w w1:World}(h:RdKeep w0 g w w1)(hg:w0.heap.size≤g)(i:Nat)(v:Value):RdKeep w0 g w (w1.setCell ⟨g,i,none⟩ v):=⟨below_set h.bel hg,Nat.le_trans h.size (by simp),fun k hk hn=>(Below.heap_setCell w1 ⟨g,i,none⟩ v k hn).trans (h.same k hk hn)⟩
def RdAt(g:Nat)(s:ByteArray)(p:Nat)(w:World):Prop:=w.heap[g]?=some (.cells #[.string s,.int .i64 p,.bool false] 96 (0,0))
theorem take_calls(w0:World)(g:Nat)(s:ByteArray)(p n:Nat)(w:World)(hs:s.size≤140737488351232)(hn:p+n≤s.size)(hg:RdAt g s p w)(hg0:w0.heap.size≤g)(hW:Below w0.heap.size w0 w):
  Calls Tryz.prog 42 #[.pointer (some ⟨g,0,none⟩),.int .i64 n] w fun e w'=>e= .returned (.string (s.extract p (p+n)))∧RdAt g s (p+n) w'∧RdKeep w0 g w w':=by
 have YG:Aside0 (w.heap[g]?=some (.cells #[.string s,.int .i64 p,.bool false] 96 (0,0))):=⟨hg⟩;have YK:Aside0 (RdKeep w0 g w w):=⟨RdKeep.refl hW⟩;have b1:decide ((n:Int)<0)=false:=df_ (by omega);have b2:wrap64 ((s.size:Int) - p)=((s.size - p:Nat):Int):=by unfold wrap64;omega
 have b3:decide (((s.size - p:Nat):Int)<n)=false:=df_ (by omega);have b4:decide (s.size - p<n)=false:=df_ (by omega);obtain⟨q,hq⟩:∃q,p+n=q:=⟨_,rfl⟩;rw[hq] at hn ⊢;have b5:wrap64 ((p:Int)+n)=(q:Int):=by unfold wrap64;omega
 have b6:wrap64 ((q:Int) - n)=(p:Int):=by unfold wrap64;omega
 have b7:decide ((p:Int)<0)=false:=df_ (by omega);have hpq:p≤q:=by omega
 have B5:=Lib.hid b5;clear hq b5;clear hg hW
 go_enter Tryz.func42,Tryz.ntmps42
 go_wp2_with fail
 replace YG:=Z_ (blk_drew YG.out);replace YK:=Z_ (RdKeep.drew YK.out);refine start_ (n:=26) (S:=fun w'=>w'.heap[g]?=some (.cells #[.string s,.int .i64 p,.bool false] 96 (0,0))) (ds:= [25]) #[false,false,false,false,false,false,false,false,false,false,false,false,false,false,false,false,false,false,false,false,false,false,false,false,false,false] (by kernel_rfl) rfl rfl YG.out (fun hHeld=>?_);refine with_tabW rdt.tab1 rdt.bits1 (fun HT_ HW_=>?_);generalize World.drew _=wk_ at YG YK hHeld ⊢;refine P_ 0 5 ?_;refine P_ 1 6 ?_;refine P_ 2 7 ?_;refine P_ 3 8 ?_;refine T_ 4 9 (y:=by rintro w' s0;have r0:=blk_cell s0 0;have r1:=blk_cell s0 1;have r2:=blk_cell s0 2;simp at r0 r1 r2;go_simp;with_reducible rfl) (h:=?_);refine P_ 5 10 ?_;refine P_ 6 11 ?_;refine P_ 7 12 ?_;refine P_ 8 13 ?_;refine P_ 9 14 ?_;refine P_ 10 15 ?_;refine P_ 11 16 ?_;refine P_ 12 17 ?_;refine P_ 13 18 ?_;refine P_ 16 21 ?_;refine P_ 17 22 ?_;refine P_ 18 23 ?_;refine T_ 14 19 (y:=by rintro w' s0;have r0:=blk_cell s0 0;have r1:=blk_cell s0 1;have r2:=blk_cell s0 2;simp at r0 r1 r2;go_simp;with_reducible rfl) (h:=?_);refine P_ 15 20 ?_;refine T_ 19 24 (y:=by rintro w' s0;have r0:=blk_cell s0 0;have r1:=blk_cell s0 1;have r2:=blk_cell s0 2;simp at r0 r1 r2;go_simp;with_reducible rfl) (h:=?_);refine P_ 20 25 ?_;refine P_ 21 26 ?_;refine P_ 22 27 ?_;refine P_ 23 28 ?_;refine P_ 24 29 ?_;have r0:=blk_cell YG.out 0;have r1:=blk_cell YG.out 1;have r2:=blk_cell YG.out 2;simp at r0 r1 r2;have rf:=blk_frozen YG.out;have rl:=blk_lt YG.out;refine last_ (i:=25) (N:=none) #[true,true,true,true,true,true,true,true,true,true,true,true,true,true,true,true,true,true,true,true,true,true,true,true,true,true] rfl rfl (one_of HT_.out (by kernel_rfl)) (by decide) (fun K hK=>?_);refine skip_ (w1:=?_) (by rfl) rfl ?_ ?_;rotate_left
 ·go_simp
  rfl
 refine hK.out _ _ ?_;clear hK K;refine done_ (done_of HT_.out (by kernel_rfl)) ?_;clear r0 r1 r2 rf rl b1 b2 b3 b4;replace YG:=Z_ (blk_put YG.out 2 (.bool false) (cs':= #[.string s,.int .i64 p,.bool false]) rfl);replace YK:=Z_ (RdKeep.set_ YK.out hg0 2 (.bool false));clear hHeld;generalize World.setCell _ _ _=wk_ at YG YK ⊢;have r0:=blk_cell YG.out 0;have r1:=blk_cell YG.out 1;have r2:=blk_cell YG.out 2;simp at r0 r1 r2;have rf:=blk_frozen YG.out;have rl:=blk_lt YG.out
 go_wp2_with fail
 rw[B5.out];clear r0 r1 r2 rf rl;replace YG:=Z_ (blk_drew (blk_put YG.out 1 (.int .i64 q) (cs':= #[.string s,.int .i64 q,.bool false]) rfl));replace YK:=Z_ (RdKeep.drew (RdKeep.set_ YK.out hg0 1 (.int .i64 q)));refine start_ (n:=16) (S:=fun w'=>w'.heap[g]?=some (.cells #[.string s,.int .i64 q,.bool false] 96 (0,0))) (ds:= []) #[false,false,false,false,false,false,false,false,false,false,false,false,false,false,false,false] (by kernel_rfl) rfl rfl YG.out (fun hHeld=>?_);refine with_tabW rdt.tab5 rdt.bits5 (fun HT_ HW_=>?_);generalize World.drew _=wk_ at YG YK hHeld ⊢;refine P_ 0 42 ?_;refine P_ 1 43 ?_;refine P_ 2 44 ?_;refine P_ 4 46 ?_;refine P_ 5 47 ?_;refine P_ 6 48 ?_;refine P_ 8 50 ?_;refine P_ 10 52 ?_;refine P_ 11 53 ?_;refine P_ 12 54 ?_;refine T_ 3 45 (y:=by rintro w' s0;have r0:=blk_cell s0 0;have r1:=blk_cell s0 1;have r2:=blk_cell s0 2;simp at r0 r1 r2;go_simp;with_reducible rfl) (h:=?_);refine T_ 7 49 (y:=by rintro w' s0;have r0:=blk_cell s0 0;have r1:=blk_cell s0 1;have r2:=blk_cell s0 2;simp at r0 r1 r2;go_simp;with_reducible rfl) (h:=?_);refine P_ 9 51 ?_;refine T_ 13 55 (y:=by rintro w' s0;have r0:=blk_cell s0 0;have r1:=blk_cell s0 1;have r2:=blk_cell s0 2;simp at r0 r1 r2;go_simp;with_reducible rfl) (h:=?_);refine T_ 14 56 (y:=by rintro w' s0;have r0:=blk_cell s0 0;have r1:=blk_cell s0 1;have r2:=blk_cell s0 2;simp at r0 r1 r2;go_simp;with_reducible rfl) (h:=?_);refine P_ 15 4 ?_;refine done_ (done_of HT_.out (by kernel_rfl)) ?_;go_wp2;go_ret;exact⟨rfl,YG.out,YK.out⟩
def rdn.T1:Bool×List (List Nat×List Nat):=(true,[([],[]),([0],[0]),([1],[1]),([2],[2]),([],[]),([4],[4]),([5],[5]),([6],[6]),([3,7],[3,7]),([8],[8]),([9],[9]),([9],[9]),([9],[9]),([10,8,0,1,2,3,4,5,6,7,8,9,10],[10]),([11,13,0,1,2,3,4,5,6,7,8,9,10,11,13],[11]),([12,14,0,1,2,3,4,5,6,7,8,9,10,11,12,13,14],[12])])
def rdn.B1:List Nat:= [0,1,3,7,0,16,48,112,255,511,1023,1023,1023,2047,12287,32767]
theorem rdn.tab1:rtab .any (opsOf Tryz.f44 1)=rdn.T1:=by kernel_rfl
theorem rdn.bits1:waitsOk rdn.T1.2 rdn.B1=true:=by kernel_rfl
theorem fieldRd_calls(w0:World)(g:Nat)(s:ByteArray)(p n k:Nat)(x e:Int)(w:World)(hs:s.size≤140737488351232)(hn:p+n≤s.size)(hf:field_Get.f k (s.extract p (p+n))=some (x,e))(hg:RdAt g s p w)(hg0:w0.heap.size≤g)(hW:Below w0.heap.size w0 w):
  Calls Tryz.prog 43 #[.pointer (some ⟨g,0,none⟩),.int .i64 n] w fun e w'=>e= .returned (.int .i64 x)∧RdAt g s (p+n) w'∧RdKeep w0 g w w':=by
 have CT:=Lib.hid (take_calls w0 g s p n w hs hn hg hg0 hW);obtain⟨t,ht⟩:∃t,s.extract p (p+n)=t:=⟨_,rfl⟩;rw[ht] at CT hf;have HF:=Lib.hid hf;clear ht hf hg hW
 go_enter Tryz.func43,Tryz.ntmps43
 go_wp2_with fail
 refine CT.out.mono ?_;rintro e1 w1 ⟨rfl,hg,hk⟩;have YG:=Lib.hid hg;have YK:=Z_ hk;clear hg hk
 go_wp2_with fail
 refine(field_Get.calls k t x e w1 HF.out).mono ?_;rintro e2 w2 ⟨rfl,⟨⟨nd,rfl⟩⟩⟩;go_wp2;go_ret;exact⟨rfl,blk_drewN YG.out nd,YK.out.below (pw_below_drewN (Below.refl _ _) nd)⟩
theorem numberRd_calls(w0:World)(g:Nat)(s:ByteArray)(p q k:Nat)(x:Int)(w:World)(hv:varint_Get.f k s p=some (x,(q:Int),0))(hg:RdAt g s p w)(hg0:w0.heap.size≤g)(hW:Below w0.heap.size w0 w):
  Calls Tryz.prog 44 #[.pointer (some ⟨g,0,none⟩)] w fun e w'=>e= .returned (.int .i64 x)∧RdAt g s q w'∧RdKeep w0 g w w':=by
 have YG:Aside0 (w.heap[g]?=some (.cells #[.string s,.int .i64 p,.bool false] 96 (0,0))):=⟨hg⟩;have YK:Aside0 (RdKeep w0 g w w):=⟨RdKeep.refl hW⟩;have HV:=Lib.hid hv;clear hg hW hv
 go_enter Tryz.func44,Tryz.ntmps44
 go_wp2_with fail
 replace YG:=Z_ (blk_drew YG.out);replace YK:=Z_ (RdKeep.drew YK.out);refine start_ (n:=16) (S:=fun w'=>w'.heap[g]?=some (.cells #[.string s,.int .i64 p,.bool false] 96 (0,0))) (ds:= []) #[false,false,false,false,false,false,false,false,false,false,false,false,false,false,false,false] (by kernel_rfl) rfl rfl YG.out (fun hHeld=>?_);refine with_tabW rdn.tab1 rdn.bits1 (fun HT_ HW_=>?_);generalize World.drew _=wk_ at YG YK hHeld ⊢;refine P_ 0 7 ?_;refine P_ 1 8 ?_;refine P_ 2 9 ?_;refine P_ 4 11 ?_;refine P_ 5 12 ?_;refine P_ 6 13 ?_;refine T_ 3 10 (y:=by rintro w' s0;have r0:=blk_cell s0 0;have r1:=blk_cell s0 1;have r2:=blk_cell s0 2;simp at r0 r1 r2;go_simp;with_reducible rfl) (h:=?_);refine T_ 7 14 (y:=by rintro w' s0;have r0:=blk_cell s0 0;have r1:=blk_cell s0 1;have r2:=blk_cell s0 2;simp at r0 r1 r2;go_simp;with_reducible rfl) (h:=?_);refine O_ 8 15 fun K hK=>?_
 refine g_ Tryz.func79 #[.string s,.int .i64 p] ?_;refine(varint_Get.calls k s p x q 0 _ HV.out).mono ?_;rintro e wk_ ⟨rfl,hb⟩;refine⟨_,rfl,?_⟩;replace YG:=Z_ (blk_below YG.out hb);replace YK:=Z_ (RdKeep.below YK.out hb);clear hb;refine hK.out _ _ YG.out (fun hHeld=>?_);clear hK K;refine Nm_ 15 ?_;refine P_ 9 6 ?_;refine P_ 10 16 ?_;refine P_ 11 17 ?_;refine P_ 12 18 ?_;refine P_ 13 3 ?_;refine P_ 14 4 ?_;refine P_ 15 5 ?_;refine done_ (done_of HT_.out (by kernel_rfl)) ?_;have r0:=blk_cell YG.out 0;have r1:=blk_cell YG.out 1;have r2:=blk_cell YG.out 2;simp at r0 r1 r2;have rf:=blk_frozen YG.out;have rl:=blk_lt YG.out;go_wp2;go_ret;refine⟨rfl,?_,?_⟩
 ·exact blk_put (blk_put YG.out 2 (.bool false) (cs':= #[.string s,.int .i64 p,.bool false]) rfl) 1 (.int .i64 q) rfl
 ·exact RdKeep.set_ (RdKeep.set_ YK.out hg0 2 (.bool false)) hg0 1 (.int .i64 q)
def smy.T2:Bool×List (List Nat×List Nat):=(true,[([],[]),([0],[0]),([1,1],[1]),([2],[2]),([3,2],[2,3]),([4,2],[2,4]),([5,2],[2,5]),([6,2],[2,6]),([2],[2]),([8,2],[2,8]),([9,2],[2,9]),([10,2],[2,10]),([2],[2]),([12,2],[2,12]),([13,2],[2,13]),([14,2],[2,14]),([11,15,2,2],[2,11,15]),([7,16,2],[2,7,16]),([2,17],[2,17]),([18,16],[18]),([19],[19]),([20,19],[19,20]),([21,19],[19,21]),([22,19],[19,22]),([19],[19]),([23,24,19,19],[19,23,24]),([25,19],[19,25]),([19,26],[19,26]),([27,25,0,1,2,3,4,5,6,7,8,9,10,11,12,13,14,15,16,17,18,19,20,21,22,23,24,25,26,27],[27])])
def smy.B2:List Nat:= [0,1,3,7,15,31,63,127,7,263,775,1799,7,4103,12295,28679,65287,131071,262143,524287,1048575,2097151,4194303,8388607,1048575,33554431,67108863,134217727,268435455]
theorem smy.tab2:rtab .any (opsOf Tryz.f54 2)=smy.T2:=by kernel_rfl
theorem smy.bits2:waitsOk smy.T2.2 smy.B2=true:=by kernel_rfl
def headOk(ch bi sz fr:Int)(hd tl:ByteArray):Prop:=(ch=1∨ch=2)∧(bi=8∨bi=16)∧1≤sz∧sz≤64∧0≤fr∧fr≤4096∧hd.size≤4096∧tl.size≤4096
theorem pcmMay_some{ch bi:Int}(h1:ch=1∨ch=2)(h2:bi=8∨bi=16):pcm_May.f ch bi=some true:=by
 unfold pcm_May.f
 rcases h1 with rfl|rfl<;>rcases h2 with rfl|rfl<;>rfl
theorem head_calls(g:Nat)(ch bi sz fr:Int)(hd tl:ByteArray)(v:Value)(w:World)(hh:headOk ch bi sz fr hd tl)(hg:w.heap[g]?=some (.cells #[.int .i64 ch,.int .i64 bi,.int .i64 sz,.int .i64 fr,.string hd,.string tl,v] 49 (0,0))):
  Calls Tryz.prog 45 #[.pointer (some ⟨g,0,none⟩)] w fun e w'=>e= .returned (.bool true)∧Below w.heap.size w w':=by
 have fH:=Tryz.underlying23;obtain⟨h1,h2,h3,h4,h5,h6,h7,h8⟩:=hh;have HM:=Lib.hid (pcmMay_some h1 h2);have G0:=Z_ hg;have c0:=blk_cell hg 0;have c1:=blk_cell hg 1;simp at c0 c1;have e1:decide (sz≥1)=true:=dt_ h3;have e2:decide (sz≤64)=true:=dt_ h4;have e3:decide (fr≥0)=true:=dt_ h5;have e4:decide (fr≤4096)=true:=dt_ h6;have e5:decide ((hd.size:Int)≤4096)=true:=dt_ (by omega);have e6:decide ((tl.size:Int)≤4096)=true:=dt_ (by omega);have e7:decide (1≤sz)=true:=dt_ h3;have e8:decide (0≤fr)=true:=dt_ h5;clear hg h1 h2
 go_enter Tryz.func45,Tryz.ntmps45
 go_wp2_with fail
 refine(pcm_May.calls ch bi true _ HM.out).mono ?_;rintro e w1 ⟨rfl,hb⟩;have YG:=Z_ (blk_below G0.out hb);have YW:=Z_ hb;clear hb c0 c1;have c2:=blk_cell YG.out 2;have c3:=blk_cell YG.out 3;have c4:=blk_cell YG.out 4;have c5:=blk_cell YG.out 5;simp at c2 c3 c4 c5;go_wp2;go_ret;exact⟨rfl,YW.out⟩
def szB(s:ByteArray):Bool:=decide (9≤s.size∧s.size≤65535)
theorem odd84_calls(s:ByteArray)(w:World):Calls Tryz.prog 84 #[.string s] w fun e w'=>e= .returned (.bool (!(szB s)))∧∃n,w'=w.drewN n:=by
 have h:stream_size.f (s.size:Int)=some (szB s):=by
  unfold stream_size.f szB
  by_cases h1:(s.size:Int)≥9
  ·rw[if_pos h1]
   congr 1
   rw[decide_eq_decide];omega
  ·rw[if_neg h1]
   congr 1
   symm
   rw[decide_eq_false_iff_not];omega
 have H:=Lib.hid h;clear h
 go_enter Tryz.func84,Tryz.ntmps84
 go_wp2_with fail
 refine(stream_size.calls _ _ _ H.out).mono ?_;rintro e w1 ⟨rfl,⟨⟨n,rfl⟩⟩⟩;go_wp2;go_ret;exact⟨rfl,n,rfl⟩
theorem szIdx_calls(A0:Option Addr)(c0:Nat)(l:List ByteArray)(n:Nat)(w:World)(hn:l.length=n)(hr0:Kd.C Kd.string w A0 n l)(hok:∀s∈l,szB s=true):
  Calls Tryz.prog 117 #[.slice A0 n c0,.func (.func 84) #[] #[]] w fun e w'=>e= .returned (.int .i64 (-1))∧∃n,w'=w.drewN n:=by
 subst hn;have cO:=Z_ hr0;have HO:=Z_ hok;have hl:=hr0.2.1;clear hr0 hok
 go_enter Tryz.func117,Tryz.ntmps117
 go_wp2
 go_loopg [8] l.length (fun d v8 wr=>∃i:Nat,v8= .int .i64 i∧i+d=l.length∧Drawn0 w wr)
 case atStart=>exact⟨0,rfl,by omega,Drawn0.refl _⟩
 case round=>
  obtain⟨i,rfl,hi,⟨⟨n1,rfl⟩⟩⟩:=hrel
  cases gk with
  |zero=>
   obtain rfl:i=l.length:=by omega
   go_wp2;go_ret;exact⟨rfl,n1,rfl⟩
  |succ d=>
   have hlt:i<l.length:=by omega
   have hlt':(i:Int)<l.length:=by omega
   have hi0:(0:Int)≤i:=by omega
   obtain⟨ad,e_,hx_⟩:=Kd.at_string (Kd.C_drewN cO.out n1) (i:Int) hi0 hlt'
   cases e_
   have hrd:rdOf ByteArray.empty l (i:Int)=l.getD i ByteArray.empty:=by
    unfold rdOf;rw[nC_]
   rw[hrd,nC_] at hx_;have hs:=HO.out (l.getD i ByteArray.empty) (by rw[gD_,gE_ hlt];exact List.getElem_mem _);obtain⟨x,hx⟩:∃x,l.getD i ByteArray.empty=x:=⟨_,rfl⟩;rw[hx] at hx_ hs;have HS:=Lib.hid hs;clear hrd hx hs
   go_wp2_with fail
   refine(odd84_calls x _).mono ?_;rintro e w2 ⟨rfl,⟨n2,rfl⟩⟩;rw[HS.out];go_wp2
   go_roundg d
   case measure=>omega
   case rel=>exact⟨i+1,by go_num,by omega,⟨⟨_,rfl⟩⟩⟩
theorem szAny_calls(A0:Option Addr)(c0:Nat)(l:List ByteArray)(n:Nat)(w:World)(hn:l.length=n)(hr0:Kd.C Kd.string w A0 n l)(hok:∀s∈l,szB s=true):
  Calls Tryz.prog 85 #[.slice A0 n c0,.func (.func 84) #[] #[]] w fun e w'=>e= .returned (.bool false)∧Below w.heap.size w w':=by
 have C:=Lib.hid (szIdx_calls A0 c0 l n w hn hr0 hok);clear hr0 hok
 go_enter Tryz.func85,Tryz.ntmps85
 go_wp2_with fail
 refine C.out.mono ?_;rintro e w1 ⟨rfl,m,rfl⟩;go_wp2;go_ret;exact⟨rfl,pw_below_drewN (Below.refl _ _) m⟩
theorem may_calls(g:Nat)(ch bi sz fr:Int)(hd tl:ByteArray)(A:Option Addr)(n c:Nat)(l:List ByteArray)(w:World)(hh:headOk ch bi sz fr hd tl)(hn:stream_Many.f fr sz=some (n:Int))(hln:l.length=n)(hok:∀s∈l,szB s=true)
  (hg:w.heap[g]?=some (.cells #[.int .i64 ch,.int .i64 bi,.int .i64 sz,.int .i64 fr,.string hd,.string tl,.slice A n c] 49 (0,0))) (hr:Kd.C Kd.string w A n l):
  Calls Tryz.prog 54 #[.pointer (some ⟨g,0,none⟩)] w fun e w'=>e= .returned (.bool true)∧Below w.heap.size w w':=by
 have HH:=Z_ hh;have HN:=Lib.hid hn;have HLN:=Lib.hid hln;have HO:=Z_ hok;have G0:=Z_ hg;have H0:=Z_ hr;have YW:Aside0 (Below w.heap.size w w):=⟨Below.refl _ _⟩;have hnn:((n:Int)==n)=true:=beq_iff_eq.mpr rfl;clear hh hn hln hok hg hr
 go_enter Tryz.func54,Tryz.ntmps54
 go_wp2_with fail
 replace YW:=Z_ (below_drew1 YW.out);refine start_ (n:=29) (S:=fun w'=>w'.heap[g]?=some (.cells #[.int .i64 ch,.int .i64 bi,.int .i64 sz,.int .i64 fr,.string hd,.string tl,.slice A n c] 49 (0,0))) (ds:= []) #[false,false,false,false,false,false,false,false,false,false,false,false,false,false,false,false,false,false,false,false,false,false,false,false,false,false,false,false,false] (by kernel_rfl) rfl rfl (blk_below G0.out YW.out) (fun hHeld=>?_);refine with_tabW smy.tab2 smy.bits2 (fun HT_ HW_=>?_);generalize World.drew _=wk_ at YW hHeld ⊢;refine P_ 0 4 ?_;refine O_ 1 5 fun K hK=>?_
 refine g_ Tryz.func45 #[.pointer (some ⟨g,0,none⟩)] ?_;refine(head_calls g ch bi sz fr hd tl (.slice A n c) _ HH.out (blk_below G0.out YW.out)).mono ?_;rintro e wk_ ⟨rfl,hb⟩;refine⟨_,rfl,?_⟩;replace YW:=Z_ (below_step YW.out hb);clear hb;refine hK.out _ _ (blk_below G0.out YW.out) (fun hHeld=>?_);clear hK K;refine Nm_ 5 ?_;refine P_ 2 6 ?_;refine P_ 3 7 ?_;refine P_ 4 8 ?_;refine P_ 5 9 ?_;refine P_ 8 12 ?_;refine P_ 9 13 ?_;refine P_ 10 14 ?_;refine P_ 12 16 ?_;refine P_ 13 17 ?_;refine P_ 14 18 ?_;refine T_ 6 10 (y:=by rintro w' s0;have r2:=blk_cell s0 2;have r3:=blk_cell s0 3;have r6:=blk_cell s0 6;simp at r2 r3 r6;go_simp;with_reducible rfl) (h:=?_);refine P_ 7 11 ?_;refine T_ 11 15 (y:=by rintro w' s0;have r2:=blk_cell s0 2;have r3:=blk_cell s0 3;have r6:=blk_cell s0 6;simp at r2 r3 r6;go_simp;with_reducible rfl) (h:=?_);refine T_ 15 19 (y:=by rintro w' s0;have r2:=blk_cell s0 2;have r3:=blk_cell s0 3;have r6:=blk_cell s0 6;simp at r2 r3 r6;go_simp;with_reducible rfl) (h:=?_);refine O_ 16 20 fun K hK=>?_
 refine g_ Tryz.func46 #[.int .i64 fr,.int .i64 sz] ?_;refine(stream_Many.calls fr sz n _ HN.out).mono ?_;rintro e wk_ ⟨rfl,⟨⟨nd,rfl⟩⟩⟩;refine⟨_,rfl,?_⟩;replace YW:=Z_ (pw_below_drewN YW.out nd);generalize World.drewN _ nd=wk_ at YW ⊢;refine hK.out _ _ (blk_below G0.out YW.out) (fun hHeld=>?_);clear hK K;refine Nm_ 20 ?_;refine P_ 17 21 ?_;refine P_ 18 22 ?_;refine P_ 19 23 ?_;refine P_ 20 24 ?_;refine P_ 21 25 ?_;refine P_ 22 26 ?_;refine P_ 24 28 ?_;refine T_ 23 27 (y:=by rintro w' s0;have r2:=blk_cell s0 2;have r3:=blk_cell s0 3;have r6:=blk_cell s0 6;simp at r2 r3 r6;go_simp;with_reducible rfl) (h:=?_);refine O_ 25 29 fun K hK=>?_
 refine g_ Tryz.func85 #[.slice A n c,.func (.func 84) #[] #[]] ?_;refine(szAny_calls A c l n _ HLN.out (Kd.C_below H0.out YW.out) HO.out).mono ?_;rintro e wk_ ⟨rfl,hb⟩;refine⟨_,rfl,?_⟩;replace YW:=Z_ (below_step YW.out hb);clear hb;refine hK.out _ _ (blk_below G0.out YW.out) (fun hHeld=>?_);clear hK K;refine Nm_ 29 ?_;refine P_ 26 30 ?_;refine P_ 27 31 ?_;refine P_ 28 2 ?_;refine done_ (done_of HT_.out (by kernel_rfl)) ?_;go_wp2;go_ret;exact⟨rfl,YW.out⟩
namespace Sq
def tab:List Int:= [1,2,3,6,10,16,27,45,73,120,194,310,488,747,1101,1546,2047,2549,2994,3348,3607,3785,3901,3975,4022,4050,4068,4079,4085,4089,4092,4093,4094]
def deb:List Int:= [0,1,56,2,57,49,28,3,61,58,42,50,38,29,17,4,62,47,59,36,45,43,51,22,53,39,33,30,24,18,12,5,63,55,48,27,60,41,37,16,46,35,44,21,52,32,23,11,54,26,40,15,34,20,31,10,25,14,19,9,13,8,7,6]
def squash(x:Int):Int:=if x>2047 then 4095 else if x< -2047 then 0 else(tab.getD ((x+2048) / 128).toNat 0*(128 - x%128)+tab.getD (((x+2048) / 128).toNat+1) 0*(x%128)+64) / 128
theorem tab_bd(j:Nat):0≤tab.getD j 0∧tab.getD j 0≤4094:=by
 by_cases h:j<33
 ·have hall:∀i:Fin 33,0≤tab.getD i.val 0∧tab.getD i.val 0≤4094:=by decide
  exact hall ⟨j,h⟩
 ·rw[gD_,List.getElem?_eq_none (by show 33≤j;omega)]
  decide
end Sq
structure Tabs(w:World):Prop where
 sq:∀j,j<33→w.cell? ⟨3,j,none⟩=some (.int .i64 (Sq.tab.getD j 0))
 db:∀j,j<64→w.cell? ⟨2,j,none⟩=some (.int .u8 (Sq.deb.getD j 0))
theorem Tabs.below{w w':World}(h:Tabs w)(hb:Below w.heap.size w w'):Tabs w':=
 ⟨fun j hj=>(hb.cell (World.block_lt_of_cell? w _ (h.sq j hj))).trans (h.sq j hj),fun j hj=>(hb.cell (World.block_lt_of_cell? w _ (h.db j hj))).trans (h.db j hj)⟩
theorem wi64(n:Int)(h₀:0≤n)(h₁:n<2 ^ 63):IntKind.i64.wrap n=n:=by rw[IntKind.wrap_i64];omega
theorem and_low(x:Int)(k:Nat)(hk:k≤62):Go.bits .and .i64 x ((2 ^ k - 1:Nat):Int)=x%(2 ^ k:Nat):=by
 show IntKind.i64.wrap ((BitVec.ofInt 64 x &&& BitVec.ofInt 64 ((2 ^ k - 1:Nat):Int)).toNat:Int)=_
 have h1:(BitVec.ofInt 64 ((2 ^ k - 1:Nat):Int)).toNat=2 ^ k - 1:=by
  rw[BitVec.ofInt_natCast,BitVec.toNat_ofNat];have:2 ^ k≤2 ^ 62:=Nat.pow_le_pow_right (by omega) hk;apply Nat.mod_eq_of_lt;omega
 rw[BitVec.toNat_and,h1,Nat.and_two_pow_sub_one_eq_mod,BitVec.toNat_ofInt];have hp:(0:Int)<2 ^ 64:=by decide
 have e:(((x%((2 ^ 64:Nat):Int)).toNat%2 ^ k:Nat):Int)=x%(2 ^ k:Nat):=by
  rw[Int.natCast_emod,Int.toNat_of_nonneg (Int.emod_nonneg _ (by decide))];apply Int.emod_emod_of_dvd;exact Int.natCast_dvd_natCast.2 (Nat.pow_dvd_pow 2 (by omega))
 rw[e];have hk2:(0:Int)<((2 ^ k:Nat):Int):=Int.natCast_pos.2 (Nat.pow_pos (by omega));have h3:=Int.emod_nonneg x (Int.ne_of_gt hk2);have h4:=Int.emod_lt_of_pos x hk2
 have h5:((2 ^ k:Nat):Int)≤2 ^ 62:=by
  have:2 ^ k≤2 ^ 62:=Nat.pow_le_pow_right (by omega) hk;omega
 exact wi64 _ h3 (by omega)
theorem squash_calls(x:Int)(w:World)(hT:Tabs w):Calls Tryz.prog 168 #[.int .i64 x] w fun e w'=>e= .returned (.int .i64 (Sq.squash x))∧∃n,w'=w.drewN n:=by
 by_cases h1:x>2047
 ·have h1':2047<x:=h1;have hs:Sq.squash x=4095:=by unfold Sq.squash;rw[if_pos h1]
  have HS:=Lib.hid hs;clear hs hT
  go_enter Tryz.func168,Tryz.ntmps168
  go_wp2;go_ret;exact⟨by rw[HS.out];rfl,0,rfl⟩
 ·by_cases h2:x< -2047
  ·have h1':¬2047<x:=h1;have hs:Sq.squash x=0:=by unfold Sq.squash;rw[if_neg h1,if_pos h2]
   have HS:=Lib.hid hs;clear hs hT
   go_enter Tryz.func168,Tryz.ntmps168
   go_wp2;go_ret;exact⟨by rw[HS.out];rfl,0,rfl⟩
  ·obtain⟨d,hd⟩:∃d:Nat,(x+2048) / 128=(d:Int):=⟨((x+2048) / 128).toNat,by omega⟩;obtain⟨r,hr⟩:∃r:Int,x%128=r:=⟨_,rfl⟩
   have hs:Sq.squash x=(Sq.tab.getD d 0*(128 - r)+Sq.tab.getD (d+1) 0*r+64) / 128:=by
    unfold Sq.squash;rw[if_neg h1,if_neg h2,hd,hr];rfl
   have hd32:d<32:=by omega
   have hr0:0≤r∧r<128:=by omega
   have t0:=hT.sq d (by omega);have t1:=hT.sq (d+1) (by omega);have b0:=Sq.tab_bd d;have b1:=Sq.tab_bd (d+1);have hand:Go.bits .and .i64 x 127=r:=(and_low x 7 (by omega)).trans hr;generalize Sq.tab.getD d 0=p at*;generalize Sq.tab.getD (d+1) 0=q at*;obtain⟨m,hm⟩:∃m:Int,p*(128 - r)=m:=⟨_,rfl⟩;obtain⟨n,hn⟩:∃n:Int,q*r=n:=⟨_,rfl⟩
   have bm:0≤m∧m≤4094*128:=by
    rw[←hm];exact⟨Int.mul_nonneg b0.1 (by omega),Int.mul_le_mul b0.2 (by omega) (by omega) (by omega)⟩
   have bn:0≤n∧n≤4094*128:=by
    rw[←hn];exact⟨Int.mul_nonneg b1.1 (by omega),Int.mul_le_mul b1.2 (by omega) (by omega) (by omega)⟩
   rw[hm,hn] at hs;have HS:=Lib.hid hs;have hm':wrap64 (p*(128 - r))=m:=by rw[hm];unfold wrap64;omega
   have hn':wrap64 (q*r)=n:=by rw[hn];unfold wrap64;omega
   have hx1:(2047:Int)≥x:=by omega
   have hx2: -2047≤x:=by omega
   have hdd:(x+2047+1).tdiv 128=(d:Int):=by rw[Int.tdiv_eq_ediv_of_nonneg (by omega),show x+2047+1=x+2048 by omega,hd]
   have hdd':(x+2047+1) / 128=(d:Int):=by rw[show x+2047+1=x+2048 by omega,hd]
   clear hs hT hm hn hd h1 h2 hr
   go_enter Tryz.func168,Tryz.ntmps168
   go_wp2
   go_quiet (fail)
   go_wp2;go_ret;exact⟨by rw[HS.out];rfl,_,rfl⟩
namespace Sq
def search(p:Int):Nat→Int→Int→Int
 |0,i,_=>i
 |n+1,i,j=>if i<j then(if squash ((i+j) / 2 - 2047)≥p then search p n i ((i+j) / 2) else search p n ((i+j) / 2+1) j) else i
def stretch(p:Int):Int:=search p 12 0 4094 - 2047
theorem search_stop(p:Int)(n:Nat)(i j:Int)(h:¬i<j):search p n i j=i:=by
 cases n with
 |zero=>rfl
 |succ n=>simp only[search];rw[if_neg h]
theorem search_succ(p:Int)(n:Nat)(i j h:Int)(hlt:i<j)(hh:(i+j) / 2=h):search p (n+1) i j=if squash (h - 2047)≥p then search p n i h else search p n (h+1) j:=by
 subst hh;simp only[search];rw[if_pos hlt]
theorem search_bd(p:Int)(n:Nat):∀(i j:Int),i≤j→i≤search p n i j∧search p n i j≤j:=by
 induction n with
 |zero=>intro i j h;exact⟨Int.le_refl _,h⟩
 |succ n ih=>
  intro i j h;simp only[search]
  split
  ·split
   ·have:=ih i ((i+j) / 2) (by omega);omega
   ·have:=ih ((i+j) / 2+1) j (by omega);omega
  ·omega
theorem stretch_bd(p:Int): -2047≤stretch p∧stretch p≤2047:=by
 have:=search_bd p 12 0 4094 (by omega);unfold stretch;omega
end Sq
theorem odd_calls(x p:Int)(B:Nat)(w:World)(hT:Tabs w)(h0:0≤x)(h1:x≤4094)(hc:w.cell? ⟨B,0,none⟩=some (.int .i64 p)):
  Calls Tryz.prog 174 #[.int .i64 x,.pointer (some ⟨B,0,none⟩)] w fun e w'=>e= .returned (.bool (decide (Sq.squash (x - 2047)≥p)))∧∃n,w'=w.drewN n:=by
 have HT:=Z_ hT;clear hT;have hw:IntKind.i64.wrap (x - 2047)=x - 2047:=by rw[IntKind.wrap_i64];omega
 have hS:Calls Tryz.prog 168 #[.int .i64 (x - 2047)] w fun e w'=>e= .returned (.int .i64 (Sq.squash (x - 2047)))∧∃n,w'=w.drewN n:=squash_calls _ w HT.out
 go_enter Tryz.func174,Tryz.ntmps174
 go_wp2
 go_quiet ((go_at_call 168;exact Calls.quiet_of (squash_calls _ _ (by first|exact HT.out|exact⟨HT.out.sq,HT.out.db⟩))))
 go_wp2;go_ret;exact⟨by simp,_,rfl⟩
theorem search_calls(p:Int)(B:Nat)(w:World)(hT:Tabs w)(hc:w.cell? ⟨B,0,none⟩=some (.int .i64 p)):
  Calls Tryz.prog 173 #[.int .i64 4094,.func (.func 174) #[] #[.pointer (some ⟨B,0,none⟩)]] w fun e w'=>e= .returned (.int .i64 (Sq.search p 12 0 4094))∧∃n,w'=w.drewN n:=by
 have HT:=Z_ hT;have HC:=Z_ hc;clear hT hc
 go_enter Tryz.func173,Tryz.ntmps173
 go_wp2
 go_loopg [5,6] 12 (fun d v5 v6 wr=>∃i j:Int,v5= .int .i64 i∧v6= .int .i64 j∧0≤i∧i≤j∧j≤4094∧j - i<2 ^ d∧Aside0 (Sq.search p d i j=Sq.search p 12 0 4094)∧Drawn0 w wr)
 case atStart=>exact⟨0,4094,rfl,rfl,by omega,by omega,by omega,by decide,⟨rfl⟩,Drawn0.refl w⟩
 case round=>
  obtain⟨i,j,rfl,rfl,hi,hij,hj,hd,HS,⟨⟨nn,rfl⟩⟩⟩:=hrel
  by_cases hlt:i<j
  ·cases gk with
   |zero=>exact absurd hd (by simp;omega)
   |succ d=>
    have hpow:(2:Int) ^ (d+1)=2 ^ d*2:=Int.pow_succ 2 d;obtain⟨h,hh⟩:∃h:Int,(i+j) / 2=h:=⟨_,rfl⟩;have hb:0≤h∧h≤4094∧i≤h∧h<j:=by omega
    have hd1:h - i<2 ^ d:=by omega
    have hd2:j - (h+1)<2 ^ d:=by omega
    have HS':=HS.out;rw[Sq.search_succ p d i j h hlt hh] at HS';have hconv:IntKind.u64.wrap (i+j)=i+j:=by rw[IntKind.wrap_u64];omega
    have hconv2:IntKind.i64.wrap h=h:=wi64 h hb.1 (by omega);have hcell:(w.drewN nn).cell? ⟨B,0,none⟩=some (.int .i64 p):=HC.out;have HCell:=Z_ hcell;have hTT:Tabs (w.drewN nn):=⟨HT.out.sq,HT.out.db⟩;have HTT:=Z_ hTT;have hconv3:(i+j) / 2 ^ 1=h:=hh;have HD1:=Lib.hid hd1;have HD2:=Lib.hid hd2;obtain⟨hb0,hb1,hb2,hb3⟩:=hb;clear hcell hTT hd hpow hd1 hd2 HS
    cases hq:decide (Sq.squash (h - 2047)≥p) with
    |true=>
     rw[if_pos (od_ hq)] at HS';have HS2:=Z_ HS';have HB:=Lib.hid hq;clear hq HS'
     go_wp2_with (first|(go_at_call 174;refine(odd_calls h p B _ HTT.out hb0 hb1 HCell.out).mono ?_;rintro e w2 ⟨rfl,⟨n2,rfl⟩⟩;rw[HB.out]))
     go_roundg d
     case measure=>omega
     case rel=>exact⟨i,h,rfl,rfl,hi,hb2,hb1,HD1.out,HS2,⟨⟨nn+n2,rfl⟩⟩⟩
    |false=>
     rw[if_neg (of_decide_eq_false hq)] at HS';have HS2:=Z_ HS';have HB:=Lib.hid hq;have Kl:IntKind.i64.wrap (h+1)=h+1:=wi64 _ (by omega) (by omega);clear hq HS'
     go_wp2_with (first|(go_at_call 174;refine(odd_calls h p B _ HTT.out hb0 hb1 HCell.out).mono ?_;rintro e w2 ⟨rfl,⟨n2,rfl⟩⟩;rw[HB.out]))
     go_roundg d
     case measure=>omega
     case rel=>exact⟨h+1,j,rfl,rfl,by omega,by omega,hj,HD2.out,HS2,⟨⟨nn+n2,rfl⟩⟩⟩
  ·have HS':=HS.out;rw[Sq.search_stop p gk i j hlt] at HS';have HS2:=Lib.hid HS';have hge:j≤i:=by omega
   clear HS' HS hd;go_wp2;go_ret;exact⟨by rw[←HS2.out];rfl,nn,rfl⟩
theorem stretch_calls(p:Int)(w:World)(hT:Tabs w)(h0:0≤p)(h1:p≤4095):Calls Tryz.prog 170 #[.int .i64 p] w fun e w'=>e= .returned (.tuple #[.int .i64 (Sq.stretch p),.int .i64 0])∧Below w.heap.size w w':=by
 have HT:=Z_ (hT.below ((Below.refl _ _).alloc (Nat.le_refl _) (.cells #[.int .i64 p] 3)));have HB:=Sq.search_bd p 12 0 4094 (by omega);have HR:Hid (Sq.stretch p=Sq.search p 12 0 4094 - 2047):=rfl;obtain⟨r,hr⟩:∃r,Sq.search p 12 0 4094=r:=⟨_,rfl⟩;rw[hr] at HB;have HS:=Lib.hid hr;have hw:IntKind.i64.wrap (r - 2047)=r - 2047:=by rw[IntKind.wrap_i64];omega
 clear hT hr
 go_enter Tryz.func170,Tryz.ntmps170
 go_wp2_with (first|(go_at_call 173;refine(search_calls p _ _ HT.out (by simp)).mono ?_;rintro e w2 ⟨rfl,⟨n2,rfl⟩⟩;rw[HS.out]))
 go_ret2;exact⟨by rw[HR.out,HS.out];rfl,pw_below_drewN ((Below.refl _ _).alloc (Nat.le_refl _) _) n2⟩
namespace Sq
def bound(x lo hi:Int):Int:=if(if x<lo then lo else x)>hi then hi else(if x<lo then lo else x)
def sum3(a b c x y z:Int):Int:=a*x+b*y+c*z
def dot(a b c x y z:Int):Int:=bound (squash (sum3 a b c x y z / 65536)) 1 4095
theorem bound_bd(x lo hi:Int)(h:lo≤hi):lo≤bound x lo hi∧bound x lo hi≤hi:=by
 unfold bound
 split<;>split<;>omega
theorem dot_bd(a b c x y z:Int):1≤dot a b c x y z∧dot a b c x y z≤4095:=bound_bd _ 1 4095 (by omega)
theorem mul_bd{a x:Int}(h0: -1048576≤a)(h1:a≤1048576)(g0: -2047≤x)(g1:x≤2047): -2146435072≤a*x∧a*x≤2146435072:=by
 have e1:(a+1048576)*(x+2047)≥0:=Int.mul_nonneg (by omega) (by omega);have e2:(1048576 - a)*(2047 - x)≥0:=Int.mul_nonneg (by omega) (by omega);have e3:(a+1048576)*(2047 - x)≥0:=Int.mul_nonneg (by omega) (by omega);have e4:(1048576 - a)*(x+2047)≥0:=Int.mul_nonneg (by omega) (by omega);simp only[Int.add_mul,Int.sub_mul,Int.mul_add,Int.mul_sub] at e1 e2 e3 e4;omega
end Sq
theorem bound_calls(x lo hi:Int)(w:World):Calls Tryz.prog 167 #[.int .i64 x,.int .i64 lo,.int .i64 hi] w fun e w'=>e= .returned (.int .i64 (Sq.bound x lo hi))∧w=w':=by
 by_cases h1:x<lo
 ·by_cases h2:lo>hi
  ·have HR:=Lib.hid (show Sq.bound x lo hi=hi by unfold Sq.bound;rw[if_pos h1,if_pos h2]);have h2':hi<lo:=h2
   go_enter Tryz.func167,Tryz.ntmps167
   go_wp2;go_ret;exact⟨by rw[HR.out];rfl,rfl⟩
  ·have HR:=Lib.hid (show Sq.bound x lo hi=lo by unfold Sq.bound;rw[if_pos h1,if_neg h2]);have h2':¬hi<lo:=h2
   go_enter Tryz.func167,Tryz.ntmps167
   go_wp2;go_ret;exact⟨by rw[HR.out];rfl,rfl⟩
 ·by_cases h2:x>hi
  ·have HR:=Lib.hid (show Sq.bound x lo hi=hi by unfold Sq.bound;rw[if_neg h1,if_pos h2]);have h2':hi<x:=h2
   go_enter Tryz.func167,Tryz.ntmps167
   go_wp2;go_ret;exact⟨by rw[HR.out];rfl,rfl⟩
  ·have HR:=Lib.hid (show Sq.bound x lo hi=x by unfold Sq.bound;rw[if_neg h1,if_neg h2]);have h2':¬hi<x:=h2
   go_enter Tryz.func167,Tryz.ntmps167
   go_wp2;go_ret;exact⟨by rw[HR.out];rfl,rfl⟩
def v3(a b c:Int):Value:= .agg #[.int .i64 a,.int .i64 b,.int .i64 c]
theorem dot_calls(a b c x y z:Int)(w:World)(hT:Tabs w)(hw: [a,b,c].all weightsOk=true)(hx: [x,y,z].all inputsInOk=true):
  Calls Tryz.prog 152 #[v3 a b c,v3 x y z] w fun e w'=>e= .returned (.tuple #[.int .i64 (Sq.dot a b c x y z),.int .i64 0])∧Below w.heap.size w w':=by
 have HW:=Lib.hid hw;have HX:=Lib.hid hx
 obtain⟨ha,hb,hc⟩:(-1048576≤a∧a≤1048576)∧(-1048576≤b∧b≤1048576)∧(-1048576≤c∧c≤1048576):=by
  simp only[List.all_cons,List.all_nil,Bool.and_true,Bool.and_eq_true] at hw;exact⟨od_ hw.1,od_ hw.2.1,od_ hw.2.2⟩
 obtain⟨hx0,hy0,hz0⟩:(-2047≤x∧x≤2047)∧(-2047≤y∧y≤2047)∧(-2047≤z∧z≤2047):=by
  simp only[List.all_cons,List.all_nil,Bool.and_true,Bool.and_eq_true] at hx;exact⟨od_ hx.1,od_ hx.2.1,od_ hx.2.2⟩
 have m1:=Sq.mul_bd ha.1 ha.2 hx0.1 hx0.2;have m2:=Sq.mul_bd hb.1 hb.2 hy0.1 hy0.2;have m3:=Sq.mul_bd hc.1 hc.2 hz0.1 hz0.2;have HT:=Z_ (hT.below (((Below.refl w.heap.size w).alloc (Nat.le_refl _) (.cells #[.int .i64 a,.int .i64 b,.int .i64 c] 81)).alloc (by simp) (.cells #[.int .i64 x,.int .i64 y,.int .i64 z] 81)));obtain⟨p,hp⟩:∃p,a*x=p:=⟨_,rfl⟩;obtain⟨q,hq⟩:∃q,b*y=q:=⟨_,rfl⟩;obtain⟨r,hr⟩:∃r,c*z=r:=⟨_,rfl⟩;rw[hp] at m1;rw[hq] at m2;rw[hr] at m3
 have HD:Hid (Sq.dot a b c x y z=Sq.bound (Sq.squash ((p+q+r) / 65536)) 1 4095):=by
  rw[←hp,←hq,←hr];rfl
 have hp':IntKind.i64.wrap (a*x)=p:=by rw[hp,IntKind.wrap_i64];omega
 have hq':IntKind.i64.wrap (b*y)=q:=by rw[hq,IntKind.wrap_i64];omega
 have hr':IntKind.i64.wrap (c*z)=r:=by rw[hr,IntKind.wrap_i64];omega
 have i0:∀(A B C:Int) W,(Instr.index 81 (.agg #[.int .i64 A,.int .i64 B,.int .i64 C]) (.int .i64 0)).run Tryz.prog W= .ok (.int .i64 A) W:=fun _ _ _ _=>by kernel_rfl
 have i1:∀(A B C:Int) W,(Instr.index 81 (.agg #[.int .i64 A,.int .i64 B,.int .i64 C]) (.int .i64 1)).run Tryz.prog W= .ok (.int .i64 B) W:=fun _ _ _ _=>by kernel_rfl
 have i2:∀(A B C:Int) W,(Instr.index 81 (.agg #[.int .i64 A,.int .i64 B,.int .i64 C]) (.int .i64 2)).run Tryz.prog W= .ok (.int .i64 C) W:=fun _ _ _ _=>by kernel_rfl
 have CW:=Lib.hid (weights_calls w.heap.size 0 [a,b,c] ((w.alloc (.cells #[.int .i64 a,.int .i64 b,.int .i64 c] 81)).alloc (.cells #[.int .i64 x,.int .i64 y,.int .i64 z] 81)) rfl (by
  intro j hj;have:j=0∨j=1∨j=2:=by omega
  rcases this with rfl|rfl|rfl<;>simp))
 have CX:=Lib.hid (inputsIn_calls (w.heap.size+1) 0 [x,y,z] ((w.alloc (.cells #[.int .i64 a,.int .i64 b,.int .i64 c] 81)).alloc (.cells #[.int .i64 x,.int .i64 y,.int .i64 z] 81)) rfl (by
  intro j hj;have:j=0∨j=1∨j=2:=by omega
  rcases this with rfl|rfl|rfl<;>simp))
 clear hT hw hx hp hq hr;unfold v3
 go_enter Tryz.func152,Tryz.ntmps152
 go_wp2_with (first
  |(go_at_call 165;refine CW.out.mono ?_;rintro e w2 ⟨rfl,rfl⟩;rw[HW.out])
  |(go_at_call 166;refine CX.out.mono ?_;rintro e w2 ⟨rfl,rfl⟩;rw[HX.out]))
 refine wp_loop_rounds 4 ?_;rw[rounds_succ];go_wp2;rw[rounds_succ];go_wp2;rw[rounds_succ];go_wp2;rw[rounds_succ]
 go_wp2_with (first
  |(go_at_call 168;refine(squash_calls _ _ HT.out).mono ?_;rintro e w2 ⟨rfl,⟨n2,rfl⟩⟩)
  |(go_at_call 167;refine(bound_calls _ _ _ _).mono ?_;rintro e w2 ⟨rfl,rfl⟩))
 go_ret2;refine⟨?_,pw_below_drewN (((Below.refl w.heap.size w).alloc (Nat.le_refl _) _).alloc (by simp) _) n2⟩;rw[HD.out];rfl
namespace Sq
def step(a x off:Int):Int:=bound (a+(x*off+512) / 1024) (-1048576) 1048576
theorem mul_bd2{x f:Int}(h0: -2047≤x)(h1:x≤2047)(g0: -4096≤f)(g1:f≤4096): -8384512≤x*f∧x*f≤8384512:=by
 have e1:(x+2047)*(f+4096)≥0:=Int.mul_nonneg (by omega) (by omega);have e2:(2047 - x)*(4096 - f)≥0:=Int.mul_nonneg (by omega) (by omega);have e3:(x+2047)*(4096 - f)≥0:=Int.mul_nonneg (by omega) (by omega);have e4:(2047 - x)*(f+4096)≥0:=Int.mul_nonneg (by omega) (by omega);simp only[Int.add_mul,Int.sub_mul,Int.mul_add,Int.mul_sub] at e1 e2 e3 e4;omega
end Sq
theorem all3{p:Int→Bool}{a b c:Int}(h: [a,b,c].all p=true):p a=true∧p b=true∧p c=true:=by
 simp only[List.all_cons,List.all_nil,Bool.and_true,Bool.and_eq_true] at h;exact h
theorem train_calls(a b c x y z bit:Int)(w:World)(hT:Tabs w)(hw: [a,b,c].all weightsOk=true)(hx: [x,y,z].all inputsInOk=true)(hb:bit=0∨bit=1)(off:Int)(hoff:4096*bit - Sq.dot a b c x y z=off):
  Calls Tryz.prog 154 #[v3 a b c,v3 x y z,.int .i64 bit] w fun e w'=>e= .returned (.tuple #[v3 (Sq.step a x off) (Sq.step b y off) (Sq.step c z off),.int .i64 0])∧Below w.heap.size w w':=by
 have lh:=Tryz.underlying81;have HW:=Lib.hid hw;have HX:=Lib.hid hx;obtain⟨ha,hbb,hc⟩:=all3 hw;have ha:=od_ ha;have hbb:=od_ hbb;have hc:=od_ hc;obtain⟨hx0,hy0,hz0⟩:=all3 hx;have hx0:=od_ hx0;have hy0:=od_ hy0;have hz0:=od_ hz0;have hd:=Sq.dot_bd a b c x y z;have ho: -4096≤off∧off≤4096:=by omega
 have m1:=Sq.mul_bd2 hx0.1 hx0.2 ho.1 ho.2;have m2:=Sq.mul_bd2 hy0.1 hy0.2 ho.1 ho.2;have m3:=Sq.mul_bd2 hz0.1 hz0.2 ho.1 ho.2;obtain⟨p,hp⟩:∃p,x*off=p:=⟨_,rfl⟩;obtain⟨q,hq⟩:∃q,y*off=q:=⟨_,rfl⟩;obtain⟨r,hr⟩:∃r,z*off=r:=⟨_,rfl⟩;obtain⟨dt,hdt⟩:∃d,Sq.dot a b c x y z=d:=⟨_,rfl⟩;rw[hp] at m1;rw[hq] at m2;rw[hr] at m3;have S1:=Lib.hid (show Sq.step a x off=Sq.bound (a+(p+512) / 1024) (-1048576) 1048576 by rw[←hp];rfl);have S2:=Lib.hid (show Sq.step b y off=Sq.bound (b+(q+512) / 1024) (-1048576) 1048576 by rw[←hq];rfl);have S3:=Lib.hid (show Sq.step c z off=Sq.bound (c+(r+512) / 1024) (-1048576) 1048576 by rw[←hr];rfl);have hp':IntKind.i64.wrap (x*off)=p:=by rw[hp,IntKind.wrap_i64];omega
 have hq':IntKind.i64.wrap (y*off)=q:=by rw[hq,IntKind.wrap_i64];omega
 have hr':IntKind.i64.wrap (z*off)=r:=by rw[hr,IntKind.wrap_i64];omega
 have hbm:IntKind.i64.wrap (4096*bit)=4096*bit:=by rw[IntKind.wrap_i64];omega
 have hof':IntKind.i64.wrap (4096*bit - dt)=off:=by rw[←hdt,hoff,IntKind.wrap_i64];omega
 rw[hdt] at hd hoff;have i0:∀(A B C:Int) W,(Instr.index 81 (.agg #[.int .i64 A,.int .i64 B,.int .i64 C]) (.int .i64 0)).run Tryz.prog W= .ok (.int .i64 A) W:=fun _ _ _ _=>by kernel_rfl
 have i1:∀(A B C:Int) W,(Instr.index 81 (.agg #[.int .i64 A,.int .i64 B,.int .i64 C]) (.int .i64 1)).run Tryz.prog W= .ok (.int .i64 B) W:=fun _ _ _ _=>by kernel_rfl
 have i2:∀(A B C:Int) W,(Instr.index 81 (.agg #[.int .i64 A,.int .i64 B,.int .i64 C]) (.int .i64 2)).run Tryz.prog W= .ok (.int .i64 C) W:=fun _ _ _ _=>by kernel_rfl
 have hb0:0≤bit∧bit≤1:=by omega
 have hb1:¬bit<0:=by omega
 have hb2:¬1<bit:=by omega
 have HD:=Lib.hid hdt
 have CD:∀W,Tabs W→Calls Tryz.prog 152 #[v3 a b c,v3 x y z] W fun e w'=>e= .returned (.tuple #[.int .i64 dt,.int .i64 0])∧Below W.heap.size W w':=fun W hW=>by
  have h:=dot_calls a b c x y z W hW hw hx;rw[hdt] at h;exact h
 have HT:=Z_ (hT.below ((((Below.refl w.heap.size w).alloc (Nat.le_refl _) (.cells #[.int .i64 a,.int .i64 b,.int .i64 c] 81)).alloc (by simp) (.cells #[.int .i64 x,.int .i64 y,.int .i64 z] 81)).alloc (by simp;omega) (.cells #[.int .i64 0,.int .i64 0,.int .i64 0] 81)));have Vm:=Lib.hid (CD _ HT.out);clear hT hw hx hp hq hr hdt CD hb hoff;unfold v3 at*
 go_enter Tryz.func154,Tryz.ntmps154
 go_wp2_with fail
 refine Vm.out.mono ?_;rintro e w2 ⟨rfl,hb⟩;obtain⟨hc2,hf2⟩:=bcell hb;have HB:=Z_ hb
 have hz2:w.heap.size+2<w2.heap.size:=by
  have:=hb.size;simp at this;omega
 have hz3:w.heap.size+1<w2.heap.size:=by omega
 have Vn:w.heap.size<w2.heap.size:=by omega
 have Vo:w.heap.size+1+1<w2.heap.size:=by omega
 clear hd ho;go_wp2;refine wp_loop_rounds 4 ?_;rw[rounds_succ]
 go_wp2_with (go_at_call 167;refine(bound_calls _ _ _ _).mono ?_;rintro e w2 ⟨rfl,rfl⟩)
 rw[rounds_succ]
 go_wp2_with (go_at_call 167;refine(bound_calls _ _ _ _).mono ?_;rintro e w2 ⟨rfl,rfl⟩)
 rw[rounds_succ]
 go_wp2_with (go_at_call 167;refine(bound_calls _ _ _ _).mono ?_;rintro e w2 ⟨rfl,rfl⟩)
 have g0:=blk_below (blk_alloc (blk_alloc (blk_new w (.cells #[.int .i64 a,.int .i64 b,.int .i64 c] 81)) _) _) hb;have e2:((w.alloc (.cells #[.int .i64 a,.int .i64 b,.int .i64 c] 81)).alloc (.cells #[.int .i64 x,.int .i64 y,.int .i64 z] 81)).heap.size=w.heap.size+2:=by simp
 have n2:=heap_alloc_new ((w.alloc (.cells #[.int .i64 a,.int .i64 b,.int .i64 c] 81)).alloc (.cells #[.int .i64 x,.int .i64 y,.int .i64 z] 81)) (.cells #[.int .i64 0,.int .i64 0,.int .i64 0] 81);rw[e2] at n2;have g2:=blk_below n2 hb;have B0:=Z_ (blk_set (blk_set (blk_set g0 0 (.int .i64 (Sq.bound (a+(p+512) / 1024) (-1048576) 1048576))) 1 (.int .i64 (Sq.bound (b+(q+512) / 1024) (-1048576) 1048576))) 2 (.int .i64 (Sq.bound (c+(r+512) / 1024) (-1048576) 1048576)));have hne:w.heap.size+2≠w.heap.size:=by omega
 have B2:=Z_ (blk_far (p:=⟨w.heap.size,2,none⟩) (blk_far (p:=⟨w.heap.size,1,none⟩) (blk_far (p:=⟨w.heap.size,0,none⟩) g2 hne (.int .i64 (Sq.bound (a+(p+512) / 1024) (-1048576) 1048576))) hne (.int .i64 (Sq.bound (b+(q+512) / 1024) (-1048576) 1048576))) hne (.int .i64 (Sq.bound (c+(r+512) / 1024) (-1048576) 1048576)));have hle:=Nat.le_refl w.heap.size;have hbw:Below w.heap.size w w2:=(((((Below.refl w.heap.size w).alloc hle _).alloc (by simp) _).alloc (by simp;omega) _)).trans (hb.mono (by simp;omega));have BB:=Z_ (below_set (j:=2) (v:= .int .i64 (Sq.bound (c+(r+512) / 1024) (-1048576) 1048576)) (below_set (j:=1) (v:= .int .i64 (Sq.bound (b+(q+512) / 1024) (-1048576) 1048576)) (below_set (j:=0) (v:= .int .i64 (Sq.bound (a+(p+512) / 1024) (-1048576) 1048576)) hbw hle) hle) hle);clear g0 g2 e2 n2 hc2 hf2 hz2 hz3 Vn Vo hb hbw;generalize ((w2.setCell ⟨w.heap.size,0,none⟩ (.int .i64 (Sq.bound (a+(p+512) / 1024) (-1048576) 1048576))).setCell ⟨w.heap.size,1,none⟩ (.int .i64 (Sq.bound (b+(q+512) / 1024) (-1048576) 1048576))).setCell ⟨w.heap.size,2,none⟩ (.int .i64 (Sq.bound (c+(r+512) / 1024) (-1048576) 1048576))=w3 at B0 B2 BB ⊢;have k0:=blk_cell B0.out 0;have k1:=blk_cell B0.out 1;have k2:=blk_cell B0.out 2;have j0:=blk_cell B2.out 0;have j1:=blk_cell B2.out 1;have j2:=blk_cell B2.out 2;have f2:=blk_frozen B2.out;have l2:=blk_lt B2.out;have e2:w.heap.size+1+1=w.heap.size+2:=rfl;simp at k0 k1 k2 j0 j1 j2;rw[rounds_succ];go_wp2;refine bodyPost_ret (results_ct rfl _ _ (w.heap.size+2) 81 #[.int .i64 (Sq.bound (a+(p+512) / 1024) (-1048576) 1048576),.int .i64 (Sq.bound (b+(q+512) / 1024) (-1048576) 1048576),.int .i64 (Sq.bound (c+(r+512) / 1024) (-1048576) 1048576)] (0,0) _ rfl (blk_put (blk_put (blk_put B2.out 0 _ rfl) 1 _ rfl) 2 _ rfl) Tryz.underlying81 rfl (by kernel_rfl)) rfl ⟨by rw[S1.out,S2.out,S3.out];rfl,?_⟩;exact below_set (below_set (below_set BB.out (by omega)) (by omega)) (by omega)
theorem run_index_ints(t n:Nat)(hu:Tryz.prog.underlying t=some (.array n 3))(xs:List Int)(hl:xs.length=n)(k:Nat)(hk:k<n)(w:World):
  (Instr.index t (.agg (ints xs).toArray) (.int .i64 (k:Int))).run Tryz.prog w= .ok (.int .i64 (xs.getD k 0)) w:=by
 obtain⟨i,hi,hs⟩:∃i,Tryz.prog.info? 3=some i∧i.size=1:=⟨(Tryz.prog.info? 3).get!,by kernel_rfl,by kernel_rfl⟩;have hu3:=Tryz.underlying3;have hg:=ints_get xs k (by omega);have hk':(k:Int)<(n:Int):=by omega
 have hagg:(isAgg 3).run Tryz.prog w= .ok false w:=by
  unfold isAgg;rw[Sem.run_bind,run_underlying hu3 w];rfl
 simp[Instr.index,asIntOf,run_underlying hu,hk,part,sizeOf,typeInfo,hi,hs,hagg,hg,Sem.run_bind]
def MOk(m:List Int):Prop:=m.length=195∧(∀j,j<192→0≤m.getD j 0∧m.getD j 0≤65535)∧(m.drop 192).all weightsOk=true
theorem range_ints{w:World}{g:Nat}{xs:List Int}{t:TypeId}{fr:Nat×Nat}(h:w.heap[g]?=some (.cells (ints xs).toArray t fr))(o n:Nat):w.rangeAt g o (ints ((xs.drop o).take n)):=by
 have:=World.rangeAt_of_block h o n
 have e:((ints xs).toArray.extract o (o+n)).toList=ints ((xs.drop o).take n):=by
  rw[Array.toList_extract,List.extract_eq_take_drop];unfold ints;simp[List.map_drop,List.map_take]
 rwa [e] at this
theorem setCells_blk{g:Nat}{t:TypeId}(vs:List Value):∀(pre old post:List Value) (w:World),w.heap[g]?=some (.cells (pre++old++post).toArray t (0,0))→old.length=vs.length→
  (w.setCells g pre.length vs).heap[g]?=some (.cells (pre++vs++post).toArray t (0,0)):=by
 induction vs with
 |nil=>
  intro pre old post w h hl;obtain rfl:old= []:=List.eq_nil_of_length_eq_zero (by simpa using hl);exact h
 |cons v r ih=>
  intro pre old post w h hl
  obtain⟨x,old',rfl⟩:∃x o',old=x::o':=by
   cases old with
   |nil=>simp at hl
   |cons x o=>exact⟨x,o,rfl⟩
  have h1:=blk_set h pre.length v
  have e:((pre++x::old'++post).toArray.setIfInBounds pre.length v)=((pre++ [v])++old'++post).toArray:=by
   simp
  rw[e] at h1;have h2:=ih (pre++ [v]) old' post (w.setCell ⟨g,pre.length,none⟩ v) h1 (by simpa using hl);rw[List.length_append,List.length_singleton] at h2;simp only[World.setCells];rw[h2];simp
theorem setCells_all{g:Nat}{t:TypeId}{w:World}{old vs:List Value}(h:w.heap[g]?=some (.cells old.toArray t (0,0)))(hl:old.length=vs.length):(w.setCells g 0 vs).heap[g]?=some (.cells vs.toArray t (0,0)):=by
 have:=setCells_blk vs [] old [] w (by simpa using h) hl
 simpa using this
theorem setCells_far{g k:Nat}{t:TypeId}{cs:Array Value}(hne:k≠g)(vs:List Value):∀(w:World) (o:Nat),w.heap[k]?=some (.cells cs t (0,0))→(w.setCells g o vs).heap[k]?=some (.cells cs t (0,0)):=by
 induction vs with
 |nil=>intro w o h;exact h
 |cons v r ih=>intro w o h;exact ih _ (o+1) (blk_far h hne v)
theorem below_setCells{B g:Nat}{w0 w:World}(hb:Below B w0 w)(hg:B≤g)(vs:List Value):∀o,Below B w0 (w.setCells g o vs):=by
 induction vs generalizing w with
 |nil=>intro o;exact hb
 |cons v r ih=>intro o;exact ih (hb.setCell hg _) (o+1)
theorem there_blk{g:Nat}{t:TypeId}{w:World}{vs:List Value}(h:w.heap[g]?=some (.cells vs.toArray t (0,0)))(o n:Nat)(hn:o+n≤vs.length):w.there g o n:=fun j hj=>by
 refine⟨?_,blk_frozen h _⟩;rw[blk_cell h];simp;omega
theorem range_all{w:World}{g:Nat}{vs:List Value}{t:TypeId}{fr:Nat×Nat}(h:w.heap[g]?=some (.cells vs.toArray t fr)):w.rangeAt g 0 vs:=by
 have:=World.rangeAt_of_block h 0 vs.length
 simpa using this
theorem blk_set_ints{w:World}{g:Nat}{t:TypeId}{xs:List Int}(h:w.heap[g]?=some (.cells (ints xs).toArray t (0,0)))(i:Nat)(x:Int):(w.setCell ⟨g,i,none⟩ (.int .i64 x)).heap[g]?=some (.cells (ints (xs.set i x)).toArray t (0,0)):=by
 have:=blk_set h i (.int .i64 x);rw[this];simp[ints,List.map_set]
theorem cell_ints{w:World}{g:Nat}{t:TypeId}{xs:List Int}{fr:Nat×Nat}(h:w.heap[g]?=some (.cells (ints xs).toArray t fr))(i:Nat)(hi:i<xs.length):w.cell? ⟨g,i,none⟩=some (.int .i64 (xs.getD i 0)):=by
 rw[cell_of_row w g i _ t fr h]
 simpa using ints_get xs i hi
theorem getD_set(xs:List Int)(i j:Nat)(x:Int)(hi:i<xs.length):(xs.set i x).getD j 0=if j=i then x else xs.getD j 0:=by
 simp only[gD_,List.getElem?_set]
 by_cases e:i=j
 ·subst e;simp[hi]
 ·have e':¬j=i:=fun h=>e h.symm
  simp[e,e']
theorem getD_drop_take(m:List Int)(o n j:Nat)(hj:j<n):((m.drop o).take n).getD j 0=m.getD (o+j) 0:=by
 simp only[gD_,List.getElem?_take,List.getElem?_drop];rw[if_pos hj]
theorem cmay_calls(c:Int)(w:World)(h0:0≤c)(h1:c≤65535):Calls Tryz.prog 164 #[.int .i64 c] w fun e w'=>e= .returned (.bool true)∧∃n,w'=w.drewN n:=by
 refine(count_May.calls c true w ?_).mono fun e w' hh=>⟨hh.1,hh.2.out⟩
 unfold count_May.f;rw[if_pos h0,dt_ h1]
theorem modMay_calls(m:List Int)(w:World)(h:MOk m):Calls Tryz.prog 150 #[.agg (ints m).toArray] w fun e w'=>e= .returned (.bool true)∧Below w.heap.size w w':=by
 have HM:=Z_ h;have HB0:Aside0 ((w.alloc (.cells (ints m).toArray 83)).heap[w.heap.size]?=some (.cells (ints m).toArray 83 (0,0))):=⟨blk_new w _⟩;clear h
 go_enter Tryz.func150,Tryz.ntmps150
 go_wp2;have HW:Drawn0 (w.alloc (.cells (ints m).toArray 83)) (w.alloc (.cells (ints m).toArray 83)):=Drawn0.refl _;obtain⟨W,hW⟩:∃W,w.alloc (.cells (ints m).toArray 83)=W:=⟨_,rfl⟩;have BW:Aside0 (Below w.heap.size w W):=⟨hW▸(Below.refl _ _).alloc (Nat.le_refl _) _⟩;rw[hW] at HB0 HW ⊢;clear hW
 go_loopg [6] 3 (fun d v6 wr=>∃i:Nat,v6= .int .i64 i∧i+d=3∧Drawn0 W wr)
 case atStart=>exact⟨0,rfl,by omega,HW⟩
 case round=>
  clear HW;obtain⟨i,rfl,hi,⟨⟨n1,rfl⟩⟩⟩:=hrel
  cases gk with
  |zero=>
   obtain rfl:i=3:=by omega
   have hb:=HB0.out
   have CW:=Lib.hid (fun k=>weights_calls w.heap.size 192 (m.drop 192) (W.drewN k) (by rw[List.length_drop,HM.out.1]) (by
    intro j hj;have:=range_ints (w:=W.drewN k) hb 192 3 j;rw[show ints ((m.drop 192).take 3)=ints (m.drop 192) by rw[List.take_of_length_le (by rw[List.length_drop,HM.out.1];omega)],ints_get _ _ (by rw[List.length_drop,HM.out.1];omega)] at this
    exact this _ rfl))
   clear hb
   go_wp2_with (go_at_call 165;refine(CW.out _).mono ?_;rintro e w2 ⟨rfl,rfl⟩;rw[HM.out.2.2])
   go_ret;exact⟨rfl,pw_below_drewN BW.out _⟩
  |succ d=>
   have hlt:i<3:=by omega
   have hlt':(i:Int)<3:=by omega
   have RR:=Lib.hid (fun k=>range_ints (w:=W.drewN k) HB0.out (i*64) 64);obtain⟨row,hrow⟩:∃row,(m.drop (i*64)).take 64=row:=⟨_,rfl⟩;have RL:row.length=64:=by rw[←hrow,List.length_take,List.length_drop,HM.out.1];omega
   have RO:∀j,j<64→0≤row.getD j 0∧row.getD j 0≤65535:=by
    intro j hj;rw[←hrow,getD_drop_take m _ _ _ hj];exact HM.out.2.1 _ (by omega)
   rw[hrow] at RR;have RL:=Lib.hid RL;have RO:=Lib.hid RO;clear hrow
   go_wp2_with (first|((with_reducible refine gate_dst (N:=12) rfl ?_);refine wpList_load_mid rfl 79 _ rfl w.heap.size (i*64) rfl (ints row) _ (RR.out _) Tryz.underlying79 rfl (by rw[ints_len,RL.out];kernel_rfl) ?_))
   go_loopg [13] 64 (fun d2 v13 wr2=>∃j:Nat,v13= .int .i64 j∧j+d2=64∧Drawn0 W wr2)
   case atStart=>exact⟨0,rfl,by omega,⟨⟨n1,rfl⟩⟩⟩
   case round=>
    obtain⟨j,rfl,hj,⟨⟨n2,rfl⟩⟩⟩:=hrel
    cases gk with
    |zero=>
     obtain rfl:j=64:=by omega
     go_wp2
     go_roundg d
     case measure=>omega
     case rel=>exact⟨i+1,by go_num,by omega,⟨⟨n2,rfl⟩⟩⟩
    |succ d2=>
     have hjl:(j:Int)<64:=by omega
     have hix:=fun W=>run_index_ints 79 64 Tryz.underlying79 row RL.out j (by omega) W
     have hb:=RO.out j (by omega)
     go_wp2_with (go_at_call 164;refine(cmay_calls _ _ hb.1 hb.2).mono ?_;rintro e w2 ⟨rfl,⟨n3,rfl⟩⟩)
     go_roundg d2
     case measure=>omega
     case rel=>exact⟨j+1,by go_num,by omega,⟨⟨n2+n3,rfl⟩⟩⟩
theorem cnew_calls(w:World):Calls Tryz.prog 73 #[] w fun e w'=>e= .returned (.int .i64 32768)∧∃n,w'=w.drewN n:=
 (count_New.calls 32768 w rfl).mono fun e w' hh=>⟨hh.1,hh.2.out⟩
def mNew:List Int:=List.replicate 192 32768++ [22000,22000,22000]
theorem eq_of_getD{xs ys:List Int}(hl:xs.length=ys.length)(h:∀k,k<xs.length→xs.getD k 0=ys.getD k 0):xs=ys:=by
 apply List.ext_getElem hl;intro k hk hk2;have:=h k hk;rw[gD_,gE_ hk,gD_,gE_ hk2] at this;exact this
theorem mNew_len:mNew.length=195:=by
 unfold mNew;rw[List.length_append,List.length_replicate];rfl
theorem mNew_lo(j:Nat)(hj:j<192):mNew.getD j 0=32768:=by
 unfold mNew;rw[gD_,List.getElem?_append_left (by rw[List.length_replicate];exact hj),List.getElem?_replicate,if_pos hj];rfl
theorem mNew_hi(r:Nat)(hr:r<3):mNew.getD (192+r) 0=22000:=by
 unfold mNew;rw[gD_,List.getElem?_append_right (by rw[List.length_replicate];omega),List.length_replicate,Nat.add_sub_cancel_left];have:r=0∨r=1∨r=2:=by omega
 rcases this with rfl|rfl|rfl<;>rfl
theorem mNew_of(xs:List Int)(h:xs.length=195)(h1:∀k,k<192→xs.getD k 0=32768)(h2:∀k,k<3→xs.getD (192+k) 0=22000):xs=mNew:=by
 apply eq_of_getD (h.trans mNew_len.symm);intro k hk;rw[h] at hk
 by_cases hk3:k<192
 ·rw[h1 k hk3,mNew_lo k hk3]
 ·obtain⟨r,rfl⟩:∃r,k=192+r:=⟨k - 192,by omega⟩;rw[h2 r (by omega),mNew_hi r (by omega)]
theorem mNew_ok:MOk mNew:=by
 refine⟨mNew_len,?_,?_⟩
 ·intro j hj;rw[mNew_lo j hj];omega
 ·unfold mNew;rw[List.drop_append,List.length_replicate]
  decide+kernel
def mnew.T9:Bool×List (List Nat×List Nat):=(true,[([],[]),([],[]),([],[]),([],[]),([3,0],[0,3]),([4,1,0,1,2],[1,4]),([5,2,2,0,1,2],[2,5])])
def mnew.B9:List Nat:= [0,0,0,0,9,31,63]
theorem mnew.tab9:rtab .any (opsOf Tryz.f38 9)=mnew.T9:=by kernel_rfl
theorem mnew.bits9:waitsOk mnew.T9.2 mnew.B9=true:=by kernel_rfl
theorem modNew_calls(w:World):Calls Tryz.prog 38 #[] w fun e w'=>e= .returned (.agg (ints mNew).toArray)∧Below w.heap.size w w':=by
 have hz:∀W,(zeroValue 83).run Tryz.prog W= .ok (.agg (ints (List.replicate 195 0)).toArray) W:=fun _=>by kernel_rfl
 obtain⟨zz,hzz⟩:∃z,List.replicate 195 (0:Int)=z:=⟨_,rfl⟩;rw[hzz] at hz;have xK:=Tryz.underlying83;have ZL:Hid (zz.length=195):=by rw[←hzz];exact List.length_replicate
 clear hzz
 go_enter Tryz.func38,Tryz.ntmps38
 go_wp2;have X0:Aside0 (((w.alloc (.cells (ints zz).toArray 83)).alloc (.cells (ints zz).toArray 83)).heap[w.heap.size]?=some (.cells (ints zz).toArray 83 (0,0))):=⟨blk_alloc (blk_new w _) _⟩;have X1:Aside0 (((w.alloc (.cells (ints zz).toArray 83)).alloc (.cells (ints zz).toArray 83)).heap[w.heap.size+1]?=some (.cells (ints zz).toArray 83 (0,0))):=⟨heap_alloc2_new w _ _⟩;have XB:Aside0 (Below w.heap.size w ((w.alloc (.cells (ints zz).toArray 83)).alloc (.cells (ints zz).toArray 83))):=⟨((Below.refl _ _).alloc (Nat.le_refl _) _).alloc (by simp) _⟩;generalize (w.alloc (.cells (ints zz).toArray 83)).alloc (.cells (ints zz).toArray 83)=W at X0 X1 XB ⊢;clear hz
 go_loopg [4] 3 (fun d v4 wr=>∃(i:Nat) (xs:List Int),v4= .int .i64 i∧i+d=3∧Aside0 (xs.length=195)∧Aside0 (∀k,k<64*i→xs.getD k 0=32768)∧Aside0 (∀k,k<i→xs.getD (192+k) 0=22000)∧Aside0 (wr.heap[w.heap.size]?=some (.cells (ints zz).toArray 83 (0,0)))∧Aside0 (wr.heap[w.heap.size+1]?=some (.cells (ints xs).toArray 83 (0,0)))∧Aside0 (Below w.heap.size w wr))
 case atStart=>exact⟨0,zz,rfl,by omega,⟨ZL.out⟩,⟨fun k hk=>absurd hk (by omega)⟩,⟨fun k hk=>absurd hk (by omega)⟩,X0,X1,XB⟩
 case round=>
  clear X0 X1 XB;obtain⟨i,xs,rfl,hi,XL,XC,XW,X0,X1,XB⟩:=hrel
  cases gk with
  |zero=>
   obtain rfl:i=3:=by omega
   have hx:=mNew_of xs XL.out (fun k hk=>XC.out k (by omega)) (fun k hk=>XW.out k hk);have hlen:(ints zz).length=(ints mNew).length:=by rw[ints_len,ints_len,ZL.out,mNew_len]
   rw[hx] at X1;have RR:=Lib.hid (range_all X1.out);have TH:=Lib.hid (there_blk X0.out 0 195 (by rw[ints_len,ZL.out];omega));have SZ:Hid ((ints mNew).toArray.size=195):=by show(ints mNew).toArray.size=195;rw[List.size_toArray,ints_len,mNew_len]
   clear hx XC XW
   go_wp2_with (first
    |((with_reducible refine gate_dst (N:=21) rfl ?_);refine wpList_load_mid rfl 83 _ rfl (w.heap.size+1) 0 rfl (ints mNew) _ RR.out Tryz.underlying83 rfl (by rw[ints_len,mNew_len];kernel_rfl) ?_)
    |((with_reducible refine gate_store (t:=83) (p:=0) rfl ?_);refine wpList_store_mid rfl 83 _ _ rfl w.heap.size 0 (ints mNew).toArray rfl rfl (by rw[SZ.out];exact TH.out) (by rw[SZ.out];kernel_rfl) (all_oneCell_toArray (ints_one _)) ?_))
   have h1:=setCells_all (vs:=(ints mNew)) X0.out hlen;have h2:=below_setCells XB.out (Nat.le_refl w.heap.size) (ints mNew) 0;refine bodyPost_ret (results_cell_row rfl _ _ w.heap.size 83 (ints mNew).toArray (0,0) _ rfl h1 Tryz.underlying83 rfl (by rw[SZ.out];kernel_rfl)) rfl ⟨rfl,h2⟩
  |succ d=>
   have hi3:(i:Int)<3:=by omega
   have k1:=cell_ints X1.out (192+i) (by rw[XL.out];omega);have f1:=blk_frozen X1.out;have l1:=blk_lt X1.out;go_wp2;have Y0:=Z_ (blk_far (p:=⟨w.heap.size+1,192+i,none⟩) X0.out (by simp) (.int .i64 22000));have Y1:=Z_ (blk_set_ints X1.out (192+i) 22000);have YB:=Z_ (below_set (j:=192+i) (v:= .int .i64 22000) XB.out (show w.heap.size≤w.heap.size+1 by omega));have YL:Aside0 ((xs.set (192+i) 22000).length=195):=⟨by rw[List.length_set];exact XL.out⟩;have YC:Aside0 (∀k,k<64*i→(xs.set (192+i) 22000).getD k 0=32768):=⟨fun k hk=>by rw[getD_set _ _ _ _ (by rw[XL.out];omega),if_neg (by omega)];exact XC.out k hk⟩
   have YW:Aside0 (∀k,k<i+1→(xs.set (192+i) 22000).getD (192+k) 0=22000):=⟨fun k hk=>by
    rw[getD_set _ _ _ _ (by rw[XL.out];omega)]
    by_cases e:k=i
    ·rw[if_pos (by omega)]
    ·rw[if_neg (by omega)]
     exact XW.out k (by omega)⟩
   clear k1 f1 l1 X0 X1 XB XL XC XW;generalize xs.set (192+i) 22000=ys at Y1 YL YC YW;generalize wr.setCell ⟨w.heap.size+1,192+i,none⟩ (.int .i64 22000)=wy at Y0 Y1 YB ⊢
   go_loopg [10] 64 (fun d2 v10 wr2=>∃(j:Nat) (zs:List Int),v10= .int .i64 j∧j+d2=64∧Aside0 (zs.length=195)∧Aside0 (∀k,k<64*i+j→zs.getD k 0=32768)∧Aside0 (∀k,k<i+1→zs.getD (192+k) 0=22000)∧Aside0 (wr2.heap[w.heap.size]?=some (.cells (ints zz).toArray 83 (0,0)))∧Aside0 (wr2.heap[w.heap.size+1]?=some (.cells (ints zs).toArray 83 (0,0)))∧Aside0 (Below w.heap.size w wr2))
   case atStart=>exact⟨0,ys,rfl,by omega,YL,⟨fun k hk=>YC.out k (by omega)⟩,YW,Y0,Y1,YB⟩
   case round=>
    clear Y0 Y1 YB YL YC YW;obtain⟨j,zs,rfl,hj,YL,YC,YW,Y0,Y1,YB⟩:=hrel
    cases gk with
    |zero=>
     obtain rfl:j=64:=by omega
     go_wp2
     go_roundg d
     case measure=>omega
     case rel=>exact⟨i+1,zs,by go_num,by omega,YL,⟨fun k hk=>YC.out k (by omega)⟩,YW,Y0,Y1,YB⟩
    |succ d2=>
     have Vp:(j:Int)<64:=by omega
     have hi0:(0:Int)≤i:=by omega
     have hj0:(0:Int)≤j:=by omega
     go_wp2;replace Y0:=Z_ (blk_drew Y0.out);replace Y1:=Z_ (blk_drew Y1.out);replace YB:=Z_ (below_drew1 YB.out);refine start_ (n:=7) (S:=fun _=>True) (ds:= [6]) #[false,false,false,false,false,false,false] (by kernel_rfl) rfl rfl trivial (fun hHeld=>?_);refine with_tabW mnew.tab9 mnew.bits9 (fun HT_ HW_=>?_);generalize wr.drew=wq at Y0 Y1 YB hHeld ⊢;refine P_ 0 13 ?_;refine P_ 1 14 ?_;refine P_ 3 16 ?_;refine T_ 4 17 (y:=by rintro w' -;go_simp;with_reducible rfl) (h:=?_);refine O_ 2 15 fun K hK=>?_
     refine goes_ Tryz.func73 (by kernel_rfl) rfl #[] (by rfl) rfl rfl (by(try simp only[List.map_toArray,List.map_cons,List.map_nil]);first|done|rfl) ?_;refine(cnew_calls _).mono ?_;rintro e w' ⟨rfl,⟨n5,rfl⟩⟩;refine⟨_,rfl,?_⟩;refine hK.out _ _ trivial (fun hHeld=>?_);clear hK K;refine Nm_ 15 ?_;refine T_ 5 18 (y:=by rintro w' -;go_simp;with_reducible rfl) (h:=?_);have k1:=cell_ints (blk_drewN Y1.out n5) (i*64+j) (by rw[YL.out];omega);have f1:=blk_frozen (blk_drewN Y1.out n5);have l1:=blk_lt (blk_drewN Y1.out n5);refine last_ (i:=6) (N:=none) #[true,true,true,true,true,true,true] rfl rfl (one_of HT_.out (by kernel_rfl)) (by decide) (fun K hK=>?_);refine skip_ (w1:=?_) (by rfl) rfl ?_ ?_;rotate_left
     ·go_simp
      rfl
     refine hK.out _ _ ?_;clear hK K;refine done_ (done_of HT_.out (by kernel_rfl)) ?_;have Z0:=Z_ (blk_far (p:=⟨w.heap.size+1,i*64+j,none⟩) (blk_drewN Y0.out n5) (by simp) (.int .i64 32768));have Z1:=Z_ (blk_set_ints (blk_drewN Y1.out n5) (i*64+j) 32768);have ZB:=Z_ (below_set (j:=i*64+j) (v:= .int .i64 32768) (pw_below_drewN YB.out n5) (show w.heap.size≤w.heap.size+1 by omega));go_wp2
     go_roundg d2
     case measure=>omega
     case rel=>
      refine⟨j+1,zs.set (i*64+j) 32768,by go_num,by omega,⟨by rw[List.length_set];exact YL.out⟩,⟨fun k hk=>?_⟩,⟨fun k hk=>?_⟩,Z0,Z1,ZB⟩
      ·rw[getD_set _ _ _ _ (by rw[YL.out];omega)]
       by_cases e:k=i*64+j
       ·rw[if_pos e]
       ·rw[if_neg e];exact YC.out k (by omega)
      ·rw[getD_set _ _ _ _ (by rw[YL.out];omega),if_neg (by omega)];exact YW.out k hk
theorem counter_calls(g r c:Nat)(c0 c1 c2:Int)(w:World)(hr:r<3)(hc: [c0,c1,c2].getD r 0=(c:Int))(hc2:c<64):
  Calls Tryz.prog 155 #[.agg #[.pointer (some ⟨g,0,none⟩),.int .i64 c0,.int .i64 c1,.int .i64 c2],.int .i64 r] w fun e w'=>e= .returned (.pointer (some ⟨g,r*64+c,none⟩))∧Below w.heap.size w w':=by
 have xL:=Tryz.underlying218;have jJ:(c:Int)<64:=by omega
 have hc0:(0:Int)≤c:=by omega
 have:r=0∨r=1∨r=2:=by omega
 rcases this with rfl|rfl|rfl
 all_goals
  simp only[List.getD_cons_zero,List.getD_cons_succ] at hc;subst hc;clear hr hc2
  go_enter Tryz.func155,Tryz.ntmps155
  go_wp2
  go_quiet (fail)
  go_wp2;go_ret;refine⟨?_,pw_below_drewN ((Below.refl _ _).alloc (Nat.le_refl _) _) _⟩
  first|rfl|simp
namespace Sq
def cp(a:Int):Int:=bound (a / 16) 1 4095
def inp(a:Int):Int:=stretch (cp a)
theorem cp_bd(a:Int):1≤cp a∧cp a≤4095:=bound_bd _ 1 4095 (by omega)
end Sq
theorem countP_calls(a:Int)(w:World)(h0:0≤a)(h1:a≤65535):Calls Tryz.prog 169 #[.int .i64 a] w fun e w'=>e= .returned (.tuple #[.int .i64 (Sq.cp a),.int .i64 0])∧Below w.heap.size w w':=by
 refine count_P.calls a _ _ w ?_;unfold count_P.f count_May.f;rw[if_pos h0,dt_ h1,bs_,if_pos rfl]
 congr 2
 unfold Sq.cp Sq.bound mn mx
 have e:wrap64 (Int.tdiv a 16)=a / 16:=by
  rw[Int.tdiv_eq_ediv_of_nonneg h0];unfold wrap64;omega
 rw[e]
theorem inputs_calls(g c0 c1 c2:Nat)(a0 a1 a2:Int)(w:World)(hT:Tabs w)(h0:c0<64)(h1:c1<64)(h2:c2<64)
  (k0:w.cell? ⟨g,0*64+c0,none⟩=some (.int .i64 a0)) (k1:w.cell? ⟨g,1*64+c1,none⟩=some (.int .i64 a1)) (k2:w.cell? ⟨g,2*64+c2,none⟩=some (.int .i64 a2))
  (ha0:0≤a0∧a0≤65535) (ha1:0≤a1∧a1≤65535) (ha2:0≤a2∧a2≤65535):
  Calls Tryz.prog 153 #[.agg #[.pointer (some ⟨g,0,none⟩),.int .i64 c0,.int .i64 c1,.int .i64 c2]] w fun e w'=>e= .returned (v3 (Sq.inp a0) (Sq.inp a1) (Sq.inp a2))∧Below w.heap.size w w':=by
 have xL:=Tryz.underlying218;have lh:=Tryz.underlying81;have YB:Aside0 ((((w.alloc (.cells #[.pointer (some ⟨g,0,none⟩),.int .i64 c0,.int .i64 c1,.int .i64 c2] 218)).alloc (.cells #[.int .i64 0,.int .i64 0,.int .i64 0] 81)).alloc (.cells #[.int .i64 0,.int .i64 0,.int .i64 0] 81)).heap[w.heap.size]?=some (.cells #[.pointer (some ⟨g,0,none⟩),.int .i64 c0,.int .i64 c1,.int .i64 c2] 218 (0,0))):=⟨blk_alloc (blk_alloc (blk_new w _) _) _⟩;have YC:Aside0 ((((w.alloc (.cells #[.pointer (some ⟨g,0,none⟩),.int .i64 c0,.int .i64 c1,.int .i64 c2] 218)).alloc (.cells #[.int .i64 0,.int .i64 0,.int .i64 0] 81)).alloc (.cells #[.int .i64 0,.int .i64 0,.int .i64 0] 81)).heap[w.heap.size+1]?=some (.cells #[.int .i64 0,.int .i64 0,.int .i64 0] 81 (0,0))):=⟨blk_alloc (heap_alloc2_new w _ _) _⟩
 have YD:Aside0 ((((w.alloc (.cells #[.pointer (some ⟨g,0,none⟩),.int .i64 c0,.int .i64 c1,.int .i64 c2] 218)).alloc (.cells #[.int .i64 0,.int .i64 0,.int .i64 0] 81)).alloc (.cells #[.int .i64 0,.int .i64 0,.int .i64 0] 81)).heap[w.heap.size+1+1]?=some (.cells #[.int .i64 0,.int .i64 0,.int .i64 0] 81 (0,0))):=by
  have:=blk_new ((w.alloc (.cells #[.pointer (some ⟨g,0,none⟩),.int .i64 c0,.int .i64 c1,.int .i64 c2] 218)).alloc (.cells #[.int .i64 0,.int .i64 0,.int .i64 0] 81)) (.cells #[.int .i64 0,.int .i64 0,.int .i64 0] 81);have e:((w.alloc (.cells #[.pointer (some ⟨g,0,none⟩),.int .i64 c0,.int .i64 c1,.int .i64 c2] 218)).alloc (.cells #[.int .i64 0,.int .i64 0,.int .i64 0] 81)).heap.size=w.heap.size+1+1:=by simp
  rw[e] at this;exact⟨this⟩
 have YW:Aside0 (Below w.heap.size w (((w.alloc (.cells #[.pointer (some ⟨g,0,none⟩),.int .i64 c0,.int .i64 c1,.int .i64 c2] 218)).alloc (.cells #[.int .i64 0,.int .i64 0,.int .i64 0] 81)).alloc (.cells #[.int .i64 0,.int .i64 0,.int .i64 0] 81))):=⟨below_alloc (below_alloc (below_alloc (Below.refl _ _) _) _) _⟩;have K0:=Z_ k0;have K1:=Z_ k1;have K2:=Z_ k2;have HT:=Z_ hT;clear k0 k1 k2 hT
 go_enter Tryz.func153,Tryz.ntmps153
 go_wp2;generalize ((w.alloc (.cells #[.pointer (some ⟨g,0,none⟩),.int .i64 c0,.int .i64 c1,.int .i64 c2] 218)).alloc (.cells #[.int .i64 0,.int .i64 0,.int .i64 0] 81)).alloc (.cells #[.int .i64 0,.int .i64 0,.int .i64 0] 81)=W at YB YC YD YW ⊢;refine wp_loop_rounds 4 ?_;rw[rounds_succ];have bc0:=blk_cell YB.out 0;have bc1:=blk_cell YB.out 1;have bc2:=blk_cell YB.out 2;have bc3:=blk_cell YB.out 3;simp at bc0 bc1 bc2 bc3;have bl:=blk_lt YB.out
 go_wp2_with fail
 refine(counter_calls g 0 c0 c0 c1 c2 _ (by omega) rfl h0).mono ?_;rintro e w1 ⟨rfl,hb⟩;clear bc0 bc1 bc2 bc3 bl;have n0:=Z_ (blk_below YB.out hb);have n1:=Z_ (blk_below YC.out hb);have n2:=Z_ (blk_below YD.out hb);have n3:=Z_ (below_step YW.out hb);clear YB YC YD YW hb;have YB:=n0;have YC:=n1;have YD:=n2;have YW:=n3;clear n0 n1 n2 n3;have kc:=Hc_ YW.out K0.out;simp at kc
 go_wp2_with fail
 refine(countP_calls a0 _ ha0.1 ha0.2).mono ?_;rintro e w2 ⟨rfl,hb⟩;clear kc;have n0:=Z_ (blk_below YB.out hb);have n1:=Z_ (blk_below YC.out hb);have n2:=Z_ (blk_below YD.out hb);have n3:=Z_ (below_step YW.out hb);clear YB YC YD YW hb;have YB:=n0;have YC:=n1;have YD:=n2;have YW:=n3;clear n0 n1 n2 n3
 go_wp2_with fail
 refine(stretch_calls (Sq.cp a0) _ (HT.out.below YW.out) (by have:=Sq.cp_bd a0;omega) (Sq.cp_bd a0).2).mono ?_;rintro e w3 ⟨rfl,hb⟩;have n0:=Z_ (blk_below YB.out hb);have n1:=Z_ (blk_below YC.out hb);have n2:=Z_ (blk_below YD.out hb);have n3:=Z_ (below_step YW.out hb);clear YB YC YD YW hb;have YB:=n0;have YC:=n1;have YD:=n2;have YW:=n3;clear n0 n1 n2 n3;have mZ:=blk_cell YD.out 0;have ng:=blk_cell YD.out 1;have ni:=blk_cell YD.out 2;simp at mZ ng ni;have df:=blk_frozen YD.out;have dl:=blk_lt YD.out
 go_wp2_with fail
 have n0:=Z_ (blk_far (p:=⟨w.heap.size+1+1,0,none⟩) YB.out (by simp;omega) (.int .i64 (Sq.stretch (Sq.cp a0))));have n1:=Z_ (blk_far (p:=⟨w.heap.size+1+1,0,none⟩) YC.out (by simp) (.int .i64 (Sq.stretch (Sq.cp a0))));have n2:=Z_ (blk_set YD.out 0 (.int .i64 (Sq.stretch (Sq.cp a0))));have n3:=Z_ (below_set (j:=0) (v:=(.int .i64 (Sq.stretch (Sq.cp a0)))) YW.out (show w.heap.size≤w.heap.size+1+1 by omega));simp only[List.setIfInBounds_toArray,List.set_cons_zero,List.set_cons_succ] at n2;clear YB YC YD YW mZ ng ni df dl;have YB:=n0;have YC:=n1;have YD:=n2;have YW:=n3;clear n0 n1 n2 n3;generalize w3.setCell ⟨w.heap.size+1+1,0,none⟩ (.int .i64 (Sq.stretch (Sq.cp a0)))=W0 at YB YC YD YW ⊢;rw[rounds_succ];have bc0:=blk_cell YB.out 0;have bc1:=blk_cell YB.out 1;have bc2:=blk_cell YB.out 2;have bc3:=blk_cell YB.out 3;simp at bc0 bc1 bc2 bc3;have bl:=blk_lt YB.out
 go_wp2_with fail
 refine(counter_calls g 1 c1 c0 c1 c2 _ (by omega) rfl h1).mono ?_;rintro e w4 ⟨rfl,hb⟩;clear bc0 bc1 bc2 bc3 bl;have n0:=Z_ (blk_below YB.out hb);have n1:=Z_ (blk_below YC.out hb);have n2:=Z_ (blk_below YD.out hb);have n3:=Z_ (below_step YW.out hb);clear YB YC YD YW hb;have YB:=n0;have YC:=n1;have YD:=n2;have YW:=n3;clear n0 n1 n2 n3;have kc:=Hc_ YW.out K1.out;simp at kc
 go_wp2_with fail
 refine(countP_calls a1 _ ha1.1 ha1.2).mono ?_;rintro e w5 ⟨rfl,hb⟩;clear kc;have n0:=Z_ (blk_below YB.out hb);have n1:=Z_ (blk_below YC.out hb);have n2:=Z_ (blk_below YD.out hb);have n3:=Z_ (below_step YW.out hb);clear YB YC YD YW hb;have YB:=n0;have YC:=n1;have YD:=n2;have YW:=n3;clear n0 n1 n2 n3
 go_wp2_with fail
 refine(stretch_calls (Sq.cp a1) _ (HT.out.below YW.out) (by have:=Sq.cp_bd a1;omega) (Sq.cp_bd a1).2).mono ?_;rintro e w6 ⟨rfl,hb⟩;have n0:=Z_ (blk_below YB.out hb);have n1:=Z_ (blk_below YC.out hb);have n2:=Z_ (blk_below YD.out hb);have n3:=Z_ (below_step YW.out hb);clear YB YC YD YW hb;have YB:=n0;have YC:=n1;have YD:=n2;have YW:=n3;clear n0 n1 n2 n3;have mZ:=blk_cell YD.out 0;have ng:=blk_cell YD.out 1;have ni:=blk_cell YD.out 2;simp at mZ ng ni;have df:=blk_frozen YD.out;have dl:=blk_lt YD.out
 go_wp2_with fail
 have n0:=Z_ (blk_far (p:=⟨w.heap.size+1+1,1,none⟩) YB.out (by simp;omega) (.int .i64 (Sq.stretch (Sq.cp a1))));have n1:=Z_ (blk_far (p:=⟨w.heap.size+1+1,1,none⟩) YC.out (by simp) (.int .i64 (Sq.stretch (Sq.cp a1))));have n2:=Z_ (blk_set YD.out 1 (.int .i64 (Sq.stretch (Sq.cp a1))));have n3:=Z_ (below_set (j:=1) (v:=(.int .i64 (Sq.stretch (Sq.cp a1)))) YW.out (show w.heap.size≤w.heap.size+1+1 by omega));simp only[List.setIfInBounds_toArray,List.set_cons_zero,List.set_cons_succ] at n2;clear YB YC YD YW mZ ng ni df dl;have YB:=n0;have YC:=n1;have YD:=n2;have YW:=n3;clear n0 n1 n2 n3;generalize w6.setCell ⟨w.heap.size+1+1,1,none⟩ (.int .i64 (Sq.stretch (Sq.cp a1)))=W1 at YB YC YD YW ⊢;rw[rounds_succ];have bc0:=blk_cell YB.out 0;have bc1:=blk_cell YB.out 1;have bc2:=blk_cell YB.out 2;have bc3:=blk_cell YB.out 3;simp at bc0 bc1 bc2 bc3;have bl:=blk_lt YB.out
 go_wp2_with fail
 refine(counter_calls g 2 c2 c0 c1 c2 _ (by omega) rfl h2).mono ?_;rintro e w7 ⟨rfl,hb⟩;clear bc0 bc1 bc2 bc3 bl;have n0:=Z_ (blk_below YB.out hb);have n1:=Z_ (blk_below YC.out hb);have n2:=Z_ (blk_below YD.out hb);have n3:=Z_ (below_step YW.out hb);clear YB YC YD YW hb;have YB:=n0;have YC:=n1;have YD:=n2;have YW:=n3;clear n0 n1 n2 n3;have kc:=Hc_ YW.out K2.out;simp at kc
 go_wp2_with fail
 refine(countP_calls a2 _ ha2.1 ha2.2).mono ?_;rintro e w8 ⟨rfl,hb⟩;clear kc;have n0:=Z_ (blk_below YB.out hb);have n1:=Z_ (blk_below YC.out hb);have n2:=Z_ (blk_below YD.out hb);have n3:=Z_ (below_step YW.out hb);clear YB YC YD YW hb;have YB:=n0;have YC:=n1;have YD:=n2;have YW:=n3;clear n0 n1 n2 n3
 go_wp2_with fail
 refine(stretch_calls (Sq.cp a2) _ (HT.out.below YW.out) (by have:=Sq.cp_bd a2;omega) (Sq.cp_bd a2).2).mono ?_;rintro e w9 ⟨rfl,hb⟩;have n0:=Z_ (blk_below YB.out hb);have n1:=Z_ (blk_below YC.out hb);have n2:=Z_ (blk_below YD.out hb);have n3:=Z_ (below_step YW.out hb);clear YB YC YD YW hb;have YB:=n0;have YC:=n1;have YD:=n2;have YW:=n3;clear n0 n1 n2 n3;have mZ:=blk_cell YD.out 0;have ng:=blk_cell YD.out 1;have ni:=blk_cell YD.out 2;simp at mZ ng ni;have df:=blk_frozen YD.out;have dl:=blk_lt YD.out
 go_wp2_with fail
 have n0:=Z_ (blk_far (p:=⟨w.heap.size+1+1,2,none⟩) YB.out (by simp;omega) (.int .i64 (Sq.stretch (Sq.cp a2))));have n1:=Z_ (blk_far (p:=⟨w.heap.size+1+1,2,none⟩) YC.out (by simp) (.int .i64 (Sq.stretch (Sq.cp a2))));have n2:=Z_ (blk_set YD.out 2 (.int .i64 (Sq.stretch (Sq.cp a2))));have n3:=Z_ (below_set (j:=2) (v:=(.int .i64 (Sq.stretch (Sq.cp a2)))) YW.out (show w.heap.size≤w.heap.size+1+1 by omega));simp only[List.setIfInBounds_toArray,List.set_cons_zero,List.set_cons_succ] at n2;clear YB YC YD YW mZ ng ni df dl;have YB:=n0;have YC:=n1;have YD:=n2;have YW:=n3;clear n0 n1 n2 n3;generalize w9.setCell ⟨w.heap.size+1+1,2,none⟩ (.int .i64 (Sq.stretch (Sq.cp a2)))=W2 at YB YC YD YW ⊢;rw[rounds_succ];have mZ:=blk_cell YD.out 0;have ng:=blk_cell YD.out 1;have ni:=blk_cell YD.out 2;simp at mZ ng ni;have df:=blk_frozen YD.out;have dl:=blk_lt YD.out;have vM:=blk_cell YC.out 0;have vN:=blk_cell YC.out 1;have vO:=blk_cell YC.out 2;simp at vM vN vO;have ef:=blk_frozen YC.out;have el:=blk_lt YC.out;go_wp2;refine bodyPost_ret (results_cell_row rfl _ _ (w.heap.size+1) 81 #[.int .i64 (Sq.stretch (Sq.cp a0)),.int .i64 (Sq.stretch (Sq.cp a1)),.int .i64 (Sq.stretch (Sq.cp a2))] (0,0) _ rfl (blk_put (blk_put (blk_put YC.out 0 _ rfl) 1 _ rfl) 2 _ rfl) Tryz.underlying81 rfl (by kernel_rfl)) rfl ⟨rfl,?_⟩;exact below_set (below_set (below_set YW.out (by omega)) (by omega)) (by omega)
namespace Sq
theorem inp_ok(a:Int): -2047≤inp a∧inp a≤2047:=stretch_bd _
end Sq
theorem inps_ok(a b c:Int): [Sq.inp a,Sq.inp b,Sq.inp c].all inputsInOk=true:=by
 simp only[List.all_cons,List.all_nil,Bool.and_true,Bool.and_eq_true];exact⟨dt_ (Sq.inp_ok a),dt_ (Sq.inp_ok b),dt_ (Sq.inp_ok c)⟩
theorem drop3(m:List Int)(h:m.length=195):m.drop 192= [m.getD 192 0,m.getD 193 0,m.getD 194 0]:=by
 apply eq_of_getD (by rw[List.length_drop,h];rfl);intro k hk;rw[List.length_drop,h] at hk;have:k=0∨k=1∨k=2:=by omega
 rcases this with rfl|rfl|rfl<;>simp[gD_,List.getElem?_drop]
theorem MOk.w3{m:List Int}(h:MOk m): [m.getD 192 0,m.getD 193 0,m.getD 194 0].all weightsOk=true:=by
 rw[←drop3 m h.1];exact h.2.2
def mP(m:List Int)(c0 c1 c2:Nat):Int:=Sq.dot (m.getD 192 0) (m.getD 193 0) (m.getD 194 0) (Sq.inp (m.getD c0 0)) (Sq.inp (m.getD (64+c1) 0)) (Sq.inp (m.getD (128+c2) 0))
theorem mP_bd(m:List Int)(c0 c1 c2:Nat):1≤mP m c0 c1 c2∧mP m c0 c1 c2≤4095:=Sq.dot_bd _ _ _ _ _ _
theorem thereAll(c0 c1 c2:Nat)(h0:c0<64)(h1:c1<64)(h2:c2<64): [(c0:Int),(c1:Int),(c2:Int)].all thereOk=true:=by
 simp only[List.all_cons,List.all_nil,Bool.and_true,Bool.and_eq_true];exact⟨dt_ (by omega),dt_ (by omega),dt_ (by omega)⟩
def modP.T3:Bool×List (List Nat×List Nat):=(true,[([],[]),([0],[0]),([],[]),([2],[2]),([3],[3]),([1,4,4],[1,4]),([5],[5]),([6],[6]),([6],[6]),([7,5,0,1,2,3,4,5,6,7],[7]),([8,9,0,1,2,3,4,5,6,7,8,9],[8])])
def modP.B3:List Nat:= [0,1,0,4,12,31,63,127,127,255,1023]
theorem modP.tab3:rtab .any (opsOf Tryz.f133 3)=modP.T3:=by kernel_rfl
theorem modP.bits3:waitsOk modP.T3.2 modP.B3=true:=by kernel_rfl
theorem modP_calls(m:List Int)(c0 c1 c2:Nat)(w:World)(hT:Tabs w)(h:MOk m)(h0:c0<64)(h1:c1<64)(h2:c2<64):
  Calls Tryz.prog 133 #[.agg (ints m).toArray,.agg #[.int .i64 c0,.int .i64 c1,.int .i64 c2]] w fun e w'=>e= .returned (.tuple #[.int .i64 (mP m c0 c1 c2),.int .i64 0])∧Below w.heap.size w w':=by
 have xK:=Tryz.underlying83;have lh:=Tryz.underlying81;have xL:=Tryz.underlying218;have HM:=Z_ h;have HW3:=Z_ h.w3;have HT:=Z_ hT;have TA:=Lib.hid (thereAll c0 c1 c2 h0 h1 h2);have YA:Aside0 (((w.alloc (.cells (ints m).toArray 83)).alloc (.cells #[.int .i64 c0,.int .i64 c1,.int .i64 c2] 81)).heap[w.heap.size]?=some (.cells (ints m).toArray 83 (0,0))):=⟨blk_alloc (blk_new w _) _⟩;have YB:Aside0 (((w.alloc (.cells (ints m).toArray 83)).alloc (.cells #[.int .i64 c0,.int .i64 c1,.int .i64 c2] 81)).heap[w.heap.size+1]?=some (.cells #[.int .i64 c0,.int .i64 c1,.int .i64 c2] 81 (0,0))):=⟨heap_alloc2_new w _ _⟩;have YW:Aside0 (Below w.heap.size w ((w.alloc (.cells (ints m).toArray 83)).alloc (.cells #[.int .i64 c0,.int .i64 c1,.int .i64 c2] 81))):=⟨below_alloc (below_alloc (Below.refl _ _) _) _⟩;have RM:=Lib.hid (range_all YA.out);clear hT h
 go_enter Tryz.func133,Tryz.ntmps133
 go_wp2_with ((with_reducible refine gate_dst (N:=8) rfl ?_);refine wpList_load_mid rfl 83 _ rfl w.heap.size 0 rfl (ints m) _ RM.out Tryz.underlying83 rfl (by rw[ints_len,HM.out.1];kernel_rfl) ?_)
 clear RM;generalize (w.alloc (.cells (ints m).toArray 83)).alloc (.cells #[.int .i64 c0,.int .i64 c1,.int .i64 c2] 81)=W at YA YB YW ⊢;refine(modMay_calls m _ HM.out).mono ?_;rintro e w1 ⟨rfl,hb⟩;have n0:=Z_ (blk_below YA.out hb);have n1:=Z_ (blk_below YB.out hb);have n2:=Z_ (below_step YW.out hb);clear YA YB YW hb;have YA:=n0;have YB:=n1;have YW:=n2;clear n0 n1 n2
 go_wp2_with fail
 refine(there_calls (w.heap.size+1) 0 [c0,c1,c2] w1 rfl (by
  intro j hj;rw[Nat.zero_add,blk_cell YB.out];have:j=0∨j=1∨j=2:=by omega
  rcases this with rfl|rfl|rfl<;>rfl)).mono ?_
 rintro e w2 ⟨rfl,rfl⟩;rw[TA.out];go_wp2;replace YA:=Z_ (blk_drew YA.out);replace YB:=Z_ (blk_drew YB.out);replace YW:=Z_ (below_drew1 YW.out);refine start_ (n:=11) (S:=fun w'=>w'.heap[w.heap.size]?=some (.cells (ints m).toArray 83 (0,0))∧w'.heap[w.heap.size+1]?=some (.cells #[.int .i64 c0,.int .i64 c1,.int .i64 c2] 81 (0,0))) (ds:= []) #[false,false,false,false,false,false,false,false,false,false,false] (by kernel_rfl) rfl rfl ⟨YA.out,YB.out⟩ (fun hHeld=>?_);refine with_tabW modP.tab3 modP.bits3 (fun HT_ HW_=>?_);generalize World.drew _=wq at YA YB YW hHeld ⊢;refine P_ 0 16 ?_;refine T_ 1 17 (y:=by rintro w' ⟨s0,s1⟩;have q0:=cell_ints s0 192 (by rw[HM.out.1];omega);have q1:=cell_ints s0 193 (by rw[HM.out.1];omega);have q2:=cell_ints s0 194 (by rw[HM.out.1];omega);have r0:=blk_cell s1 0;have r1:=blk_cell s1 1;have r2:=blk_cell s1 2;simp at r0 r1 r2;go_simp;with_reducible rfl) (h:=?_);refine T_ 2 18 (y:=by rintro w' ⟨s0,s1⟩;have q0:=cell_ints s0 192 (by rw[HM.out.1];omega);have q1:=cell_ints s0 193 (by rw[HM.out.1];omega);have q2:=cell_ints s0 194 (by rw[HM.out.1];omega);have r0:=blk_cell s1 0;have r1:=blk_cell s1 1;have r2:=blk_cell s1 2;simp at r0 r1 r2;go_simp;with_reducible rfl) (h:=?_);refine P_ 3 19 ?_;refine O_ 4 20 fun K hK=>?_
 refine goes_ Tryz.func153 (by kernel_rfl) rfl #[.agg #[.pointer (some ⟨w.heap.size,0,none⟩),.int .i64 c0,.int .i64 c1,.int .i64 c2]] (by rfl) rfl rfl (by(try simp only[List.map_toArray,List.map_cons,List.map_nil]);first|done|rfl) ?_;refine(inputs_calls w.heap.size c0 c1 c2 (m.getD c0 0) (m.getD (64+c1) 0) (m.getD (128+c2) 0) _ (HT.out.below YW.out) h0 h1 h2 (by rw[Nat.zero_mul,Nat.zero_add];exact cell_ints YA.out c0 (by rw[HM.out.1];omega)) (by rw[Nat.one_mul];exact cell_ints YA.out (64+c1) (by rw[HM.out.1];omega)) (cell_ints YA.out (128+c2) (by rw[HM.out.1];omega)) (HM.out.2.1 _ (by omega)) (HM.out.2.1 _ (by omega)) (HM.out.2.1 _ (by omega))).mono ?_;rintro e w7 ⟨rfl,hb⟩;refine⟨_,rfl,?_⟩;have n0:=Z_ (blk_below YA.out hb);have n1:=Z_ (blk_below YB.out hb);have n2:=Z_ (below_step YW.out hb);clear YA YB YW hb;have YA:=n0;have YB:=n1;have YW:=n2;clear n0 n1 n2;refine hK.out _ _ ⟨YA.out,YB.out⟩ (fun hHeld=>?_);clear hK K;refine Nm_ 20 ?_;refine O_ 5 21 fun K hK=>?_
 refine goes_ Tryz.func152 (by kernel_rfl) rfl #[.agg #[.int .i64 (m.getD 192 0),.int .i64 (m.getD 193 0),.int .i64 (m.getD 194 0)],.agg #[.int .i64 (Sq.inp (m.getD c0 0)),.int .i64 (Sq.inp (m.getD (64+c1) 0)),.int .i64 (Sq.inp (m.getD (128+c2) 0))]] (by rfl) rfl rfl (by(try simp only[List.map_toArray,List.map_cons,List.map_nil]);first|done|rfl) ?_;refine(dot_calls (m.getD 192 0) (m.getD 193 0) (m.getD 194 0) (Sq.inp (m.getD c0 0)) (Sq.inp (m.getD (64+c1) 0)) (Sq.inp (m.getD (128+c2) 0)) _ (HT.out.below YW.out) HW3.out (inps_ok _ _ _)).mono ?_;rintro e w8 ⟨rfl,hb⟩;refine⟨_,rfl,?_⟩;have n0:=Z_ (blk_below YA.out hb);have n1:=Z_ (blk_below YB.out hb);have n2:=Z_ (below_step YW.out hb);clear YA YB YW hb;have YA:=n0;have YB:=n1;have YW:=n2;clear n0 n1 n2;refine hK.out _ _ ⟨YA.out,YB.out⟩ (fun hHeld=>?_);clear hK K;refine Nm_ 21 ?_;refine P_ 6 15 ?_;refine P_ 7 22 ?_;refine P_ 8 23 ?_;refine P_ 9 6 ?_;refine P_ 10 7 ?_;refine done_ (done_of HT_.out (by kernel_rfl)) ?_;go_wp2;go_ret2;exact⟨rfl,YW.out⟩
namespace Sq
def next(c bit:Int):Int:=if bit=1 then c+(65535 - c) / 16 else c - c / 16
theorem next_bd(c bit:Int)(h0:0≤c)(h1:c≤65535):0≤next c bit∧next c bit≤65535:=by
 unfold next
 split<;>omega
theorem step_ok(a x off:Int):weightsOk (step a x off)=true:=dt_ (bound_bd _ _ _ (by omega))
end Sq
theorem next_calls(c bit:Int)(w:World)(h0:0≤c)(h1:c≤65535)(hb:bit=0∨bit=1):Calls Tryz.prog 156 #[.int .i64 c,.int .i64 bit] w fun e w'=>e= .returned (.tuple #[.int .i64 (Sq.next c bit),.int .i64 0])∧∃n,w'=w.drewN n:=by
 refine(count_Next.calls 2 c bit _ _ w ?_).mono fun e w' hh=>⟨hh.1,hh.2.out⟩
 unfold count_Next.f count_May.f
 have e1:wrap64 (Int.tdiv (wrap64 (65535 - c)) 16)=(65535 - c) / 16:=by
  have:wrap64 (65535 - c)=65535 - c:=by unfold wrap64;omega
  rw[this,Int.tdiv_eq_ediv_of_nonneg (by omega)];unfold wrap64;omega
 have e2:wrap64 (Int.tdiv c 16)=c / 16:=by
  rw[Int.tdiv_eq_ediv_of_nonneg h0];unfold wrap64;omega
 have e3:wrap64 (c+(65535 - c) / 16)=c+(65535 - c) / 16:=by unfold wrap64;omega
 have e4:wrap64 (c - c / 16)=c - c / 16:=by unfold wrap64;omega
 rw[if_pos h0,dt_ h1,bs_,if_pos rfl,if_neg (by omega),df_ (by omega)];simp only[count_Next.j0];rw[if_neg (by decide),e1,e2,e3,e4];unfold Sq.next
 rcases hb with rfl|rfl
 ·rw[if_neg (by decide),if_neg (by decide)]
 ·rw[if_pos rfl,if_pos rfl]
def mLearn(m:List Int)(c0 c1 c2:Nat)(bit:Int):List Int:=
 ((((((m.set 192 (Sq.step (m.getD 192 0) (Sq.inp (m.getD c0 0)) (4096*bit - mP m c0 c1 c2))).set 193 (Sq.step (m.getD 193 0) (Sq.inp (m.getD (64+c1) 0)) (4096*bit - mP m c0 c1 c2))).set 194 (Sq.step (m.getD 194 0) (Sq.inp (m.getD (128+c2) 0)) (4096*bit - mP m c0 c1 c2))).set c0 (Sq.next (m.getD c0 0) bit)).set (64+c1) (Sq.next (m.getD (64+c1) 0) bit)).set (128+c2) (Sq.next (m.getD (128+c2) 0) bit))
theorem mLearn_ok{m:List Int}{c0 c1 c2:Nat}{bit:Int}(h:MOk m)(h0:c0<64)(h1:c1<64)(h2:c2<64):MOk (mLearn m c0 c1 c2 bit):=by
 have hl:(mLearn m c0 c1 c2 bit).length=195:=by unfold mLearn;simp only[List.length_set];exact h.1
 have hg:∀j,(mLearn m c0 c1 c2 bit).getD j 0=if j=128+c2 then Sq.next (m.getD (128+c2) 0) bit else if j=64+c1 then Sq.next (m.getD (64+c1) 0) bit else if j=c0 then Sq.next (m.getD c0 0) bit else if j=194 then Sq.step (m.getD 194 0) (Sq.inp (m.getD (128+c2) 0)) (4096*bit - mP m c0 c1 c2) else if j=193 then Sq.step (m.getD 193 0) (Sq.inp (m.getD (64+c1) 0)) (4096*bit - mP m c0 c1 c2) else if j=192 then Sq.step (m.getD 192 0) (Sq.inp (m.getD c0 0)) (4096*bit - mP m c0 c1 c2) else m.getD j 0:=by
  intro j;unfold mLearn;rw[getD_set _ _ _ _ (by simp only[List.length_set];rw[h.1];omega),getD_set _ _ _ _ (by simp only[List.length_set];rw[h.1];omega),getD_set _ _ _ _ (by simp only[List.length_set];rw[h.1];omega),getD_set _ _ _ _ (by simp only[List.length_set];rw[h.1];omega),getD_set _ _ _ _ (by simp only[List.length_set];rw[h.1];omega),getD_set _ _ _ _ (by rw[h.1];omega)]
 refine⟨hl,?_,?_⟩
 ·intro j hj;rw[hg j];have n2:=h.2.1 (128+c2) (by omega);have n1:=h.2.1 (64+c1) (by omega);have n0:=h.2.1 c0 (by omega)
  split
  ·exact Sq.next_bd _ _ n2.1 n2.2
  ·split
   ·exact Sq.next_bd _ _ n1.1 n1.2
   ·split
    ·exact Sq.next_bd _ _ n0.1 n0.2
    ·rw[if_neg (by omega),if_neg (by omega),if_neg (by omega)];exact h.2.1 j hj
 ·rw[drop3 _ hl,hg 192,hg 193,hg 194];rw[if_neg (by omega),if_neg (by omega),if_neg (by omega),if_neg (by omega),if_neg (by omega),if_pos rfl,if_neg (by omega),if_neg (by omega),if_neg (by omega),if_neg (by omega),if_pos rfl,if_neg (by omega),if_neg (by omega),if_neg (by omega),if_pos rfl];simp only[List.all_cons,List.all_nil,Bool.and_true,Bool.and_eq_true];exact⟨Sq.step_ok _ _ _,Sq.step_ok _ _ _,Sq.step_ok _ _ _⟩
def modL.T4:Bool×List (List Nat×List Nat):=(true,[([],[]),([0],[0]),([],[]),([2],[2]),([],[]),([1,3,4,3],[1,3,4]),([5],[5]),([6],[6]),([6],[6]),([0,1,2,3,4,5,6,7],[]),([9,7,5,0,1,2,3,4,5,6,7],[7,9])])
def modL.B4:List Nat:= [0,1,0,4,0,31,63,127,127,255,767]
theorem modL.tab4:rtab .any (opsOf Tryz.f138 4)=modL.T4:=by kernel_rfl
theorem modL.bits4:waitsOk modL.T4.2 modL.B4=true:=by kernel_rfl
theorem modLearn_calls(m:List Int)(c0 c1 c2:Nat)(bit:Int)(w:World)(hT:Tabs w)(h:MOk m)(h0:c0<64)(h1:c1<64)(h2:c2<64)(hbit:bit=0∨bit=1):
  Calls Tryz.prog 138 #[.agg (ints m).toArray,.agg #[.int .i64 c0,.int .i64 c1,.int .i64 c2],.int .i64 bit] w fun e w'=>e= .returned (.tuple #[.agg (ints (mLearn m c0 c1 c2 bit)).toArray,.int .i64 0])∧Below w.heap.size w w':=by
 have xK:=Tryz.underlying83;have lh:=Tryz.underlying81;have xL:=Tryz.underlying218;have HM:=Z_ h;have HW3:=Z_ h.w3;have HT:=Z_ hT;have HBit:=Z_ hbit;have TA:=Lib.hid (thereAll c0 c1 c2 h0 h1 h2);obtain⟨off,hoff⟩:∃o,4096*bit - mP m c0 c1 c2=o:=⟨_,rfl⟩;have HO:=Lib.hid hoff;obtain⟨res,hres⟩:∃x,mLearn m c0 c1 c2 bit=x:=⟨_,rfl⟩;have RES:=Lib.hid hres;rw[hres];clear hres;have hb1:¬bit<0:=by omega
 have hb2:¬1<bit:=by omega
 have hz:∀W,(zeroValue 83).run Tryz.prog W= .ok (.agg (ints (List.replicate 195 0)).toArray) W:=fun _=>by kernel_rfl
 obtain⟨zz,hzz⟩:∃z,List.replicate 195 (0:Int)=z:=⟨_,rfl⟩;rw[hzz] at hz;have ZL:Hid (zz.length=195):=by rw[←hzz];exact List.length_replicate
 have YA:Aside0 ((((w.alloc (.cells (ints m).toArray 83)).alloc (.cells #[.int .i64 c0,.int .i64 c1,.int .i64 c2] 81)).alloc (.cells (ints zz).toArray 83)).heap[w.heap.size]?=some (.cells (ints m).toArray 83 (0,0))):=⟨blk_alloc (blk_alloc (blk_new w _) _) _⟩;have YB:Aside0 ((((w.alloc (.cells (ints m).toArray 83)).alloc (.cells #[.int .i64 c0,.int .i64 c1,.int .i64 c2] 81)).alloc (.cells (ints zz).toArray 83)).heap[w.heap.size+1]?=some (.cells #[.int .i64 c0,.int .i64 c1,.int .i64 c2] 81 (0,0))):=⟨blk_alloc (heap_alloc2_new w _ _) _⟩
 have YC:Aside0 ((((w.alloc (.cells (ints m).toArray 83)).alloc (.cells #[.int .i64 c0,.int .i64 c1,.int .i64 c2] 81)).alloc (.cells (ints zz).toArray 83)).heap[w.heap.size+1+1]?=some (.cells (ints zz).toArray 83 (0,0))):=by
  have:=blk_new ((w.alloc (.cells (ints m).toArray 83)).alloc (.cells #[.int .i64 c0,.int .i64 c1,.int .i64 c2] 81)) (.cells (ints zz).toArray 83);have e:((w.alloc (.cells (ints m).toArray 83)).alloc (.cells #[.int .i64 c0,.int .i64 c1,.int .i64 c2] 81)).heap.size=w.heap.size+1+1:=by simp
  rw[e] at this;exact⟨this⟩
 have YW:Aside0 (Below w.heap.size w (((w.alloc (.cells (ints m).toArray 83)).alloc (.cells #[.int .i64 c0,.int .i64 c1,.int .i64 c2] 81)).alloc (.cells (ints zz).toArray 83))):=⟨below_alloc (below_alloc (below_alloc (Below.refl _ _) _) _) _⟩;have RM:=Lib.hid (range_all YA.out);clear hT h hoff hbit hzz
 go_enter Tryz.func138,Tryz.ntmps138
 go_wp2_with ((with_reducible refine gate_dst (N:=11) rfl ?_);refine wpList_load_mid rfl 83 _ rfl w.heap.size 0 rfl (ints m) _ RM.out Tryz.underlying83 rfl (by rw[ints_len,HM.out.1];kernel_rfl) ?_)
 clear RM hz;generalize ((w.alloc (.cells (ints m).toArray 83)).alloc (.cells #[.int .i64 c0,.int .i64 c1,.int .i64 c2] 81)).alloc (.cells (ints zz).toArray 83)=W at YA YB YC YW ⊢;refine(modMay_calls m _ HM.out).mono ?_;rintro e w1 ⟨rfl,hb⟩;have n0:=Z_ (blk_below YA.out hb);have n1:=Z_ (blk_below YB.out hb);have n2:=Z_ (blk_below YC.out hb);have n9:=Z_ (below_step YW.out hb);clear YA YB YC YW hb;have YA:=n0;have YB:=n1;have YC:=n2;have YW:=n9;clear n0 n1 n2 n9
 go_wp2_with fail
 refine(there_calls (w.heap.size+1) 0 [c0,c1,c2] w1 rfl (by
  intro j hj;rw[Nat.zero_add,blk_cell YB.out];have:j=0∨j=1∨j=2:=by omega
  rcases this with rfl|rfl|rfl<;>rfl)).mono ?_
 rintro e w2 ⟨rfl,rfl⟩;rw[TA.out];have Tc:=blk_cell YB.out 0;have Td:=blk_cell YB.out 1;have Te:=blk_cell YB.out 2;simp at Tc Td Te;have hz1:w.heap.size+1<w1.heap.size:=blk_lt YB.out;have hz2:w.heap.size+1+1<w1.heap.size:=blk_lt YC.out;go_wp2;have YD:Aside0 ((w1.alloc (.cells #[.pointer (some ⟨w.heap.size,0,none⟩),.int .i64 c0,.int .i64 c1,.int .i64 c2] 218)).drew.heap[w1.heap.size]?=some (.cells #[.pointer (some ⟨w.heap.size,0,none⟩),.int .i64 c0,.int .i64 c1,.int .i64 c2] 218 (0,0))):=⟨blk_drew (blk_new w1 _)⟩;replace YA:=Z_ (blk_drew (blk_alloc YA.out (.cells #[.pointer (some ⟨w.heap.size,0,none⟩),.int .i64 c0,.int .i64 c1,.int .i64 c2] 218)));replace YC:=Z_ (blk_drew (blk_alloc YC.out (.cells #[.pointer (some ⟨w.heap.size,0,none⟩),.int .i64 c0,.int .i64 c1,.int .i64 c2] 218)));replace YW:=Z_ (below_drew1 (below_alloc YW.out (.cells #[.pointer (some ⟨w.heap.size,0,none⟩),.int .i64 c0,.int .i64 c1,.int .i64 c2] 218)));have hg1:w.heap.size<w1.heap.size:=by omega
 clear YB Tc Td Te;generalize w1.heap.size=gd at YD hz1 hz2 hg1 ⊢;refine start_ (n:=11) (S:=fun w'=>w'.heap[w.heap.size]?=some (.cells (ints m).toArray 83 (0,0))∧w'.heap[gd]?=some (.cells #[.pointer (some ⟨w.heap.size,0,none⟩),.int .i64 c0,.int .i64 c1,.int .i64 c2] 218 (0,0))) (ds:= [10]) #[false,false,false,false,false,false,false,false,false,false,false] (by kernel_rfl) rfl rfl ⟨YA.out,YD.out⟩ (fun hHeld=>?_);refine with_tabW modL.tab4 modL.bits4 (fun HT_ HW_=>?_);generalize World.drew _=wq at YA YC YD YW hHeld ⊢;refine P_ 0 30 ?_;refine P_ 4 34 ?_;refine T_ 1 31 (y:=by rintro w' ⟨s0,s1⟩;have q0:=cell_ints s0 192 (by rw[HM.out.1];omega);have q1:=cell_ints s0 193 (by rw[HM.out.1];omega);have q2:=cell_ints s0 194 (by rw[HM.out.1];omega);have r0:=blk_cell s1 0;have r1:=blk_cell s1 1;have r2:=blk_cell s1 2;have r3:=blk_cell s1 3;simp at r0 r1 r2 r3;go_simp;with_reducible rfl) (h:=?_);refine T_ 2 32 (y:=by rintro w' ⟨s0,s1⟩;have q0:=cell_ints s0 192 (by rw[HM.out.1];omega);have q1:=cell_ints s0 193 (by rw[HM.out.1];omega);have q2:=cell_ints s0 194 (by rw[HM.out.1];omega);have r0:=blk_cell s1 0;have r1:=blk_cell s1 1;have r2:=blk_cell s1 2;have r3:=blk_cell s1 3;simp at r0 r1 r2 r3;go_simp;with_reducible rfl) (h:=?_);refine O_ 3 33 fun K hK=>?_
 refine goes_ Tryz.func153 (by kernel_rfl) rfl #[.agg #[.pointer (some ⟨w.heap.size,0,none⟩),.int .i64 c0,.int .i64 c1,.int .i64 c2]] (by rfl) rfl rfl (by(try simp only[List.map_toArray,List.map_cons,List.map_nil]);first|done|rfl) ?_;refine(inputs_calls w.heap.size c0 c1 c2 (m.getD c0 0) (m.getD (64+c1) 0) (m.getD (128+c2) 0) _ (HT.out.below YW.out) h0 h1 h2 (by rw[Nat.zero_mul,Nat.zero_add];exact cell_ints YA.out c0 (by rw[HM.out.1];omega)) (by rw[Nat.one_mul];exact cell_ints YA.out (64+c1) (by rw[HM.out.1];omega)) (cell_ints YA.out (128+c2) (by rw[HM.out.1];omega)) (HM.out.2.1 _ (by omega)) (HM.out.2.1 _ (by omega)) (HM.out.2.1 _ (by omega))).mono ?_;rintro e w7 ⟨rfl,hb⟩;refine⟨_,rfl,?_⟩;have n0:=Z_ (blk_below YA.out hb);have n1:=Z_ (blk_below YC.out hb);have n2:=Z_ (blk_below YD.out hb);have n9:=Z_ (below_step YW.out hb);clear YA YC YD YW hb;have YA:=n0;have YC:=n1;have YD:=n2;have YW:=n9;clear n0 n1 n2 n9;refine hK.out _ _ ⟨YA.out,YD.out⟩ (fun hHeld=>?_);clear hK K;refine Nm_ 33 ?_;refine O_ 5 35 fun K hK=>?_
 refine goes_ Tryz.func154 (by kernel_rfl) rfl #[.agg #[.int .i64 (m.getD 192 0),.int .i64 (m.getD 193 0),.int .i64 (m.getD 194 0)],.agg #[.int .i64 (Sq.inp (m.getD c0 0)),.int .i64 (Sq.inp (m.getD (64+c1) 0)),.int .i64 (Sq.inp (m.getD (128+c2) 0))],.int .i64 bit] (by rfl) rfl rfl (by(try simp only[List.map_toArray,List.map_cons,List.map_nil]);first|done|rfl) ?_;refine(train_calls (m.getD 192 0) (m.getD 193 0) (m.getD 194 0) (Sq.inp (m.getD c0 0)) (Sq.inp (m.getD (64+c1) 0)) (Sq.inp (m.getD (128+c2) 0)) bit _ (HT.out.below YW.out) HW3.out (inps_ok _ _ _) HBit.out off HO.out).mono ?_;rintro e w8 ⟨rfl,hb⟩;refine⟨_,rfl,?_⟩;have n0:=Z_ (blk_below YA.out hb);have n1:=Z_ (blk_below YC.out hb);have n2:=Z_ (blk_below YD.out hb);have n9:=Z_ (below_step YW.out hb);clear YA YC YD YW hb;have YA:=n0;have YC:=n1;have YD:=n2;have YW:=n9;clear n0 n1 n2 n9;refine hK.out _ _ ⟨YA.out,YD.out⟩ (fun hHeld=>?_);clear hK K;refine Nm_ 35 ?_;refine P_ 6 29 ?_;refine P_ 7 36 ?_;refine P_ 8 37 ?_;refine P_ 9 38 ?_;have q0:=cell_ints YA.out 192 (by rw[HM.out.1];omega);have q1:=cell_ints YA.out 193 (by rw[HM.out.1];omega);have q2:=cell_ints YA.out 194 (by rw[HM.out.1];omega);have qf:=blk_frozen YA.out;have ql:=blk_lt YA.out;unfold v3;refine last_ (i:=10) (N:=none) #[true,true,true,true,true,true,true,true,true,true,true] rfl rfl (one_of HT_.out (by kernel_rfl)) (by decide) (fun K hK=>?_);refine skip_ (w1:=?_) (by rfl) rfl ?_ ?_;rotate_left
 ·go_simp
  rfl
 refine hK.out _ _ ?_;clear hK K;refine done_ (done_of HT_.out (by kernel_rfl)) ?_;simp only[←gD_];clear xK q0 q1 q2 qf ql HW3;have n0:=Z_ (blk_set_ints (blk_set_ints (blk_set_ints YA.out 192 (Sq.step (m.getD 192 0) (Sq.inp (m.getD c0 0)) off)) 193 (Sq.step (m.getD 193 0) (Sq.inp (m.getD (64+c1) 0)) off)) 194 (Sq.step (m.getD 194 0) (Sq.inp (m.getD (128+c2) 0)) off));have n1:=Z_ (blk_far (p:=⟨w.heap.size,194,none⟩) (blk_far (p:=⟨w.heap.size,193,none⟩) (blk_far (p:=⟨w.heap.size,192,none⟩) YC.out (by simp;omega) (.int .i64 (Sq.step (m.getD 192 0) (Sq.inp (m.getD c0 0)) off))) (by simp;omega) (.int .i64 (Sq.step (m.getD 193 0) (Sq.inp (m.getD (64+c1) 0)) off))) (by simp;omega) (.int .i64 (Sq.step (m.getD 194 0) (Sq.inp (m.getD (128+c2) 0)) off)));have n2:=Z_ (blk_far (p:=⟨w.heap.size,194,none⟩) (blk_far (p:=⟨w.heap.size,193,none⟩) (blk_far (p:=⟨w.heap.size,192,none⟩) YD.out (by simp;omega) (.int .i64 (Sq.step (m.getD 192 0) (Sq.inp (m.getD c0 0)) off))) (by simp;omega) (.int .i64 (Sq.step (m.getD 193 0) (Sq.inp (m.getD (64+c1) 0)) off))) (by simp;omega) (.int .i64 (Sq.step (m.getD 194 0) (Sq.inp (m.getD (128+c2) 0)) off)));have n3:=Z_ (below_set (j:=194) (v:=(.int .i64 (Sq.step (m.getD 194 0) (Sq.inp (m.getD (128+c2) 0)) off))) (below_set (j:=193) (v:=(.int .i64 (Sq.step (m.getD 193 0) (Sq.inp (m.getD (64+c1) 0)) off))) (below_set (j:=192) (v:=(.int .i64 (Sq.step (m.getD 192 0) (Sq.inp (m.getD c0 0)) off))) YW.out (Nat.le_refl _)) (Nat.le_refl _)) (Nat.le_refl _));clear YA YC YD YW;have YA:=n0;have YC:=n1;have YD:=n2;have YW:=n3;clear n0 n1 n2 n3;generalize ((w8.setCell _ _).setCell _ _).setCell _ _=W8 at YA YC YD YW ⊢;obtain⟨m3,GK⟩:∃x,((m.set 192 (Sq.step (m.getD 192 0) (Sq.inp (m.getD c0 0)) off)).set 193 (Sq.step (m.getD 193 0) (Sq.inp (m.getD (64+c1) 0)) off)).set 194 (Sq.step (m.getD 194 0) (Sq.inp (m.getD (128+c2) 0)) off)=x:=⟨_,rfl⟩;have HL:res=((m3.set c0 (Sq.next (m.getD c0 0) bit)).set (64+c1) (Sq.next (m.getD (64+c1) 0) bit)).set (128+c2) (Sq.next (m.getD (128+c2) 0) bit):=by rw[←RES.out,←GK,←HO.out];rfl
 have M3:Hid (m3.length=195):=by rw[←GK];show _=_;simp only[List.length_set];exact HM.out.1
 have EE:∀j,j<192→m3.getD j 0=m.getD j 0:=by
  intro j hj;rw[←GK,getD_set _ _ _ _ (by simp only[List.length_set];rw[HM.out.1];omega),getD_set _ _ _ _ (by simp only[List.length_set];rw[HM.out.1];omega),getD_set _ _ _ _ (by rw[HM.out.1];omega),if_neg (by omega),if_neg (by omega),if_neg (by omega)]
 rw[GK] at YA;obtain⟨a0,ha0⟩:∃x,m.getD c0 0=x:=⟨_,rfl⟩;obtain⟨a1,ha1⟩:∃x,m.getD (64+c1) 0=x:=⟨_,rfl⟩;obtain⟨a2,ha2⟩:∃x,m.getD (128+c2) 0=x:=⟨_,rfl⟩;have B0:=Lib.hid (HM.out.2.1 c0 (by omega));have B1:=Lib.hid (HM.out.2.1 (64+c1) (by omega));have B2:=Lib.hid (HM.out.2.1 (128+c2) (by omega));have E0:=Lib.hid (EE c0 (by omega));have E1:=Lib.hid (EE (64+c1) (by omega));have E2:=Lib.hid (EE (128+c2) (by omega));rw[ha0] at B0 E0 HL;rw[ha1] at B1 E1 HL;rw[ha2] at B2 E2 HL;clear GK EE ha0 ha1 ha2 HM HO RES
 go_wp2_with fail
 refine wp_loop_rounds 4 ?_;rw[rounds_succ];have Bz:=blk_cell YD.out 0;have BA:=blk_cell YD.out 1;have BD:=blk_cell YD.out 2;have BF:=blk_cell YD.out 3;simp at Bz BA BD BF;have gl:=blk_lt YD.out
 go_wp2_with fail
 refine(counter_calls w.heap.size 0 c0 c0 c1 c2 _ (by omega) rfl h0).mono ?_;rintro e nY ⟨rfl,hb⟩;clear Bz BA BD BF gl;have n0:=Z_ (blk_below YA.out hb);have n1:=Z_ (blk_below YC.out hb);have n2:=Z_ (blk_below YD.out hb);have n9:=Z_ (below_step YW.out hb);clear YA YC YD YW hb;have YA:=n0;have YC:=n1;have YD:=n2;have YW:=n9;clear n0 n1 n2 n9
 have kc:nY.cell? ⟨w.heap.size,c0,none⟩=some (.int .i64 a0):=by
  rw[←E0.out];exact cell_ints YA.out c0 (by rw[M3.out];omega)
 have kf:=blk_frozen YA.out;have kl:=blk_lt YA.out
 go_wp2_with fail
 refine(next_calls a0 bit _ B0.out.1 B0.out.2 HBit.out).mono ?_;rintro e yM ⟨rfl,⟨bU,rfl⟩⟩
 go_wp2_with fail
 skip
 have n0:=Z_ (blk_set_ints (blk_drewN YA.out bU) c0 (Sq.next a0 bit));have n1:=Z_ (blk_far (p:=⟨w.heap.size,c0,none⟩) (blk_drewN YC.out bU) (by simp;omega) (.int .i64 (Sq.next a0 bit)));have n2:=Z_ (blk_far (p:=⟨w.heap.size,c0,none⟩) (blk_drewN YD.out bU) (by simp;omega) (.int .i64 (Sq.next a0 bit)));have n3:=Z_ (below_set (j:=c0) (v:= .int .i64 (Sq.next a0 bit)) (pw_below_drewN YW.out bU) (Nat.le_refl _));clear YA YC YD YW kc kf kl;have YA:=n0;have YC:=n1;have YD:=n2;have YW:=n3;clear n0 n1 n2 n3;generalize (nY.drewN bU).setCell _ _=V0 at YA YC YD YW ⊢;rw[rounds_succ];have Bz:=blk_cell YD.out 0;have BA:=blk_cell YD.out 1;have BD:=blk_cell YD.out 2;have BF:=blk_cell YD.out 3;simp at Bz BA BD BF;have gl:=blk_lt YD.out
 go_wp2_with fail
 refine(counter_calls w.heap.size 1 c1 c0 c1 c2 _ (by omega) rfl h1).mono ?_;rintro e zS ⟨rfl,hb⟩;clear Bz BA BD BF gl;have n0:=Z_ (blk_below YA.out hb);have n1:=Z_ (blk_below YC.out hb);have n2:=Z_ (blk_below YD.out hb);have n9:=Z_ (below_step YW.out hb);clear YA YC YD YW hb;have YA:=n0;have YC:=n1;have YD:=n2;have YW:=n9;clear n0 n1 n2 n9
 have kc:zS.cell? ⟨w.heap.size,(64+c1),none⟩=some (.int .i64 a1):=by
  have e1:(m3.set c0 (Sq.next a0 bit)).getD (64+c1) 0=a1:=by rw[getD_set _ _ _ _ (by rw[M3.out];omega),if_neg (by omega)];exact E1.out
  rw[←e1];exact cell_ints YA.out (64+c1) (by rw[List.length_set,M3.out];omega)
 have kf:=blk_frozen YA.out;have kl:=blk_lt YA.out
 go_wp2_with fail
 refine(next_calls a1 bit _ B1.out.1 B1.out.2 HBit.out).mono ?_;rintro e Cu ⟨rfl,⟨bN,rfl⟩⟩
 go_wp2_with fail
 skip
 have n0:=Z_ (blk_set_ints (blk_drewN YA.out bN) (64+c1) (Sq.next a1 bit));have n1:=Z_ (blk_far (p:=⟨w.heap.size,(64+c1),none⟩) (blk_drewN YC.out bN) (by simp;omega) (.int .i64 (Sq.next a1 bit)));have n2:=Z_ (blk_far (p:=⟨w.heap.size,(64+c1),none⟩) (blk_drewN YD.out bN) (by simp;omega) (.int .i64 (Sq.next a1 bit)));have n3:=Z_ (below_set (j:=(64+c1)) (v:= .int .i64 (Sq.next a1 bit)) (pw_below_drewN YW.out bN) (Nat.le_refl _));clear YA YC YD YW kc kf kl;have YA:=n0;have YC:=n1;have YD:=n2;have YW:=n3;clear n0 n1 n2 n3;generalize (zS.drewN bN).setCell _ _=V1 at YA YC YD YW ⊢;rw[rounds_succ];have Bz:=blk_cell YD.out 0;have BA:=blk_cell YD.out 1;have BD:=blk_cell YD.out 2;have BF:=blk_cell YD.out 3;simp at Bz BA BD BF;have gl:=blk_lt YD.out
 go_wp2_with fail
 refine(counter_calls w.heap.size 2 c2 c0 c1 c2 _ (by omega) rfl h2).mono ?_;rintro e tV ⟨rfl,hb⟩;clear Bz BA BD BF gl;have n0:=Z_ (blk_below YA.out hb);have n1:=Z_ (blk_below YC.out hb);have n2:=Z_ (blk_below YD.out hb);have n9:=Z_ (below_step YW.out hb);clear YA YC YD YW hb;have YA:=n0;have YC:=n1;have YD:=n2;have YW:=n9;clear n0 n1 n2 n9
 have kc:tV.cell? ⟨w.heap.size,(128+c2),none⟩=some (.int .i64 a2):=by
  have e1:((m3.set c0 (Sq.next a0 bit)).set (64+c1) (Sq.next a1 bit)).getD (128+c2) 0=a2:=by rw[getD_set _ _ _ _ (by rw[List.length_set,M3.out];omega),if_neg (by omega),getD_set _ _ _ _ (by rw[M3.out];omega),if_neg (by omega)];exact E2.out
  rw[←e1];exact cell_ints YA.out (128+c2) (by rw[List.length_set,List.length_set,M3.out];omega)
 have kf:=blk_frozen YA.out;have kl:=blk_lt YA.out
 go_wp2_with fail
 refine(next_calls a2 bit _ B2.out.1 B2.out.2 HBit.out).mono ?_;rintro e tX ⟨rfl,⟨eX,rfl⟩⟩
 go_wp2_with fail
 skip
 have n0:=Z_ (blk_set_ints (blk_drewN YA.out eX) (128+c2) (Sq.next a2 bit));have n1:=Z_ (blk_far (p:=⟨w.heap.size,(128+c2),none⟩) (blk_drewN YC.out eX) (by simp;omega) (.int .i64 (Sq.next a2 bit)));have n2:=Z_ (blk_far (p:=⟨w.heap.size,(128+c2),none⟩) (blk_drewN YD.out eX) (by simp;omega) (.int .i64 (Sq.next a2 bit)));have n3:=Z_ (below_set (j:=(128+c2)) (v:= .int .i64 (Sq.next a2 bit)) (pw_below_drewN YW.out eX) (Nat.le_refl _));clear YA YC YD YW kc kf kl;have YA:=n0;have YC:=n1;have YD:=n2;have YW:=n3;clear n0 n1 n2 n3;generalize (tV.drewN eX).setCell _ _=V2 at YA YC YD YW ⊢;rw[rounds_succ];have FL:Hid ((((m3.set c0 (Sq.next a0 bit)).set (64+c1) (Sq.next a1 bit)).set (128+c2) (Sq.next a2 bit)).length=195):=by show _=_;simp only[List.length_set];exact M3.out
 generalize ((m3.set c0 (Sq.next a0 bit)).set (64+c1) (Sq.next a1 bit)).set (128+c2) (Sq.next a2 bit)=mf at YA FL HL ⊢;have RR:=Lib.hid (range_all YA.out);have TH:=Lib.hid (there_blk YC.out 0 195 (by rw[ints_len,ZL.out];omega));have SZ:Hid ((ints mf).toArray.size=195):=by show(ints mf).toArray.size=195;rw[List.size_toArray,ints_len,FL.out]
 have hlen:(ints zz).length=(ints mf).length:=by rw[ints_len,ints_len,ZL.out,FL.out]
 go_wp2_with (first
  |((with_reducible refine gate_dst (N:=56) rfl ?_);refine wpList_load_mid rfl 83 _ rfl w.heap.size 0 rfl (ints mf) _ RR.out Tryz.underlying83 rfl (by rw[ints_len,FL.out];kernel_rfl) ?_)
  |((with_reducible refine gate_store (t:=83) (p:=6) rfl ?_);refine wpList_store_mid rfl 83 _ _ rfl (w.heap.size+1+1) 0 (ints mf).toArray rfl rfl (by rw[SZ.out];exact TH.out) (by rw[SZ.out];kernel_rfl) (all_oneCell_toArray (ints_one _)) ?_))
 have h1:=setCells_all (vs:=(ints mf)) YC.out hlen;have h2:=below_setCells YW.out (show w.heap.size≤w.heap.size+1+1 by omega) (ints mf) 0;refine bodyPost_ret (results_ct rfl _ _ (w.heap.size+1+1) 83 (ints mf).toArray (0,0) _ rfl h1 Tryz.underlying83 rfl (by rw[SZ.out];kernel_rfl)) rfl ⟨by rw[HL];rfl,h2⟩
theorem lin_calls(x m:Int)(w:World)(h0: -m≤x)(h1:x≤m)(hm:m=1048576∨m=4194304):Calls Tryz.prog 128 #[.int .i64 x,.int .i64 m] w fun e w'=>e= .returned (.bool true)∧∃n,w'=w.drewN n:=by
 refine(lms_in.calls x m true w ?_).mono fun e w' hh=>⟨hh.1,hh.2.out⟩
 unfold lms_in.f;have:wrap64 (-m)= -m:=by rcases hm with rfl|rfl<;>(unfold wrap64;omega)
 rw[this,if_pos h0,dt_ h1]
namespace Sq
def sign(x:Int):Int:=if x>0 then 1 else if x<0 then -1 else 0
theorem sign_bd(x:Int): -1≤sign x∧sign x≤1:=by
 unfold sign
 split
 ·omega
 ·split<;>omega
end Sq
theorem lbound_calls(x m:Int)(w:World)(hm:m=1048576):Calls Tryz.prog 127 #[.int .i64 x,.int .i64 m] w fun e w'=>e= .returned (.int .i64 (Sq.bound x (-m) m))∧Below w.heap.size w w':=by
 refine lms_bound.calls x m _ w ?_;unfold lms_bound.f Sq.bound mn mx;subst hm;rw[show wrap64 (-1048576)= -1048576 by unfold wrap64;omega]
theorem lsign_calls(x:Int)(w:World):Calls Tryz.prog 129 #[.int .i64 x] w fun e w'=>e= .returned (.int .i64 (Sq.sign x))∧∃n,w'=w.drewN n:=by
 refine(lms_sign.calls x _ w ?_).mono fun e w' hh=>⟨hh.1,hh.2.out⟩
 unfold lms_sign.f Sq.sign
 split
 ·rfl
 ·split<;>rfl
def LOk(l:List Int):Prop:=l.length=16∧(∀j,j<8→ -1048576≤l.getD j 0∧l.getD j 0≤1048576)∧(∀j,j<8→ -4194304≤l.getD (8+j) 0∧l.getD (8+j) 0≤4194304)
theorem lmsMay_calls(l:List Int)(w:World)(h:LOk l):Calls Tryz.prog 126 #[.agg (ints l).toArray] w fun e w'=>e= .returned (.bool true)∧Below w.heap.size w w':=by
 have pU:=Tryz.underlying133;have BG:=Tryz.underlying131;have HM:=Z_ h;have HB0:Aside0 ((w.alloc (.cells (ints l).toArray 133)).heap[w.heap.size]?=some (.cells (ints l).toArray 133 (0,0))):=⟨blk_new w _⟩;clear h;obtain⟨W,hW⟩:∃W,w.alloc (.cells (ints l).toArray 133)=W:=⟨_,rfl⟩;have BW:Aside0 (Below w.heap.size w W):=⟨hW▸(Below.refl _ _).alloc (Nat.le_refl _) _⟩;rw[hW] at HB0;obtain⟨row,hrow⟩:∃row,(l.drop 0).take 8=row:=⟨_,rfl⟩;have RL:row.length=8:=by rw[←hrow,List.length_take,List.length_drop,HM.out.1];rfl
 have RO:∀j,j<8→row.getD j 0=l.getD j 0:=by
  intro j hj;rw[←hrow,getD_drop_take l _ _ _ hj,Nat.zero_add]
 have RR:=Lib.hid (range_ints (w:=W) HB0.out 0 8);rw[hrow] at RR;have RL:=Lib.hid RL;have RO:=Lib.hid RO;clear hrow
 go_enter Tryz.func126,Tryz.ntmps126
 go_wp2_with ((with_reducible refine gate_dst (N:=6) rfl ?_);first|refine wpList_load_mid rfl 131 _ rfl w.heap.size 0 rfl (ints row) _ RR.out Tryz.underlying131 rfl (by rw[ints_len,RL.out];kernel_rfl) ?_|(rw[hW];refine wpList_load_mid rfl 131 _ rfl w.heap.size 0 rfl (ints row) _ RR.out Tryz.underlying131 rfl (by rw[ints_len,RL.out];kernel_rfl) ?_))
 clear RR;have HW:Drawn0 W W:=Drawn0.refl _
 try rw[hW]
 clear hW
 go_loopg [7] 8 (fun d v7 wr=>∃i:Nat,v7= .int .i64 i∧i+d=8∧Drawn0 W wr)
 case atStart=>exact⟨0,rfl,by omega,HW⟩
 case round=>
  clear HW;obtain⟨i,rfl,hi,⟨⟨n1,rfl⟩⟩⟩:=hrel
  cases gk with
  |zero=>
   obtain rfl:i=8:=by omega
   go_wp2;go_ret;exact⟨rfl,pw_below_drewN BW.out _⟩
  |succ d=>
   have hlt':(i:Int)<8:=by omega
   have hix:=fun W=>run_index_ints 131 8 Tryz.underlying131 row RL.out i (by omega) W
   have hb:=HM.out.2.1 i (by omega);rw[←RO.out i (by omega)] at hb;have hc:=HM.out.2.2 i (by omega);have k1:=cell_ints HB0.out (8+i) (by rw[HM.out.1];omega);obtain⟨x,hx⟩:∃x,row.getD i 0=x:=⟨_,rfl⟩;obtain⟨y,hy⟩:∃y,l.getD (8+i) 0=y:=⟨_,rfl⟩;rw[hx] at hb hix;rw[hy] at hc k1;have hb:=Lib.hid hb;have hc:=Lib.hid hc;clear hx hy
   go_wp2_with (go_at_call 128;refine(lin_calls _ _ _ (by first|exact hb.out.1|exact hc.out.1) (by first|exact hb.out.2|exact hc.out.2) (by first|exact Or.inl rfl|exact Or.inr rfl)).mono ?_;rintro e w2 ⟨rfl,⟨n3,rfl⟩⟩)
   go_roundg d
   case measure=>omega
   case rel=>exact⟨i+1,by go_num,by omega,⟨⟨_,rfl⟩⟩⟩
namespace Sq
theorem mul_bd3{x f:Int}(h0: -1048576≤x)(h1:x≤1048576)(g0: -4194304≤f)(g1:f≤4194304): -4398046511104≤x*f∧x*f≤4398046511104:=by
 have e1:(x+1048576)*(f+4194304)≥0:=Int.mul_nonneg (by omega) (by omega);have e2:(1048576 - x)*(4194304 - f)≥0:=Int.mul_nonneg (by omega) (by omega);have e3:(x+1048576)*(4194304 - f)≥0:=Int.mul_nonneg (by omega) (by omega);have e4:(1048576 - x)*(f+4194304)≥0:=Int.mul_nonneg (by omega) (by omega);simp only[Int.add_mul,Int.sub_mul,Int.mul_add,Int.mul_sub] at e1 e2 e3 e4;omega
end Sq
def lSum(l:List Int):Nat→Int
 |0=>0
 |n+1=>lSum l n+l.getD n 0*l.getD (8+n) 0
theorem lSum_succ(l:List Int)(n:Nat):lSum l (n+1)=lSum l n+l.getD n 0*l.getD (8+n) 0:=rfl
theorem lSum_bd{l:List Int}(h:LOk l)(n:Nat)(hn:n≤8): -(n*4398046511104:Int)≤lSum l n∧lSum l n≤n*4398046511104:=by
 induction n with
 |zero=>simp[lSum]
 |succ n ih=>
  have:=ih (by omega);have a:=h.2.1 n (by omega);have b:=h.2.2 n (by omega);have m:=Sq.mul_bd3 a.1 a.2 b.1 b.2;rw[lSum_succ];omega
def lGuess(l:List Int):Int:=Sq.bound (lSum l 8 / 4096) (-1048576) 1048576
theorem lGuess_bd(l:List Int): -1048576≤lGuess l∧lGuess l≤1048576:=Sq.bound_bd _ _ _ (by omega)
theorem lmsGuess_calls(l:List Int)(w:World)(h:LOk l):Calls Tryz.prog 102 #[.agg (ints l).toArray] w fun e w'=>e= .returned (.tuple #[.int .i64 (lGuess l),.int .i64 0])∧Below w.heap.size w w':=by
 have pU:=Tryz.underlying133;have BG:=Tryz.underlying131;have HM:=Z_ h;have HB0:Aside0 ((w.alloc (.cells (ints l).toArray 133)).heap[w.heap.size]?=some (.cells (ints l).toArray 133 (0,0))):=⟨blk_new w _⟩;clear h;obtain⟨W,hW⟩:∃W,w.alloc (.cells (ints l).toArray 133)=W:=⟨_,rfl⟩;have BW:Aside0 (Below w.heap.size w W):=⟨hW▸(Below.refl _ _).alloc (Nat.le_refl _) _⟩;rw[hW] at HB0;have RM:=Lib.hid (range_all HB0.out)
 go_enter Tryz.func102,Tryz.ntmps102
 go_wp2_with ((with_reducible refine gate_dst (N:=7) rfl ?_);refine wpList_load_mid rfl 133 _ rfl w.heap.size 0 rfl (ints l) _ RM.out Tryz.underlying133 rfl (by rw[ints_len,HM.out.1];kernel_rfl) ?_)
 clear RM hW;refine(lmsMay_calls l _ HM.out).mono ?_;rintro e w1 ⟨rfl,hb⟩;have n0:=Z_ (blk_below HB0.out hb);have n1:=Z_ (below_step BW.out hb);clear HB0 BW hb;have HB0:=n0;have BW:=n1;clear n0 n1;obtain⟨row,hrow⟩:∃row,(l.drop 0).take 8=row:=⟨_,rfl⟩;have RL:row.length=8:=by rw[←hrow,List.length_take,List.length_drop,HM.out.1];rfl
 have RO:∀j,j<8→row.getD j 0=l.getD j 0:=by
  intro j hj;rw[←hrow,getD_drop_take l _ _ _ hj,Nat.zero_add]
 have RR:=Lib.hid (range_ints (w:=w1) HB0.out 0 8);rw[hrow] at RR;have RL:=Lib.hid RL;have RO:=Lib.hid RO;clear hrow
 go_wp2_with ((with_reducible refine gate_dst (N:=11) rfl ?_);refine wpList_load_mid rfl 131 _ rfl w.heap.size 0 rfl (ints row) _ RR.out Tryz.underlying131 rfl (by rw[ints_len,RL.out];kernel_rfl) ?_)
 clear RR
 go_loopg [4,12] 8 (fun d v4 v12 wr=>∃i:Nat,v4= .int .i64 (lSum l i)∧v12= .int .i64 i∧i+d=8∧Drawn0 w1 wr)
 case atStart=>exact⟨0,rfl,rfl,by omega,Drawn0.refl _⟩
 case round=>
  obtain⟨i,rfl,rfl,hi,⟨⟨n1,rfl⟩⟩⟩:=hrel
  cases gk with
  |zero=>
   obtain rfl:i=8:=by omega
   have hs:=lSum_bd HM.out 8 (by omega);have HG:Hid (lGuess l=Sq.bound (lSum l 8 / 4096) (-1048576) 1048576):=rfl;generalize lSum l 8=sm at hs HG ⊢
   go_wp2_with (go_at_call 127;refine(lbound_calls _ _ _ rfl).mono ?_;rintro e w2 ⟨rfl,hb⟩)
   go_ret2;refine⟨?_,below_step (pw_below_drewN BW.out _) hb⟩;rw[HG.out];rfl
  |succ d=>
   have hlt':(i:Int)<8:=by omega
   have hix:=fun W=>run_index_ints 131 8 Tryz.underlying131 row RL.out i (by omega) W
   have hb:=HM.out.2.1 i (by omega);have HS:Hid (lSum l (i+1)=lSum l i+l.getD i 0*l.getD (8+i) 0):=rfl;have hs:=lSum_bd HM.out i (by omega);rw[←RO.out i (by omega)] at hb HS;have hc:=HM.out.2.2 i (by omega);have k1:=cell_ints HB0.out (8+i) (by rw[HM.out.1];omega);obtain⟨x,hx⟩:∃x,row.getD i 0=x:=⟨_,rfl⟩;obtain⟨y,hy⟩:∃y,l.getD (8+i) 0=y:=⟨_,rfl⟩;rw[hx] at hb hix HS;rw[hy] at hc k1 HS;have hm:=Sq.mul_bd3 hb.1 hb.2 hc.1 hc.2;obtain⟨p,hp⟩:∃p,x*y=p:=⟨_,rfl⟩;rw[hp] at hm HS;have hp':IntKind.i64.wrap (x*y)=p:=by rw[hp,IntKind.wrap_i64];omega
   clear hx hy hp hb hc;generalize lSum l i=sm at hs HS ⊢;go_wp2
   go_roundg d
   case measure=>omega
   case rel=>exact⟨i+1,by rw[HS.out],by go_num,by omega,⟨⟨n1,rfl⟩⟩⟩
end Go.Proofs.YtfghldonnffldaaGreatDoor
