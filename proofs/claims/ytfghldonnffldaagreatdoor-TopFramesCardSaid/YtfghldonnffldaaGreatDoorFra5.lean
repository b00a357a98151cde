/- TopFrames is proved: a file of more frames has a stream of no fewer segments, and each of the shorter one's but the last is the longer one's. -/
import Derived.Test.YtfghldonnffldaaGreatDoorProg
import Derived.Below
import Derived.Deep.Draws
import Derived.Deep.AppendLies
import Derived.Maps.AppendAt
import Derived.OwnWalk
import Derived.Laws.BytesArg
import Derived.Laws.MakeOwn
import Derived.Laws.OwnMore
import Derived.Deep.OwnRows
import Derived.Tactics
import Derived.Lib.ConvBytes
import Derived.Laws.Slices
import Derived.WalkKit
import Derived.KernelRfl
import Derived.RowKit3
import Derived.Deep.LoopGhost
import Derived.Deep.QuietTactic
import Derived.BigQuiet
import Derived.WideLaws
import Derived.Deep.DeepCutAuto
import Derived.Deep.CutBlock
import Derived.Deep.RegionHeld3
import Derived.Laws.Rows
import Derived.Lib.AppendStr
import Derived.ArgAppend
import Derived.Laws.IdiomCopy
import Derived.OrdersHeld
import Derived.Laws.BitsLemmas
import Derived.RowKit
import Derived.Test.YtfghldonnffldaaGreatDoorRows
import Derived.Lib.LaidTab
import Derived.Stop.LaidErr
import Derived.Deep.DeepHandedRow
import Derived.Test.YtfghldonnffldaaGreatDoorCards
import Derived.Test.YtfghldonnffldaaGreatDoorTie
import Derived.ProofKit
import Derived.OpenShut
import Derived.ShutString
import Derived.ChangeOld
import Derived.SizedLaws
import Derived.Lib.SmallJoins
import Derived.SevenTiedAt
import Derived.LaidLaws
import Derived.Test.YtfghldonnffldaaGreatDoorFra4
set_option linter.unusedVariables false
set_option linter.unusedSimpArgs false
set_option maxRecDepth 100000
set_option maxHeartbeats 8000000
namespace Go.Proofs.YtfghldonnffldaaGreatDoor
open Go.RowKit YtfghldonnffldaaGreatDoorW.PrintWords YtfghldonnffldaaGreatDoorW.PrintLast YtfghldonnffldaaGreatDoorW.PrintMore TBase
open VTwo QSix ZFiv ESev
def W0:ByteArray:=⟨#[82,73,70,70,54,0,0,0,87,65,86,69,102,109,116,32,16,0,0,0,1,0,1,0,114,97,116,101,97,110,100,98,2,0,16,0,100,97,116,97,6,0,0,0,5,0,6,0,7,0,109,111,114,101,3,0,0,0,97,98,99,100]⟩
def E0:ByteArray:=⟨#[68,83,67,84,1,16,2,3,44,12,82,73,70,70,54,0,0,0,87,65,86,69,102,109,116,32,16,0,0,0,1,0,1,0,114,97,116,101,97,110,100,98,2,0,16,0,100,97,116,97,6,0,0,0,109,111,114,101,3,0,0,0,97,98,99,100,13,0,11,0,217,2,14,228,0,0,2,4,0,5,0,6,0,37,16,131,139,2,0,1,2,0,7,0,171,185,219,210]⟩
def HD0:ByteArray:=W0.extract 0 44
def TL0:ByteArray:=W0.extract 50 62
def S1:ByteArray:=E0.extract 74 87
def S2:ByteArray:=E0.extract 87 98
theorem sp0:sput 1 16 2 3 HD0 TL0 [S1,S2]=E0:=by kernel_rfl
theorem many0:stream_Many.f 3 2=some 2:=by kernel_rfl
theorem d1:file_whole_data.f 30 1 16 2 3 HD0 TL0 [S1,S2] 0=some (⟨#[5,0,6,0]⟩,true):=by kernel_rfl
theorem d2:file_whole_data.f 30 1 16 2 3 HD0 TL0 [S1,S2] 1=some (⟨#[7,0]⟩,true):=by kernel_rfl
theorem b0:wave_Build.f 30 1 16 HD0 ⟨(flat [⟨#[5,0,6,0]⟩,⟨#[7,0]⟩]).toArray⟩ TL0=some (W0,0):=by kernel_rfl
theorem w0:descanttop_wav.f 20 1 16 ⟨#[5,0,6,0,7,0]⟩=some W0:=by kernel_rfl
theorem e0:file_Encode.f 30 W0 2=some (E0,0):=by kernel_rfl
theorem pw0:wave_Parse.f 30 W0=some (1,16,HD0,W0.extract 44 50,TL0,0):=by kernel_rfl
theorem fr0:pcm_Frame.f 1 16=some 2:=by kernel_rfl
theorem rr0:((⟨(flat (([⟨#[5,0,6,0]⟩,⟨#[7,0]⟩]:List ByteArray).drop 0 |>.take (2 - 0))).toArray⟩:ByteArray).extract ((0 - 0*2)*2) ((3 - 0*2)*2))=W0.extract 44 50:=by kernel_rfl
theorem ok0:∃p1 p2 p3 p5 q,StrOk E0 1 16 2 3 HD0 TL0 [S1,S2] p1 p2 p3 p5 q:=by
 have h:=sput_ok 1 16 2 3 HD0 TL0 [S1,S2] (by decide) many0 (fun x hx=>List.all_eq_true.1 (show [S1,S2].all szB=true by kernel_rfl) x hx) (by rw [sp0];decide)
 rw [sp0] at h
 exact h
theorem ds0:∀i,i< [S1,S2].length→file_whole_data.f 30 1 16 2 3 HD0 TL0 [S1,S2] (i:Int)=some (([⟨#[5,0,6,0]⟩,⟨#[7,0]⟩]:List ByteArray).getD i ByteArray.empty,true):=by
 intro i hi
 match i,hi with
 | 0,_=>exact d1
 | 1,_=>exact d2
theorem pg0:pcm_Get.f 30 (W0.extract 44 50) 1 16=some ([[5,6,7]],0):=by kernel_rfl
theorem sg0:segment_Get.f 30 S1 1 16=some (⟨#[5,0,6,0]⟩,0):=by kernel_rfl
theorem sl0:descantlaw0_SameLists.f 30 [[5,6,7]] [[5,6,7]]=some true:=by kernel_rfl
theorem seg0 {w:World} {ad:Addr} (h:Kd.string.C w (some ad) ([S1,S2]:List ByteArray).length [S1,S2]):w.cell? ad=some (.string S1):=by
 obtain ⟨ad',e,hx⟩:=Kd.at_string h 0 (by decide) (by decide)
 obtain rfl:=Option.some.inj e
 cases ad
 exact hx
def awk.T11:Bool×List (List Nat×List Nat):=(true,[([],[]),([0],[0]),([1],[1]),([2],[2]),([],[]),([3,4],[3,4]),([5],[5]),([6],[6]),([6],[6]),([7,5,0,1,2,3,4,5,6,7],[7]),([8,9,0,1,2,3,4,5,6,7,8,9],[8])])
def awk.B11:List Nat:= [0,1,3,7,0,31,63,127,127,255,1023]
theorem awk.tab11:rtab .any (opsOf Tryz.f8 11)=awk.T11:=by kernel_rfl
theorem awk.bits11:waitsOk awk.T11.2 awk.B11=true:=by kernel_rfl
theorem num0 (w:World):Calls Tryz.prog 12 #[.int .i64 0] w fun e w'=>e= .returned (.int .i64 0)∧w'=w:=by
 go_enter Tryz.func12,Tryz.ntmps12
 go_wp2
 go_ret
 exact ⟨rfl,rfl⟩
section
variable {P:Program} {ops:Array Oper} {rest:List Oper} {o:Oper} {a:Act} {Q:Exit→Act→World→Prop}
theorem lit_event {W:World} (hgd:o.guard=none) {N:Tmp} (_hd:o.dst=some N) {cs:Array Value} {t n:Nat}
  (hrun:(execOp a.eval o).run P W= .ok (.value (.slice (some ⟨W.heap.size,0,none⟩) n n)) (W.alloc (.cells cs t (0,0))))
  (h:∀g,g=W.heap.size→∀w1,w1.heap[g]?=some (.cells cs t (0,0))→Below W.heap.size W w1→wpList P ops Q rest (a.put o.dst (.slice (some ⟨g,0,none⟩) n n)) w1):wpList P ops Q (o::rest) a W:=
 Kd.event_run hgd hrun (h _ rfl _ (blk_new W _) (below_alloc (Below.refl _ _) _))
end
theorem lists0 (w:World) (g1 g2:Nat) (h1:w.heap[g1]?=some (.cells #[.int .i64 5,.int .i64 6,.int .i64 7] 3 (0,0))) (h2:w.heap[g2]?=some (.cells #[.slice (some ⟨g1,0,none⟩) 3 3] 36 (0,0))):
  Kd.C (Kd.slice 3 (Kd.int .i64)) w (some ⟨g2,0,none⟩) ([[5,6,7]]:List (List Int)).length [[5,6,7]]:=by
 refine ⟨rfl,by decide,fun _=>⟨_,rfl,fun j p hj=>?_⟩⟩
 obtain _ | j:=j
 ·obtain rfl:=Option.some.inj hj
  refine ⟨[.slice (some ⟨g1,0,none⟩) 3 3],rfl,⟨some ⟨g1,0,none⟩,3,rfl,by decide,rfl,by decide,fun _=>⟨_,rfl,fun j p hj=>?_⟩⟩,fun i u hu=>?_⟩
  ·match j,hj with
   | 0,hj=>obtain rfl:=Option.some.inj hj;exact ⟨[.int .i64 5],rfl,rfl,fun i u hu=>match i,hu with | 0,hu=>(blk_cell h1 0).trans hu | _+1,hu=>nomatch hu⟩
   | 1,hj=>obtain rfl:=Option.some.inj hj;exact ⟨[.int .i64 6],rfl,rfl,fun i u hu=>match i,hu with | 0,hu=>(blk_cell h1 1).trans hu | _+1,hu=>nomatch hu⟩
   | 2,hj=>obtain rfl:=Option.some.inj hj;exact ⟨[.int .i64 7],rfl,rfl,fun i u hu=>match i,hu with | 0,hu=>(blk_cell h1 2).trans hu | _+1,hu=>nomatch hu⟩
  ·obtain _ | i:=i
   ·exact (blk_cell h2 0).trans hu
   ·cases hu
 ·cases hj
theorem awake_calls (w:World) (hT:Tabs w):Calls Tryz.prog 8 #[] w fun e w'=>e= .returned (.bool true)∧Below w.heap.size w w':=by
 have HT:=Z_ hT
 clear hT
 have Y1:Aside0 ((w.alloc (.cells #[.int .i64 1,.int .i64 16] 23)).heap[w.heap.size]?=some (.cells #[.int .i64 1,.int .i64 16] 23 (0,0))):=⟨blk_new w _⟩
 have YW:Aside0 (Below w.heap.size w (w.alloc (.cells #[.int .i64 1,.int .i64 16] 23))):=⟨below_alloc (Below.refl _ _) _⟩
 go_enter Tryz.func8,Tryz.ntmps8
 go_wp2_with fail
 refine (descanttop_wav.calls 20 1 16 _ _ _ w0).mono ?_
 rintro e wk_ ⟨rfl,hb⟩
 replace Y1:=Z_ (blk_below Y1.out hb)
 replace YW:=Z_ (below_step YW.out hb)
 clear hb
 go_wp2_with fail
 refine (file_Encode.calls 30 W0 2 _ _ _ e0 (Tabs.below HT.out YW.out)).mono ?_
 rintro e wk_ ⟨rfl,hb⟩
 replace Y1:=Z_ (blk_below Y1.out hb)
 replace YW:=Z_ (below_step YW.out hb)
 clear hb
 go_wp2_with fail
 obtain ⟨p1,p2,p3,p5,q,ho⟩:=ok0
 refine (decode_calls 30 30 E0 1 16 2 3 HD0 TL0 [S1,S2] [⟨#[5,0,6,0]⟩,⟨#[7,0]⟩] p1 p2 p3 p5 q W0 _ (Tabs.below HT.out YW.out) ho rfl ds0 (by decide) b0).mono ?_
 rintro e wk_ ⟨rfl,hb⟩
 replace Y1:=Z_ (blk_below Y1.out hb)
 replace YW:=Z_ (below_step YW.out hb)
 clear hb
 go_wp2_with fail
 refine (sget_calls E0 1 16 2 3 HD0 TL0 [S1,S2] p1 p2 p3 p5 q _ ho).mono ?_
 rintro e wk_ ⟨v0,rfl,hr,hb⟩
 obtain ⟨As,cs_,he,hcs,_⟩:=Kd.R_reads hr
 subst he
 have HS:=Z_ (Kd.R_lower hr YW.out.size)
 clear hr
 replace Y1:=Z_ (blk_below Y1.out hb)
 replace YW:=Z_ (below_step YW.out hb)
 clear hb
 go_wp2_with (first | (refine X_ 7 #[.int .i64 0,.int .i64 0,.int .i64 0,.int .i64 0,.string ⟨#[]⟩,.string ⟨#[]⟩,.slice none 0 0] 49 ?_;intro g7 hg wk_ hbox hb;have HG_:=Z_ hg;have HB_:=Z_ hb;have Y7:=Z_ hbox;clear hbox hb hg) | ((with_reducible refine gate_store (t:=49) (p:=7) rfl ?_);refine wpList_store_mid rfl 49 _ _ rfl g7 0 #[.int .i64 1,.int .i64 16,.int .i64 2,.int .i64 3,.string HD0,.string TL0,.slice As [S1,S2].length cs_] rfl rfl (there_blk (vs:= [.int .i64 0,.int .i64 0,.int .i64 0,.int .i64 0,.string ⟨#[]⟩,.string ⟨#[]⟩,.slice none 0 0]) Y7.out 0 7 (by decide)) (by kernel_rfl) (by simp [Value.oneCell']) ?_;have nc_:=Z_ (setCells_all (vs:= [.int .i64 1,.int .i64 16,.int .i64 2,.int .i64 3,.string HD0,.string TL0,.slice As [S1,S2].length cs_]) (old:= [.int .i64 0,.int .i64 0,.int .i64 0,.int .i64 0,.string ⟨#[]⟩,.string ⟨#[]⟩,.slice none 0 0]) Y7.out rfl);have hb:=below_setCells HB_.out (Nat.le_of_eq HG_.out.symm) [.int .i64 1,.int .i64 16,.int .i64 2,.int .i64 3,.string HD0,.string TL0,.slice As [S1,S2].length cs_] 0;replace Y1:=Z_ (blk_below Y1.out hb);replace YW:=Z_ (below_step YW.out hb);replace HS:=Z_ (Kd.R_below HS.out hb);clear hb HB_ HG_ Y7;have Y7:=nc_;clear nc_;generalize World.setCells _ _ _ _=wk_ at Y1 YW HS Y7 ⊢))
 refine (wave_Parse.calls 30 W0 _ _ _ _ _ _ _ pw0).mono ?_
 rintro e wk_ ⟨rfl,hb⟩
 replace Y1:=Z_ (blk_below Y1.out hb)
 replace YW:=Z_ (below_step YW.out hb)
 replace HS:=Z_ (Kd.R_below HS.out hb)
 replace Y7:=Z_ (blk_below Y7.out hb)
 clear hb
 go_wp2_with (first | (refine X_ 9 #[.int .i64 0,.int .i64 0,.string ⟨#[]⟩,.string ⟨#[]⟩,.string ⟨#[]⟩] 57 ?_;intro g9 hg wk_ hbox hb;have HG_:=Z_ hg;have HB_:=Z_ hb;have Y9:=Z_ hbox;clear hbox hb hg) | ((with_reducible refine gate_store (t:=57) (p:=9) rfl ?_);refine wpList_store_mid rfl 57 _ _ rfl g9 0 #[.int .i64 1,.int .i64 16,.string HD0,.string (W0.extract 44 50),.string TL0] rfl rfl (there_blk (vs:= [.int .i64 0,.int .i64 0,.string ⟨#[]⟩,.string ⟨#[]⟩,.string ⟨#[]⟩]) Y9.out 0 5 (by decide)) (by kernel_rfl) (by simp [Value.oneCell']) ?_;have nc_:=Z_ (setCells_all (vs:= [.int .i64 1,.int .i64 16,.string HD0,.string (W0.extract 44 50),.string TL0]) (old:= [.int .i64 0,.int .i64 0,.string ⟨#[]⟩,.string ⟨#[]⟩,.string ⟨#[]⟩]) Y9.out rfl);have hb:=below_setCells HB_.out (Nat.le_of_eq HG_.out.symm) [.int .i64 1,.int .i64 16,.string HD0,.string (W0.extract 44 50),.string TL0] 0;replace Y1:=Z_ (blk_below Y1.out hb);replace YW:=Z_ (below_step YW.out hb);replace HS:=Z_ (Kd.R_below HS.out hb);replace Y7:=Z_ (blk_below Y7.out hb);clear hb HB_ HG_ Y9;have Y9:=nc_;clear nc_;generalize World.setCells _ _ _ _=wk_ at Y1 YW HS Y7 Y9 ⊢))
 refine (range_calls 30 E0 1 16 2 3 HD0 TL0 [S1,S2] [⟨#[5,0,6,0]⟩,⟨#[7,0]⟩] p1 p2 p3 p5 q 0 3 0 2 2 _ (Tabs.below HT.out YW.out) ho (by decide) (by decide) rfl (fun i=>by omega) (by decide) (by decide) (fun i _ h=>ds0 i h) rfl (by decide) fr0 (by decide) (by decide)).mono ?_
 rintro e wk_ ⟨rfl,hb⟩
 rw [rr0]
 replace Y1:=Z_ (blk_below Y1.out hb)
 replace YW:=Z_ (below_step YW.out hb)
 replace HS:=Z_ (Kd.R_below HS.out hb)
 replace Y7:=Z_ (blk_below Y7.out hb)
 replace Y9:=Z_ (blk_below Y9.out hb)
 clear hb
 have r0:=blk_cell Y1.out 0
 have r1:=blk_cell Y1.out 1
 have q3:=blk_cell Y9.out 3
 simp at r0 r1 q3
 go_wp2_with (first | ((with_reducible refine gate_dst (N:=48) rfl ?_);refine wpList_load_mid rfl 23 _ rfl w.heap.size 0 rfl [.int .i64 1,.int .i64 16] _ (range_all Y1.out) Tryz.underlying23 rfl (by kernel_rfl) ?_))
 refine (pcm_Get.calls 30 (W0.extract 44 50) 1 16 [[5,6,7]] 0 _ pg0).mono ?_
 rintro e wk_ ⟨v0,rfl,hra,hb⟩
 obtain ⟨Aa,ca,he,hca,hCa⟩:=Kd.S_reads hra
 subst he
 have HA:=Z_ hCa
 clear hra hCa
 clear r0 r1 q3
 replace Y1:=Z_ (blk_below Y1.out hb)
 replace YW:=Z_ (below_step YW.out hb)
 replace HS:=Z_ (Kd.R_below HS.out hb)
 replace Y7:=Z_ (blk_below Y7.out hb)
 replace Y9:=Z_ (blk_below Y9.out hb)
 clear hb
 have q6:=blk_cell Y7.out 6
 simp at q6
 go_wp2_with fail
 clear q6
 obtain ⟨ad,hAd,_⟩:=Kd.at_string (Kd.R_reads' HS.out).2.2 0 (by decide) (by decide)
 subst hAd
 replace Y1:=Z_ (blk_drew Y1.out)
 replace YW:=Z_ (below_drew1 YW.out)
 replace HS:=Z_ (Kd.R_drew HS.out)
 replace Y7:=Z_ (blk_drew Y7.out)
 replace Y9:=Z_ (blk_drew Y9.out)
 replace HA:=Z_ (Kd.C_drew HA.out)
 refine start_ (n:=11) (S:=fun w'=>w'.heap[g7]?=some (.cells #[.int .i64 1,.int .i64 16,.int .i64 2,.int .i64 3,.string HD0,.string TL0,.slice (some ad) [S1,S2].length cs_] 49 (0,0))∧w'.heap[w.heap.size]?=some (.cells #[.int .i64 1,.int .i64 16] 23 (0,0))∧w'.cell? ad=some (.string S1)) (ds:= []) #[false,false,false,false,false,false,false,false,false,false,false] (by kernel_rfl) rfl rfl ⟨Y7.out,Y1.out,seg0 (Kd.R_reads' HS.out).2.2⟩ (fun hHeld=>?_);refine with_tabW awk.tab11 awk.bits11 (fun HT_ HW_=>?_)
 generalize World.drew _=wk_ at Y1 YW HS Y7 Y9 HA hHeld ⊢
 refine P_ 0 57 ?_
 refine T_ 1 58 (y:=by rintro w' s0;have r6:=blk_cell s0.1 6;have r0:=blk_cell s0.2.1 0;have r1:=blk_cell s0.2.1 1;simp at r0 r1 r6;have r7:=s0.2.2;go_simp;with_reducible rfl) (h:=?_)
 refine T_ 2 59 (y:=by rintro w' s0;have r6:=blk_cell s0.1 6;have r0:=blk_cell s0.2.1 0;have r1:=blk_cell s0.2.1 1;simp at r0 r1 r6;have r7:=s0.2.2;go_simp;with_reducible rfl) (h:=?_)
 refine T_ 3 60 (y:=by rintro w' s0;have r6:=blk_cell s0.1 6;have r0:=blk_cell s0.2.1 0;have r1:=blk_cell s0.2.1 1;simp at r0 r1 r6;have r7:=s0.2.2;go_simp;with_reducible rfl) (h:=?_)
 refine T_ 4 61 (y:=by rintro w' s0;have r6:=blk_cell s0.1 6;have r0:=blk_cell s0.2.1 0;have r1:=blk_cell s0.2.1 1;simp at r0 r1 r6;have r7:=s0.2.2;go_simp;with_reducible rfl) (h:=?_)
 refine O_ 5 62 fun K hK=>?_
 refine g_ Tryz.func26 #[.string S1,.agg #[.int .i64 1,.int .i64 16]] ?_
 refine (segment_Get.calls 30 S1 1 16 _ _ _ sg0 (Tabs.below HT.out YW.out)).mono ?_
 rintro e wk_ ⟨rfl,hb⟩
 refine ⟨_,rfl,?_⟩
 replace Y1:=Z_ (blk_below Y1.out hb)
 replace YW:=Z_ (below_step YW.out hb)
 replace HS:=Z_ (Kd.R_below HS.out hb)
 replace Y7:=Z_ (blk_below Y7.out hb)
 replace Y9:=Z_ (blk_below Y9.out hb)
 replace HA:=Z_ (Kd.C_below HA.out hb)
 clear hb
 refine hK.out _ _ ⟨Y7.out,Y1.out,seg0 (Kd.R_reads' HS.out).2.2⟩ (fun hHeld=>?_)
 clear hK K
 refine Nm_ 62 ?_
 refine P_ 6 56 ?_
 refine P_ 7 63 ?_
 refine P_ 8 64 ?_
 refine P_ 9 15 ?_
 refine P_ 10 16 ?_
 refine done_ (done_of HT_.out (by kernel_rfl)) ?_
 have q3:=blk_cell Y9.out 3
 simp at q3
 go_wp2_with (first | ((with_reducible refine gate_dst (N:=101) rfl ?_);(try (refine gate_guard (by rfl) ?_;dsimp only));refine lit_event ?hg (N:=101) ?hd (cs:= #[.int .i64 5,.int .i64 6,.int .i64 7]) (t:=3) (n:=3) ?hr ?_;(case hd=>rfl);(case hg=>rfl);(case hr=>first | (go_simp;done) | (go_simp;rfl));intro gl1 hg wk_ hbox hb;replace YW:=Z_ (below_step YW.out hb);replace HA:=Z_ (Kd.C_below HA.out hb);have L1:=Z_ hbox;clear hbox hb hg) | ((with_reducible refine gate_dst (N:=102) rfl ?_);(try (refine gate_guard (by rfl) ?_;dsimp only));refine lit_event ?hg (N:=102) ?hd (cs:= #[.slice (some ⟨gl1,0,none⟩) 3 3]) (t:=36) (n:=1) ?hr ?_;(case hd=>rfl);(case hg=>rfl);(case hr=>first | (go_simp;done) | (go_simp;rfl));intro gl2 hg wk_ hbox hb;replace YW:=Z_ (below_step YW.out hb);replace HA:=Z_ (Kd.C_below HA.out hb);replace L1:=Z_ (blk_below L1.out hb);have L2:=Z_ hbox;clear hbox hb hg) | (go_at_call 12;refine (num0 _).mono ?_;rintro e wk_ ⟨rfl,rfl⟩) | (go_at_call 27;refine (descantlaw0_SameLists.calls 30 Aa ca [[5,6,7]] (some ⟨gl2,0,none⟩) 1 [[5,6,7]] true _ HA.out hca (lists0 _ _ _ L1.out L2.out) (by decide) sl0).mono ?_;rintro e wk_ ⟨rfl,⟨⟨nd,rfl⟩⟩⟩;replace YW:=Z_ (pw_below_drewN YW.out nd);generalize World.drewN _ nd=wk_ at YW ⊢))
 go_ret
 exact ⟨rfl,YW.out⟩
end Go.Proofs.YtfghldonnffldaaGreatDoor
namespace Go.Proofs.YtfghldonnffldaaGreatDoor
open Go.RowKit YtfghldonnffldaaGreatDoorW.PrintWords YtfghldonnffldaaGreatDoorW.PrintLast YtfghldonnffldaaGreatDoorW.PrintMore TBase
def descanttop_awake.f:Option Bool:=some true
theorem descanttop_awake.calls (r:Bool) (w:World) (h:descanttop_awake.f=some r) (hT:Tabs w:=by exact Tabs.below hT B_):
  Calls Tryz.prog 8 #[] w fun e w'=>e= .returned (.bool r)∧Below w.heap.size w w':=by
 obtain rfl:=Option.some.inj h
 exact awake_calls w hT
end Go.Proofs.YtfghldonnffldaaGreatDoor
namespace Go.Proofs.YtfghldonnffldaaGreatDoor
open Go.RowKit YtfghldonnffldaaGreatDoorW.PrintWords YtfghldonnffldaaGreatDoorW.PrintLast YtfghldonnffldaaGreatDoorW.PrintMore TBase
open YFou ESev ZFiv
theorem leO_le {α:Type} (g:Nat→Option α) (hm:∀k,LeO (g k) (g (k+1))) (d:Nat):∀k,LeO (g k) (g (k+d)):=by
 induction d with
 | zero=>intro k r h;exact h
 | succ d ih=>intro k r h;exact hm _ _ (ih k r h)
theorem leO_same {α:Type} (g:Nat→Option α) (hm:∀k,LeO (g k) (g (k+1))) {k k':Nat} {r r':α} (h:g k=some r) (h':g k'=some r'):r=r':=by
 rcases Nat.le_total k k' with hk | hk
 ·obtain ⟨d,rfl⟩:=Nat.exists_eq_add_of_le hk
  exact Option.some.inj ((leO_le g hm d k r h).symm.trans h')
 ·obtain ⟨d,rfl⟩:=Nat.exists_eq_add_of_le hk
  exact Option.some.inj (h.symm.trans (leO_le g hm d k' r' h'))
theorem fst_nat {a b:Nat} {x y:Int} (h:some ((a:Int),x)=some ((b:Int),y)):a=b:=by
 have:=(Prod.mk.inj (Option.some.inj h)).1
 omega
theorem three_nat {a b c d:Nat} {x y:Int} (h:some ((a:Int),(b:Int),x)=some ((c:Int),(d:Int),y)):a=c∧b=d:=by
 have h1:=Prod.mk.inj (Option.some.inj h)
 have h2:=(Prod.mk.inj h1.2).1
 have h3:=h1.1
 exact ⟨by omega,by omega⟩
theorem StrOk.unique {s:ByteArray} {ch bi sz fr:Nat} {hd tl:ByteArray} {l:List ByteArray} {p1 p2 p3 p5 q:Nat} {ch' bi' sz' fr':Nat} {hd' tl':ByteArray} {l':List ByteArray} {p1' p2' p3' p5' q':Nat}
  (h:StrOk s ch bi sz fr hd tl l p1 p2 p3 p5 q) (h':StrOk s ch' bi' sz' fr' hd' tl' l' p1' p2' p3' p5' q'):ch=ch'∧bi=bi'∧sz=sz'∧fr=fr'∧hd=hd'∧tl=tl'∧l=l':=by
 obtain rfl:=fst_nat (h.f4.symm.trans h'.f4)
 obtain rfl:=fst_nat (h.f5.symm.trans h'.f5)
 obtain rfl:=fst_nat (h.f6.symm.trans h'.f6)
 obtain ⟨rfl,rfl⟩:=three_nat (h.n1.symm.trans h'.n1)
 obtain ⟨e2,rfl⟩:=three_nat (h.n2.symm.trans h'.n2)
 obtain ⟨e3,rfl⟩:=three_nat (h.n3.symm.trans h'.n3)
 obtain rfl:hd=hd':=by rw [←h.h,←h'.h,e2]
 obtain rfl:tl=tl':=by rw [←h.t,←h'.t,e3]
 obtain rfl:p5=p5':=h.hp5.symm.trans h'.hp5
 have el:l.length=l'.length:=by have:=Option.some.inj (h.many.symm.trans h'.many);omega
 obtain rfl:q=q':=by rw [←h.hq,←h'.hq,el]
 have es:∀i,i<l.length→(l.getD i ByteArray.empty).size=(l'.getD i ByteArray.empty).size:=fun i hi=>fst_nat ((h.sizes i hi).symm.trans (h'.sizes i (by omega)))
 have ei:∀i,i≤l.length→l.take i=l'.take i:=by
  intro i
  induction i with
  | zero=>intro _;rfl
  | succ i ih=>
   intro hi
   have h1:=ih (by omega)
   have h2:=h.segs i (by omega)
   have h3:=h'.segs i (by omega)
   rw [←h1,←es i (by omega),h2] at h3
   rw [List.take_succ_eq_append_getElem (by omega),List.take_succ_eq_append_getElem (by omega),h1]
   rw [List.getD_eq_getElem?_getD,List.getD_eq_getElem?_getD,List.getElem?_eq_getElem (by omega),List.getElem?_eq_getElem (by omega)] at h3
   exact congrArg (fun z=>_++ [z]) h3
 have e9:=ei l.length (Nat.le_refl _)
 rw [List.take_length,el,List.take_length] at e9
 exact ⟨rfl,rfl,rfl,rfl,rfl,rfl,e9⟩
end Go.Proofs.YtfghldonnffldaaGreatDoor
namespace Go.Proofs.YtfghldonnffldaaGreatDoor
open Go.RowKit YtfghldonnffldaaGreatDoorW.PrintWords YtfghldonnffldaaGreatDoorW.PrintLast YtfghldonnffldaaGreatDoorW.PrintMore TBase
open VTwo ZFiv
theorem wrap_id (x:Int) (h1: -9223372036854775808≤x) (h2:x<9223372036854775808):wrap64 x=x:=by unfold wrap64;omega
theorem low_l0 (n x:Nat) (hn:n≤4):∀d k i,i+d=n→d<k→descantref1_Low.l0 k (x:Int) (n:Int) (Le.bytes i x++List.replicate (n - i) 0) (i:Int)=some (strOfNums (Le.bytes n x)):=by
 intro d
 induction d with
 | zero=>
  intro k i hi hk
  obtain ⟨k,rfl⟩:∃m,k=m+1:=⟨k - 1,by omega⟩
  obtain rfl:i=n:=by omega
  rw [descantref1_Low.l0,if_neg (by omega),Nat.sub_self,List.replicate_zero,List.append_nil]
 | succ d ih=>
  intro k i hi hk
  obtain ⟨k,rfl⟩:∃m,k=m+1:=⟨k - 1,by omega⟩
  have w1:wrap64 ((i:Int)+1)=((i+1:Nat):Int):=by unfold wrap64;omega
  have w0:wrap64 (8*(i:Int))=((8*i:Nat):Int):=by unfold wrap64;omega
  have hs:shr .i64 (x:Int) ((8*i:Nat):Int)%256=((x / 256 ^ i%256:Nat):Int):=by
   unfold shr
   rw [Int.toNat_natCast,Nat.min_eq_left (by show 8*i≤64;omega)]
   have hp:256 ^ i=2 ^ (8*i):=by rw [Nat.pow_mul]
   have e:(x:Int) / 2 ^ (8*i)=((x / 2 ^ (8*i):Nat):Int):=by
    rw [Int.natCast_ediv]
    congr 1
    first | done | exact (Int.natCast_pow 2 (8*i)).symm
   rw [e,hp]
   omega
  have hset:(Le.bytes i x++List.replicate (n - i) 0).set i ((x / 256 ^ i%256:Nat):Int)=Le.bytes (i+1) x++List.replicate (n - (i+1)) 0:=by
   rw [List.set_append_right _ _ (by rw [Le.bytes_len];exact Nat.le_refl _),Le.bytes_len,Nat.sub_self,show n - i=(n - (i+1))+1 by omega,List.replicate_succ,List.set_cons_zero,Le.bytes_succ,List.append_assoc]
   rfl
  rw [descantref1_Low.l0,if_pos (by omega),w0,if_pos (by omega),if_pos (by omega),if_pos (by rw [List.length_append,Le.bytes_len,List.length_replicate];omega),hs,Int.toNat_natCast,hset,w1]
  exact ih k (i+1) (by omega) (by omega)
theorem low_f (k n x:Nat) (hn:n≤4) (hk:n<k):descantref1_Low.f k (x:Int) (n:Int)=some (strOfNums (Le.bytes n x)):=by
 unfold descantref1_Low.f
 rw [if_pos (by omega),if_pos (by rw [Int.toNat_natCast];omega),Int.toNat_natCast]
 have:=low_l0 n x hn n k 0 (by omega) hk
 rw [Nat.sub_zero] at this
 exact this
abbrev lo (n x:Nat):ByteArray:=strOfNums (Le.bytes n x)
theorem lo_size (n x:Nat):(lo n x).size=n:=by rw [strOfNums_size,Le.bytes_len]
def wvA:ByteArray:=⟨#[87,65,86,69,102,109,116,32,16,0,0,0,1,0]⟩
def wvR:ByteArray:=⟨#[114,97,116,101,97,110,100,98]⟩
def wvD:ByteArray:=⟨#[100,97,116,97]⟩
def wvP:ByteArray:=⟨#[112]⟩
def wvM:ByteArray:=⟨#[109,111,114,101,3,0,0,0,97,98,99,100]⟩
def wvF:ByteArray:=⟨#[82,73,70,70]⟩
theorem wvA_size:wvA.size=14:=rfl
theorem wvR_size:wvR.size=8:=rfl
theorem wvD_size:wvD.size=4:=rfl
theorem wvP_size:wvP.size=1:=rfl
theorem wvM_size:wvM.size=12:=rfl
theorem wvF_size:wvF.size=4:=rfl
def wavX (ch bi:Nat) (d:ByteArray):ByteArray:=((((((wvA++lo 2 ch)++wvR)++lo 2 (ch*bi / 8))++lo 2 bi)++wvD)++lo 4 d.size)++d
def wavS (ch bi:Nat) (d:ByteArray):ByteArray:=if d.size%2=1 then (wavX ch bi d++wvP)++wvM else wavX ch bi d++wvM
def wavB (ch bi:Nat) (d:ByteArray):ByteArray:=(wvF++lo 4 (wavS ch bi d).size)++wavS ch bi d
theorem wavX_size (ch bi:Nat) (d:ByteArray):(wavX ch bi d).size=36+d.size:=by
 unfold wavX
 simp only [ByteArray.size_append,lo_size,wvA_size,wvR_size,wvD_size]
theorem wavS_size (ch bi:Nat) (d:ByteArray):(wavS ch bi d).size=48+d.size+d.size%2:=by
 unfold wavS
 split
 ·simp only [ByteArray.size_append,wavX_size,wvP_size,wvM_size];omega
 ·simp only [ByteArray.size_append,wavX_size,wvM_size];omega
theorem wavB_size (ch bi:Nat) (d:ByteArray):(wavB ch bi d).size=56+d.size+d.size%2:=by
 unfold wavB
 simp only [ByteArray.size_append,wavS_size,lo_size,wvF_size]
 omega
theorem frame_nat (ch bi:Nat) (hc:ch=1∨ch=2) (hb:bi=8∨bi=16):wrap64 (Int.tdiv (wrap64 ((ch:Int)*(bi:Int))) 8)=((ch*bi / 8:Nat):Int):=by
 rcases hc with rfl | rfl<;>rcases hb with rfl | rfl<;>kernel_rfl
theorem wav_f (k ch bi:Nat) (d:ByteArray) (hc:ch=1∨ch=2) (hb:bi=8∨bi=16) (hd:d.size≤1000000000000000) (hk:4<k):descanttop_wav.f k (ch:Int) (bi:Int) d=some (wavB ch bi d):=by
 have s1:=lo_size 2 ch
 have s2:=lo_size 2 (ch*bi / 8)
 have s3:=lo_size 2 bi
 have s4:=lo_size 4 d.size
 unfold descanttop_wav.f
 show (descantref1_Low.f k (ch:Int) ((2:Nat):Int)).bind _=_
 rw [low_f k 2 ch (by omega) (by omega),Option.bind_some,frame_nat ch bi hc hb]
 change (if 14+(lo 2 ch).size≤_ then (if (wvA++lo 2 ch).size+8≤_ then (descantref1_Low.f k ((ch*bi / 8:Nat):Int) ((2:Nat):Int)).bind _ else _) else _)=_
 rw [if_pos (by omega),if_pos (by simp only [ByteArray.size_append,wvA_size,lo_size];omega),low_f k 2 _ (by omega) (by omega),Option.bind_some]
 change (if ((wvA++lo 2 ch)++wvR).size+(lo 2 (ch*bi / 8)).size≤_ then (descantref1_Low.f k (bi:Int) ((2:Nat):Int)).bind _ else _)=_
 rw [if_pos (by simp only [ByteArray.size_append,wvA_size,wvR_size,lo_size];omega),low_f k 2 _ (by omega) (by omega),Option.bind_some]
 change (if (((wvA++lo 2 ch)++wvR)++lo 2 (ch*bi / 8)).size+(lo 2 bi).size≤_ then (if ((((wvA++lo 2 ch)++wvR)++lo 2 (ch*bi / 8))++lo 2 bi).size+4≤_ then (descantref1_Low.f k (d.size:Int) ((4:Nat):Int)).bind _ else _) else _)=_
 rw [if_pos (by simp only [ByteArray.size_append,wvA_size,wvR_size,lo_size];omega),if_pos (by simp only [ByteArray.size_append,wvA_size,wvR_size,lo_size];omega),low_f k 4 _ (by omega) (by omega),Option.bind_some]
 change (if (((((wvA++lo 2 ch)++wvR)++lo 2 (ch*bi / 8))++lo 2 bi)++wvD).size+(lo 4 d.size).size≤_ then (if ((((((wvA++lo 2 ch)++wvR)++lo 2 (ch*bi / 8))++lo 2 bi)++wvD)++lo 4 d.size).size+d.size≤_ then (if (d.size:Int)%2=1 then (if (wavX ch bi d).size+1≤_ then (if (wavX ch bi d++wvP).size+12≤_ then (descantref1_Low.f k (((wavX ch bi d++wvP)++wvM).size:Int) ((4:Nat):Int)).bind _ else _) else _) else (if (wavX ch bi d).size+12≤_ then (descantref1_Low.f k ((wavX ch bi d++wvM).size:Int) ((4:Nat):Int)).bind _ else _)) else _) else _)=_
 rw [if_pos (by simp only [ByteArray.size_append,wvA_size,wvR_size,wvD_size,lo_size];omega),if_pos (by simp only [ByteArray.size_append,wvA_size,wvR_size,wvD_size,lo_size];omega)]
 by_cases hp:d.size%2=1
 ·have e:wavS ch bi d=(wavX ch bi d++wvP)++wvM:=by unfold wavS;rw [if_pos hp]
  have z:=wavS_size ch bi d
  rw [if_pos (by omega),if_pos (by rw [wavX_size];omega),if_pos (by rw [ByteArray.size_append,wavX_size,wvP_size];omega),low_f k 4 _ (by omega) (by omega),Option.bind_some]
  change (if 4+(lo 4 ((wavX ch bi d++wvP)++wvM).size).size≤_ then (if (wvF++lo 4 ((wavX ch bi d++wvP)++wvM).size).size+((wavX ch bi d++wvP)++wvM).size≤_ then some ((wvF++lo 4 ((wavX ch bi d++wvP)++wvM).size)++((wavX ch bi d++wvP)++wvM)) else _) else _)=_
  rw [←e,if_pos (by rw [lo_size];omega),if_pos (by rw [ByteArray.size_append,lo_size,wvF_size,z];omega)]
  rfl
 ·have e:wavS ch bi d=wavX ch bi d++wvM:=by unfold wavS;rw [if_neg hp]
  have z:=wavS_size ch bi d
  rw [if_neg (by omega),if_pos (by rw [wavX_size];omega),low_f k 4 _ (by omega) (by omega),Option.bind_some]
  change (if 4+(lo 4 (wavX ch bi d++wvM).size).size≤_ then (if (wvF++lo 4 (wavX ch bi d++wvM).size).size+(wavX ch bi d++wvM).size≤_ then some ((wvF++lo 4 (wavX ch bi d++wvM).size)++(wavX ch bi d++wvM)) else _) else _)=_
  rw [←e,if_pos (by rw [lo_size];omega),if_pos (by rw [ByteArray.size_append,lo_size,wvF_size,z];omega)]
  rfl
theorem fget_k (k:Nat) (hk:20≤k) (n x:Nat) (h1:1≤n) (hn:n≤4) (hx:x<256 ^ n):field_Get.f k (lo n x)=some ((x:Int),0):=by
 obtain ⟨d,rfl⟩:=Nat.exists_eq_add_of_le hk
 exact leO_le (fun k=>field_Get.f k (lo n x)) (fun k=>field_Get.mono _ k) d 20 _ (Le.fget n x h1 hn hx)
def LF:List UInt8:= [82,73,70,70]
def LW:List UInt8:= [87,65,86,69]
def Lf:List UInt8:= [102,109,116,32]
def Lr:List UInt8:= [114,97,116,101,97,110,100,98]
def LD:List UInt8:= [100,97,116,97]
def LM:List UInt8:= [109,111,114,101]
def La:List UInt8:= [97,98,99,100]
def Lp (n:Nat):List UInt8:=if n%2=1 then [112] else []
theorem Lp_len (n:Nat):(Lp n).length=n%2:=by
 unfold Lp
 split
 ·rename_i h;rw [h];rfl
 ·rename_i h;show 0=_;omega
abbrev l2 (x:Nat):List UInt8:=nb (Le.bytes 2 x)
abbrev l4 (x:Nat):List UInt8:=nb (Le.bytes 4 x)
theorem l2_len (x:Nat):(l2 x).length=2:=by rw [nb_len,Le.bytes_len]
theorem l4_len (x:Nat):(l4 x).length=4:=by rw [nb_len,Le.bytes_len]
theorem l4_16:l4 16= [16,0,0,0]:=by kernel_rfl
theorem l4_3:l4 3= [3,0,0,0]:=by kernel_rfl
theorem l2_1:l2 1= [1,0]:=by kernel_rfl
def Lm (ch bi:Nat):List UInt8:=l2 1++(l2 ch++(Lr++(l2 (ch*bi / 8)++l2 bi)))
theorem Lm_len (ch bi:Nat):(Lm ch bi).length=16:=by
 unfold Lm
 simp only [List.length_append,l2_len]
 rfl
theorem wavB_list (ch bi:Nat) (d:ByteArray):(wavB ch bi d).data.toList=LF++(l4 (48+d.size+d.size%2)++(LW++(Lf++(l4 16++(Lm ch bi++(LD++(l4 d.size++(d.data.toList++(Lp d.size++(LM++(l4 3++La))))))))))):=by
 have eA:wvA.data.toList=LW++(Lf++(l4 16++l2 1)):=by rw [l4_16,l2_1];rfl
 have eM:wvM.data.toList=LM++(l4 3++La):=by rw [l4_3];rfl
 have eF:wvF.data.toList=LF:=rfl
 have eR:wvR.data.toList=Lr:=rfl
 have eD:wvD.data.toList=LD:=rfl
 have eP:wvP.data.toList= [112]:=rfl
 unfold wavB
 rw [wavS_size]
 unfold wavS wavX Lm Lp
 split<;>simp only [ByteArray.data_append,Array.toList_append,eA,eM,eF,eR,eD,eP,List.append_assoc,List.nil_append]
structure WavAt (W:ByteArray) (ch bi n p:Nat) (d:ByteArray):Prop where
 size:W.size=n
 hn:n=56+d.size+d.size%2
 hp:p=44+d.size+d.size%2
 riff:W.extract 0 4=⟨LF.toArray⟩
 all:W.extract 4 8=lo 4 (n - 8)
 wave:W.extract 8 12=⟨LW.toArray⟩
 fmt:W.extract 12 16=⟨Lf.toArray⟩
 fsz:W.extract 16 20=lo 4 16
 form:W.extract 20 36=⟨(Lm ch bi).toArray⟩
 data:W.extract 36 40=⟨LD.toArray⟩
 dsz:W.extract 40 44=lo 4 d.size
 own:W.extract 44 (44+d.size)=d
 more:W.extract p (p+4)=⟨LM.toArray⟩
 msz:W.extract (p+4) (p+8)=lo 4 3
theorem wavB_at (ch bi:Nat) (d:ByteArray):WavAt (wavB ch bi d) ch bi (56+d.size+d.size%2) (44+d.size+d.size%2) d:=by
 have h:=wavB_list ch bi d
 have e1:=Lm_len ch bi
 have e2:=Lp_len d.size
 have e3:LF.length=4:=rfl
 have e4:LW.length=4:=rfl
 have e5:Lf.length=4:=rfl
 have e6:LD.length=4:=rfl
 have e7:LM.length=4:=rfl
 refine ⟨wavB_size ch bi d,rfl,rfl,?_,?_,?_,?_,?_,?_,?_,?_,?_,?_,?_⟩
 ·exact ext_of _ [] LF _ h 0 4 rfl rfl
 ·rw [show 56+d.size+d.size%2 - 8=48+d.size+d.size%2 by omega]
  exact ext_of _ LF (l4 _) _ h 4 8 rfl (by rw [l4_len])
 ·exact ext_of _ (LF++l4 (48+d.size+d.size%2)) LW _ (by rw [h];simp only [List.append_assoc];rfl) 8 12 (by rw [List.length_append,l4_len,e3]) (by rw [e4])
 ·exact ext_of _ (LF++(l4 (48+d.size+d.size%2)++LW)) Lf _ (by rw [h];simp only [List.append_assoc];rfl) 12 16 (by simp only [List.length_append,l4_len,e3,e4]) (by rw [e5])
 ·exact ext_of _ (LF++(l4 (48+d.size+d.size%2)++(LW++Lf))) (l4 16) _ (by rw [h];simp only [List.append_assoc];rfl) 16 20 (by simp only [List.length_append,l4_len,e3,e4,e5]) (by rw [l4_len])
 ·exact ext_of _ (LF++(l4 (48+d.size+d.size%2)++(LW++(Lf++l4 16)))) (Lm ch bi) _ (by rw [h];simp only [List.append_assoc];rfl) 20 36 (by simp only [List.length_append,l4_len,e3,e4,e5]) (by rw [e1])
 ·exact ext_of _ (LF++(l4 (48+d.size+d.size%2)++(LW++(Lf++(l4 16++Lm ch bi))))) LD _ (by rw [h];simp only [List.append_assoc];rfl) 36 40 (by simp only [List.length_append,l4_len,e3,e4,e5,e1]) (by rw [e6])
 ·exact ext_of _ (LF++(l4 (48+d.size+d.size%2)++(LW++(Lf++(l4 16++(Lm ch bi++LD)))))) (l4 d.size) _ (by rw [h];simp only [List.append_assoc];rfl) 40 44 (by simp only [List.length_append,l4_len,e3,e4,e5,e1,e6]) (by rw [l4_len])
 ·refine (ext_of _ (LF++(l4 (48+d.size+d.size%2)++(LW++(Lf++(l4 16++(Lm ch bi++(LD++l4 d.size))))))) d.data.toList _ (by rw [h];simp only [List.append_assoc];rfl) 44 (44+d.size) (by simp only [List.length_append,l4_len,e3,e4,e5,e1,e6]) (by rw [data_length])).trans (arr_list d)
 ·exact ext_of _ (LF++(l4 (48+d.size+d.size%2)++(LW++(Lf++(l4 16++(Lm ch bi++(LD++(l4 d.size++(d.data.toList++Lp d.size))))))))) LM _ (by rw [h];simp only [List.append_assoc];rfl) _ _ (by simp only [List.length_append,l4_len,e3,e4,e5,e1,e6,e2,data_length,strOfNums_size,Le.bytes_len];omega) (by rw [e7])
 ·exact ext_of _ (LF++(l4 (48+d.size+d.size%2)++(LW++(Lf++(l4 16++(Lm ch bi++(LD++(l4 d.size++(d.data.toList++(Lp d.size++LM)))))))))) (l4 3) _ (by rw [h];simp only [List.append_assoc];rfl) _ _ (by simp only [List.length_append,l4_len,e3,e4,e5,e1,e6,e2,e7,data_length,strOfNums_size,Le.bytes_len];omega) (by rw [l4_len])
theorem size_at (k:Nat) (hk:20≤k) (W:ByteArray) (p x:Nat) (hx:x<256 ^ 4) (hp:p+4≤W.size) (hW:W.size≤140737488355328) (he:W.extract p (p+4)=lo 4 x):riff_size.f k W (p:Int)=some (x:Int):=by
 have w1:wrap64 ((p:Int)+4)=((p+4:Nat):Int):=by rw [wrap_id _ (by omega) (by omega)];omega
 unfold riff_size.f
 rw [w1,if_pos (by omega),if_pos (by omega),if_pos (by omega),Int.toNat_natCast,Int.toNat_natCast,he,fget_k k hk 4 x (by omega) (by omega) hx,Option.bind_some]
theorem chunk_step (k:Nat) (hk:20≤k) (W:ByteArray) (cs:List S116) (p x q:Nat) (id:ByteArray) (hx:x<256 ^ 4) (hW:W.size≤140737488355328) (hc:cs.length<64) (hq:p+8+x+x%2=q) (hqW:q≤W.size)
  (hid:W.extract p (p+4)=id) (he:W.extract (p+4) (p+8)=lo 4 x):riff_Chunks.l0 (k+2) W cs (p:Int)=riff_Chunks.l0 k W (cs++ [⟨id,((p+8:Nat):Int),(x:Int)⟩]) (q:Int):=by
 subst hid
 have h4:(256:Nat) ^ 4=4294967296:=by decide
 rw [h4] at hx
 have b1:p+8+x+x%2≤W.size:=by omega
 have b2:p+4+4≤W.size:=by omega
 have b3:p+8≤W.size:=by omega
 have b4:x+x%2≤W.size - (p+8):=by omega
 have b5:¬(W.size - p<8):=by omega
 have hs:=size_at k hk W (p+4) x (by rw [h4];exact hx) b2 hW he
 clear he
 have w1:wrap64 ((p:Int)+4)=((p+4:Nat):Int):=by clear hs b4 b5 hc;rw [wrap_id _ (by omega) (by omega)];omega
 have w2:wrap64 ((p:Int)+8)=((p+8:Nat):Int):=by clear hs b4 b5 hc w1;rw [wrap_id _ (by omega) (by omega)];omega
 have w3:wrap64 ((W.size:Int) - (p:Int))=((W.size - p:Nat):Int):=by clear hs b4 b5 hc w1 w2;rw [wrap_id _ (by omega) (by omega)];omega
 have w4:wrap64 ((W.size:Int) - ((p+8:Nat):Int))=((W.size - (p+8):Nat):Int):=by clear hs b4 b5 hc w1 w2 w3;rw [wrap_id _ (by omega) (by omega)];omega
 have t2:Int.tmod (x:Int) 2=((x%2:Nat):Int):=rfl
 have w5:wrap64 ((x:Int)+((x%2:Nat):Int))=((x+x%2:Nat):Int):=by clear hs b4 b5 hc w1 w2 w3 w4;rw [wrap_id _ (by omega) (by omega)];omega
 have w6:wrap64 (((p+8:Nat):Int)+((x+x%2:Nat):Int))=(q:Int):=by clear hs b4 b5 hc w1 w2 w3 w4 w5;rw [wrap_id _ (by omega) (by omega)];omega
 have c1:(p:Int)<(W.size:Int):=by clear hs w1 w2 w3 w4 w5 w6;omega
 have c2:¬((cs.length:Int)=64):=by clear hs w1 w2 w3 w4 w5 w6;omega
 have c3:¬(decide (((W.size - p:Nat):Int)<8)=true):=by rw [decide_eq_true_iff];clear hs w1 w2 w3 w4 w5 w6;omega
 have c4:(0:Int)≤(p:Int):=Int.natCast_nonneg p
 have c5:(p:Int)≤((p+4:Nat):Int):=by clear hs w1 w2 w3 w4 w5 w6;omega
 have c6:((p+4:Nat):Int)≤(W.size:Int):=by clear hs w1 w2 w3 w4 w5 w6;omega
 have c7:¬(((x+x%2:Nat):Int)>((W.size - (p+8):Nat):Int)):=by clear hs w1 w2 w3 w4 w5 w6;omega
 have c8:cs.length<4398046511104:=by clear hs w1 w2 w3 w4 w5 w6;omega
 rw [show k+2=(k+1)+1 from rfl,riff_Chunks.l0,if_pos c1,if_neg c2,w3,riff_Chunks.j2,if_neg c3,if_pos c4,w1,if_pos c5,if_pos c6,hs,Option.bind_some,t2,w5,w2,w4,if_neg c7,if_pos c8,w6,Int.toNat_natCast,Int.toNat_natCast]
def chunks3 (n p:Nat):List S116:= [⟨⟨Lf.toArray⟩,((20:Nat):Int),((16:Nat):Int)⟩,⟨⟨LD.toArray⟩,((44:Nat):Int),(n:Int)⟩,⟨⟨LM.toArray⟩,((p+8:Nat):Int),((3:Nat):Int)⟩]
theorem prefix_f {W:ByteArray} (h:W.extract 0 4=⟨LF.toArray⟩) (hs:4≤W.size):strings_HasPrefix.f W (⟨#[82,73,70,70]⟩:ByteArray)=some true:=by
 have e:(⟨#[82,73,70,70]⟩:ByteArray).size=4:=rfl
 unfold strings_HasPrefix.f stringslite_HasPrefix.f
 rw [e,if_pos (by omega),if_pos (by omega),if_pos (by omega),Int.toNat_natCast,h]
 have e2:((⟨LF.toArray⟩:ByteArray).toList==(⟨#[82,73,70,70]⟩:ByteArray).toList)=true:=by kernel_rfl
 rw [e2]
 rfl
theorem chunks_f (k:Nat) (hk:30≤k) {W:ByteArray} {ch bi n p:Nat} {d:ByteArray} (h:WavAt W ch bi n p d) (hs:n≤4096):riff_Chunks.f k W=some (chunks3 d.size p,0):=by
 have e1:=h.hn
 have e2:=h.hp
 have e3:=h.size
 have hp4:(256:Nat) ^ 4=4294967296:=by decide
 have w1:wrap64 ((W.size:Int) - 8)=((n - 8:Nat):Int):=by rw [wrap_id _ (by omega) (by omega)];omega
 unfold riff_Chunks.f
 rw [if_neg (by omega),if_neg (by omega),prefix_f h.riff (by omega),Option.bind_some,if_pos rfl]
 rw [show riff_size.f k W 4=some ((n - 8:Nat):Int) from size_at k (by omega) W 4 (n - 8) (by omega) (by omega) (by omega) h.all,Option.bind_some,w1,if_pos rfl,if_pos (by omega),if_pos (by omega),h.wave]
 obtain ⟨k,rfl⟩:∃m,k=((((m+1)+2)+2)+2)+1:=⟨k - 8,by omega⟩
 rw [show (((⟨LW.toArray⟩:ByteArray).toList !=([87,65,86,69]:List UInt8)))=false from by kernel_rfl,riff_Chunks.j0,if_neg (by simp)]
 have s1:=chunk_step (((k+1)+2)+2) (by omega) W [] 12 16 36 ⟨Lf.toArray⟩ (by omega) (by omega) (by simp) (by omega) (by omega) h.fmt h.fsz
 have s2:=chunk_step ((k+1)+2) (by omega) W [⟨⟨Lf.toArray⟩,((20:Nat):Int),((16:Nat):Int)⟩] 36 d.size p ⟨LD.toArray⟩ (by omega) (by omega) (by simp) (by omega) (by omega) h.data h.dsz
 have s3:=chunk_step (k+1) (by omega) W [⟨⟨Lf.toArray⟩,((20:Nat):Int),((16:Nat):Int)⟩,⟨⟨LD.toArray⟩,((44:Nat):Int),(d.size:Int)⟩] p 3 n ⟨LM.toArray⟩ (by omega) (by omega) (by simp) (by omega) (by omega) h.more h.msz
 refine s1.trans (s2.trans (s3.trans ?_))
 rw [riff_Chunks.l0,if_neg (by omega)]
 rfl
theorem one_fmt (n p:Nat):wave_one.f (chunks3 n p) (⟨#[102,109,116,32]⟩:ByteArray)=some (0,true):=by kernel_rfl
theorem one_data (n p:Nat):wave_one.f (chunks3 n p) (⟨#[100,97,116,97]⟩:ByteArray)=some (1,true):=by kernel_rfl
theorem format_f (k:Nat) (hk:20≤k) (ch bi:Nat) (hc:ch=1∨ch=2) (hb:bi=8∨bi=16):wave_format.f k ⟨(Lm ch bi).toArray⟩=some ((ch:Int),(bi:Int),true):=by
 obtain ⟨d,rfl⟩:=Nat.exists_eq_add_of_le hk
 refine leO_le (fun k=>wave_format.f k ⟨(Lm ch bi).toArray⟩) (fun k=>wave_format.mono _ k) d 20 _ ?_
 rcases hc with rfl | rfl<;>rcases hb with rfl | rfl<;>kernel_rfl
abbrev fsz (ch bi:Nat):Nat:=ch*bi / 8
theorem fsz_pos (ch bi:Nat) (hc:ch=1∨ch=2) (hb:bi=8∨bi=16):1≤fsz ch bi∧fsz ch bi≤4:=by
 rcases hc with rfl | rfl<;>rcases hb with rfl | rfl<;>decide
theorem pframe_f (ch bi:Nat) (hc:ch=1∨ch=2) (hb:bi=8∨bi=16):pcm_Frame.f (ch:Int) (bi:Int)=some ((fsz ch bi:Nat):Int):=by
 unfold pcm_Frame.f
 rw [frame_nat ch bi hc hb]
theorem pframes_f (ch bi:Nat) (hc:ch=1∨ch=2) (hb:bi=8∨bi=16) (d:ByteArray):pcm_Frames.f d (ch:Int) (bi:Int)=some (decide (d.size%fsz ch bi=0)):=by
 have hf:=fsz_pos ch bi hc hb
 unfold pcm_Frames.f
 rw [pframe_f ch bi hc hb,Option.bind_some,if_neg (by omega),←Int.natCast_emod]
 congr 1
 rw [Bool.eq_iff_iff,beq_iff_eq,decide_eq_true_iff]
 omega
theorem parse_go (k:Nat) (hk:40≤k) {W:ByteArray} {ch bi n p:Nat} {d:ByteArray} (h:WavAt W ch bi n p d) (hs:n≤4096) (hc:ch=1∨ch=2) (hb:bi=8∨bi=16):
  wave_Parse.f k W=if d.size%fsz ch bi=0 then some ((ch:Int),(bi:Int),W.extract 0 44,d,W.extract (44+d.size) n,0) else some (0,0,(⟨#[]⟩:ByteArray),(⟨#[]⟩:ByteArray),(⟨#[]⟩:ByteArray),2100):=by
 have e1:=h.hn
 have e3:=h.size
 have b1:W.size≤4096:=by omega
 have b2:44+d.size≤W.size:=by omega
 have w1:wrap64 (((20:Nat):Int)+16)=((36:Nat):Int):=by rw [wrap_id _ (by omega) (by omega)];rfl
 have w2:wrap64 (((44:Nat):Int)+(d.size:Int))=((44+d.size:Nat):Int):=by rw [wrap_id _ (by omega) (by omega)];omega
 unfold wave_Parse.f
 rw [chunks_f k (by omega) h hs,Option.bind_some]
 dsimp only
 rw [one_fmt,Option.bind_some,one_data,Option.bind_some]
 dsimp only
 rw [if_pos rfl,if_pos rfl,if_pos rfl,if_neg (by omega),if_pos (by omega),if_pos (show (0:Int)<((chunks3 d.size p).length:Int) from by show (0:Int)<((3:Nat):Int);omega),show ((rd_T116 (chunks3 d.size p) 0).f2 !=16)=false from by kernel_rfl]
 obtain ⟨k,rfl⟩:∃m,k=m+1:=⟨k - 1,by omega⟩
 have f0:(rd_T116 (chunks3 d.size p) 0).f1=((20:Nat):Int):=rfl
 have f1:(rd_T116 (chunks3 d.size p) 1).f1=((44:Nat):Int):=rfl
 have f2:(rd_T116 (chunks3 d.size p) 1).f2=(d.size:Int):=rfl
 have fl:((chunks3 d.size p).length:Int)=3:=rfl
 rw [wave_Parse.j0,if_neg (by simp),f0,f1,f2,fl,w1,w2,Int.toNat_natCast,Int.toNat_natCast,Int.toNat_natCast,Int.toNat_natCast,h.own,h.form,if_pos (by omega),if_pos (by omega),if_pos (by omega),if_pos (by omega),if_pos (by omega),format_f k (by omega) ch bi hc hb,Option.bind_some,
  if_pos (by omega),if_pos (by omega),if_pos (by omega),if_pos (by omega),if_pos (by omega)]
 dsimp only
 rw [if_pos rfl,pframes_f ch bi hc hb,Option.bind_some]
 by_cases hm:d.size%fsz ch bi=0
 ·rw [if_pos (by rw [decide_eq_true_iff];exact hm),if_pos (by omega),w2,if_pos (by omega),if_pos (by omega),if_pos hm,Int.toNat_natCast,e3]
 ·rw [if_neg (by rw [decide_eq_true_iff];exact hm),if_neg hm]
theorem parse_big (k:Nat) (hk:40≤k) (W:ByteArray) (hs:4096<W.size):wave_Parse.f k W=some (0,0,(⟨#[]⟩:ByteArray),(⟨#[]⟩:ByteArray),(⟨#[]⟩:ByteArray),2100):=by
 obtain ⟨k,rfl⟩:∃m,k=m+1:=⟨k - 1,by omega⟩
 have hc:riff_Chunks.f (k+1) W=some ([],2000):=by
  unfold riff_Chunks.f
  rw [if_pos (by omega),riff_Chunks.j0,if_pos rfl]
 obtain ⟨i,hi⟩:∃i,wave_one.f [] (⟨#[102,109,116,32]⟩:ByteArray)=some i:=⟨_,rfl⟩
 obtain ⟨j,hj⟩:∃i,wave_one.f [] (⟨#[100,97,116,97]⟩:ByteArray)=some i:=⟨_,rfl⟩
 unfold wave_Parse.f
 rw [hc,Option.bind_some]
 dsimp only
 rw [hi,Option.bind_some,hj,Option.bind_some,if_neg (by decide),wave_Parse.j0,if_pos rfl]
end Go.Proofs.YtfghldonnffldaaGreatDoor
namespace Go.Proofs.YtfghldonnffldaaGreatDoor
open Go.RowKit YtfghldonnffldaaGreatDoorW.PrintWords YtfghldonnffldaaGreatDoorW.PrintLast YtfghldonnffldaaGreatDoorW.PrintMore TBase
open UOne VTwo YFou
theorem fput_k (k:Nat) (hk:20≤k) (n x:Nat) (h1:1≤n) (hn:n≤4) (hx:x<256 ^ n):field_Put.f k (x:Int) (n:Int)=some (lo n x,0):=by
 obtain ⟨d,rfl⟩:=Nat.exists_eq_add_of_le hk
 exact leO_le (fun k=>field_Put.f k (x:Int) (n:Int)) (fun k=>field_Put.mono _ _ k) d 20 _ (Le.put_f n x h1 hn hx)
theorem mayf (ch bi:Nat) (hc:ch=1∨ch=2) (hb:bi=8∨bi=16):pcm_May.f (ch:Int) (bi:Int)=some true:=by
 rcases hc with rfl | rfl<;>rcases hb with rfl | rfl<;>kernel_rfl
def told (kind by_ many:Nat) (own:ByteArray):ByteArray:=((strOfNums [(kind:Int),(by_:Int),(many:Int)]++lo 2 own.size)++own)++lo 4 (Crc.sum ((strOfNums [(kind:Int),(by_:Int),(many:Int)]++lo 2 own.size)++own).data.toList)
theorem told_f (k kind by_ many:Nat) (own:ByteArray) (hk:20≤k) (h1:kind<256) (h2:by_<256) (h3:many<256) (hs:own.size≤65535):segment_told.f k (kind:Int) (by_:Int) (many:Int) own=some (told kind by_ many own):=by
 have z3:(strOfNums [(kind:Int),(by_:Int),(many:Int)]).size=3:=strOfNums_size _
 have m1:(kind:Int)%256=(kind:Int):=by omega
 have m2:(by_:Int)%256=(by_:Int):=by omega
 have m3:(many:Int)%256=(many:Int):=by omega
 have hs2:own.size<256 ^ 2:=Nat.lt_of_le_of_lt hs (by decide)
 have hcr:Crc.sum ((strOfNums [(kind:Int),(by_:Int),(many:Int)]++lo 2 own.size)++own).data.toList<256 ^ 4:=Crc.sum_lt _
 unfold segment_told.f
 rw [show field_Put.f k (own.size:Int) 2=some (lo 2 own.size,0) from fput_k k hk 2 own.size (by omega) (by omega) hs2,Option.bind_some,Option.bind_some,m1,m2,m3]
 dsimp only
 rw [if_pos (by rw [z3,lo_size];omega),if_pos (by rw [ByteArray.size_append,z3,lo_size];omega)]
 unfold crc_Sum.f
 rw [if_pos (by simp only [ByteArray.size_append,z3,lo_size];omega),Option.bind_some,show field_Put.f k (Crc.sum ((strOfNums [(kind:Int),(by_:Int),(many:Int)]++lo 2 own.size)++own).data.toList:Int) 4=some (lo 4 (Crc.sum ((strOfNums [(kind:Int),(by_:Int),(many:Int)]++lo 2 own.size)++own).data.toList),0) from fput_k k hk 4 _ (by omega) (by omega) hcr,Option.bind_some]
 dsimp only
 rw [if_pos (by simp only [ByteArray.size_append,z3,lo_size];omega)]
 rfl
theorem told_size (kind by_ many:Nat) (own:ByteArray):(told kind by_ many own).size=9+own.size:=by
 unfold told
 simp only [ByteArray.size_append,strOfNums_size,Le.bytes_len,List.length_cons,List.length_nil]
 omega
def rep (n:Nat) (v:UInt8):ByteArray:=⟨(List.replicate n v).toArray⟩
theorem frame_f (d:ByteArray) (ch bi:Nat) (hc:ch=1∨ch=2) (hb:bi=8∨bi=16):segment_sound_frame.f d (ch:Int) (bi:Int)=some ((fsz ch bi:Nat):Int):=by
 unfold segment_sound_frame.f
 rw [pframe_f ch bi hc hb,Option.bind_some]
theorem many_f (d:ByteArray) (ch bi m:Nat) (hc:ch=1∨ch=2) (hb:bi=8∨bi=16) (hd:d.size=m*fsz ch bi) (hs:d.size≤100000):segment_sound_many.f d (ch:Int) (bi:Int)=some (m:Int):=by
 have hf:=fsz_pos ch bi hc hb
 have e:((d.size:Int) / ((fsz ch bi:Nat):Int))=(m:Int):=by
  rw [hd,←Int.natCast_ediv,Nat.mul_div_cancel _ (by omega)]
 have hm:m≤100000:=by
  have:m*1≤m*fsz ch bi:=Nat.mul_le_mul_left m hf.1
  omega
 unfold segment_sound_many.f
 rw [frame_f d ch bi hc hb,Option.bind_some,if_neg (by omega),e,wrap_id _ (by omega) (by omega)]
end Go.Proofs.YtfghldonnffldaaGreatDoor
namespace Go.Proofs.YtfghldonnffldaaGreatDoor
open Go.RowKit YtfghldonnffldaaGreatDoorW.PrintWords YtfghldonnffldaaGreatDoorW.PrintLast YtfghldonnffldaaGreatDoorW.PrintMore TBase
open UOne
theorem turnL_len (one:Int→Int→Int×Int) (l:List Int):∀a A B,(turnL one a A B l).length=l.length:=by
 induction l with
 | nil=>intro a A B;rfl
 | cons x r ih=>intro a A B;unfold turnL;rw [List.length_cons,List.length_cons,ih]
theorem turnL_num (l:List Int):∀a A B,COk a A B→(∀x∈l,csB x=true)→∀y∈turnL onePut a A B l,numOk y:=by
 induction l with
 | nil=>intro a A B _ _ y hy;cases hy
 | cons x r ih=>
  intro a A B hc h y hy
  have hx:=csB_of (h x List.mem_cons_self)
  have hg:=cGuess_bd hc
  unfold turnL at hy
  rcases List.mem_cons.1 hy with rfl | hy
  ·show -16777216≤x - cGuess a A B∧x - cGuess a A B≤16777216
   omega
  ·exact ih _ _ _ (cLearn_ok hc hx) (fun z hz=>h z (List.mem_cons_of_mem _ hz)) y hy
theorem lineP_num {l:List Int} (h:∀x∈l,csB x=true):∀y∈lineP l,numOk y:=turnL_num l _ _ _ zero_ok h
theorem not_odd {l:List Int} (h:∀x∈l,csB x=true):l.any smOdd=false:=by
 rw [List.any_eq_false]
 intro x hx
 unfold smOdd
 simpa using h x hx
theorem numB_all {l:List Int} (h:∀x∈l,numOk x):l.all numB=true:=by
 rw [List.all_eq_true]
 intro x hx
 exact decide_eq_true (h x hx)
theorem resPut_f {l:List Int} (h:∀x∈l,numOk x) (hl:l.length≤256):residual_Put.f l=some (resPut l,0):=by
 unfold residual_Put.f
 rw [if_pos ⟨hl,numB_all h⟩]
theorem linePut_f {l:List Int} (h:∀x∈l,csB x=true) (hl:l.length≤256):line_Put.f l=some (lineP l,0):=by
 unfold line_Put.f
 rw [if_pos ⟨hl,not_odd h⟩]
def sideT (c:Int) (x h:List Int):List Int:=List.zipWith (fun a b=>a+c*b) x h
theorem set_mid {A T R:List Int} (i:Nat) (hA:i<A.length) (hT:i<T.length) (hl:A.length=T.length):
  ((T.take i++A.drop i).set i (T.getD i 0))=T.take (i+1)++A.drop (i+1):=by
 have h1:(T.take i).length=i:=by rw [List.length_take];omega
 rw [List.set_append_right _ _ (by omega),h1,Nat.sub_self,List.drop_eq_getElem_cons hA,List.set_cons_zero,List.take_succ_eq_append_getElem hT,List.append_assoc,List.getD_eq_getElem?_getD,List.getElem?_eq_getElem hT]
 rfl
theorem rd_mid {A T:List Int} (i:Nat) (hA:i<A.length) (hT:i≤T.length):rd (T.take i++A.drop i) (i:Int)=A.getD i 0:=by
 have h1:(T.take i).length=i:=by rw [List.length_take];omega
 unfold rd
 rw [Int.toNat_natCast,List.getD_eq_getElem?_getD,List.getElem?_append_right (by omega),h1,Nat.sub_self,List.getElem?_drop,List.getD_eq_getElem?_getD]
 rfl
theorem sideT_len {c:Int} {x h:List Int} (hl:x.length=h.length):(sideT c x h).length=x.length:=by
 unfold sideT
 rw [List.length_zipWith]
 omega
theorem sideT_get {c:Int} {x h:List Int} (i:Nat) (hx:i<x.length) (hh:i<h.length):(sideT c x h).getD i 0=x.getD i 0+c*h.getD i 0:=by
 unfold sideT
 rw [List.getD_eq_getElem?_getD,List.getElem?_zipWith,List.getElem?_eq_getElem hx,List.getElem?_eq_getElem hh,List.getD_eq_getElem?_getD,List.getD_eq_getElem?_getD,List.getElem?_eq_getElem hx,List.getElem?_eq_getElem hh]
 rfl
theorem wid64 (x:Int) (h1: -9223372036854775808≤x) (h2:x<9223372036854775808):wrap64 x=x:=by unfold wrap64;omega
theorem wsum64 (a c h:Int) (ha: -1000000≤a∧a≤1000000) (hc:c=0∨c=1∨c= -1) (hh: -1000000≤h∧h≤1000000):wrap64 (a+wrap64 (c*h))=a+c*h:=by
 rcases hc with rfl | rfl | rfl
 ·rw [wid64 (0*h) (by omega) (by omega),wid64 _ (by omega) (by omega)]
 ·rw [wid64 (1*h) (by omega) (by omega),wid64 _ (by omega) (by omega)]
 ·rw [wid64 (-1*h) (by omega) (by omega),wid64 _ (by omega) (by omega)]
theorem turn_l1 (x0:List (List Int)) (x1:Int) (x6:List (List Int)) (x7:Int) (x14:List (List Int)) (x15 x16:Int) (A hr:List Int) (c:Int) (hc:wrap64 (x7*x1)=c) (hc1:c=0∨c=1∨c= -1)
  (h0:0<(x0.length:Int)) (h6:x6.length<5864062014805) (hh:UOne.rd_L1 x0 0=hr) (hl:A.length=hr.length) (hA:∀x∈A,-1000000≤x∧x≤1000000) (hH:∀x∈hr,-1000000≤x∧x≤1000000) (hn:A.length≤1000000) (k:Nat):
  ∀d i,i+d=A.length→side_turn.l1 (k+d+1) x0 x1 x6 x7 ((sideT c A hr).take i++A.drop i) x14 x15 x16 (A.length:Int) (i:Int)=side_turn.l0 k x0 x1 (x6++ [sideT c A hr]) x14 x15 (wrap64 (x16+1)):=by
 intro d
 induction d with
 | zero=>
  intro i hi
  obtain rfl:A.length=i:=by omega
  unfold side_turn.l1
  rw [if_neg (by omega),if_pos h6,List.drop_length,List.append_nil,List.take_of_length_le (by rw [sideT_len hl];exact Nat.le_refl _)]
 | succ d ih=>
  intro i hi
  have h1:i<A.length:=by omega
  have h2:i<hr.length:=by omega
  have e3:((sideT c A hr).take i++A.drop i).length=A.length:=by rw [List.length_append,List.length_take,List.length_drop,sideT_len hl];omega
  have e4:wrap64 ((i:Int)+1)=((i+1:Nat):Int):=by rw [wid64 _ (by omega) (by omega)];omega
  have e5:rd hr (i:Int)=hr.getD i 0:=by unfold rd;rw [Int.toNat_natCast]
  have m1:A.getD i 0∈A:=by rw [List.getD_eq_getElem?_getD,List.getElem?_eq_getElem h1];exact List.getElem_mem h1
  have m2:hr.getD i 0∈hr:=by rw [List.getD_eq_getElem?_getD,List.getElem?_eq_getElem h2];exact List.getElem_mem h2
  rw [show k+(d+1)+1=(k+d+1)+1 from rfl]
  unfold side_turn.l1
  rw [hh,if_pos (by omega),if_pos (by omega),e3,if_pos (by omega),if_pos h0,if_pos (by omega),e4,Int.toNat_natCast,rd_mid i h1 (by rw [sideT_len hl];omega),hc,e5,wsum64 _ _ _ (hA _ m1) hc1 (hH _ m2),←sideT_get i h1 h2,
   set_mid (R:= []) i h1 (by rw [sideT_len hl];exact h1) (by rw [sideT_len hl])]
  exact ih (i+1) (by omega)
theorem sideT_zero {x h:List Int} (hl:x.length=h.length):sideT 0 x h=x:=by
 apply List.ext_getElem (sideT_len hl)
 intro i h1 h2
 refine (List.getElem_zipWith (h:=h1)).trans ?_
 omega
theorem sideRow_ok {n:Nat} {l:List Int} (hl:l.length=n) (h:∀x∈l,csB x=true):sideRow n l=true:=by
 unfold sideRow
 rw [not_odd h,hl]
 simp
theorem sidePut_two (a c:List Int) (hl:c.length=a.length) (hn:a.length≤1000000) (ha:∀x∈a,csB x=true) (hc:∀x∈c,csB x=true) (hd:∀x∈sideT (-1) c a,csB x=true):
  side_Put.f (2*a.length+5) [a,c]=some ([a,sideT (-1) c a],0):=by
 have ba:∀x∈a,-1000000≤x∧x≤1000000:=fun x hx=>by have:=csB_of (ha x hx);omega
 have bc:∀x∈c,-1000000≤x∧x≤1000000:=fun x hx=>by have:=csB_of (hc x hx);omega
 have m1:side_May.f [a,c]=some true:=by
  unfold side_May.f
  show some (([a,c].all (sideRow a.length)) && _)=_
  simp [sideRow_ok rfl ha,sideRow_ok hl hc]
 have m2:side_May.f [a,sideT (-1) c a]=some true:=by
  unfold side_May.f
  show some (([a,sideT (-1) c a].all (sideRow a.length)) && _)=_
  simp [sideRow_ok rfl ha,sideRow_ok (n:=a.length) (by rw [sideT_len hl];exact hl) hd]
 unfold side_Put.f side_turn.f
 rw [m1,Option.bind_some,if_pos rfl,show 2*a.length+5=((a.length+(a.length+2)+1)+1)+1 by omega]
 unfold side_turn.l0
 rw [if_pos (by simp),if_pos (by omega),if_pos (by simp),show UOne.rd_L1 [a,c] 0=a from rfl]
 unfold slices_Clone_int_int.f
 rw [if_pos (by omega),Option.bind_some]
 have t1:=turn_l1 [a,c] (-1) [] 0 [a,c] ([a,c].length:Int) 0 a a 0 (by unfold wrap64;omega) (by omega) (by simp) (by simp) rfl rfl ba ba hn (a.length+2+1) a.length 0 (by omega)
 rw [List.take_zero,List.nil_append,List.drop_zero,sideT_zero rfl] at t1
 rw [show a.length+(a.length+2)+1+1=a.length+2+1+a.length+1 by omega]
 rw [show ((0:Nat):Int)=0 from rfl] at t1
 rw [t1]
 rw [show wrap64 (0+1)=1 from wid64 1 (by omega) (by omega)]
 unfold side_turn.l0
 rw [if_pos (by simp),if_pos (by omega),if_pos (by simp),show UOne.rd_L1 [a,c] 1=c from rfl]
 unfold slices_Clone_int_int.f
 rw [if_pos (by omega),Option.bind_some]
 have t2:=turn_l1 [a,c] (-1) [a] 1 [a,c] ([a,c].length:Int) 1 c a (-1) (by unfold wrap64;omega) (by omega) (by simp) (by simp) rfl hl bc ba (by omega) 1 c.length 0 (by omega)
 rw [List.take_zero,List.nil_append,List.drop_zero] at t2
 rw [show a.length+2=1+c.length+1 by omega]
 rw [show ((0:Nat):Int)=0 from rfl] at t2
 rw [List.nil_append,t2,show wrap64 (1+1)=2 from wid64 2 (by omega) (by omega)]
 unfold side_turn.l0
 rw [if_neg (by simp),show [a]++ [sideT (-1) c a]= [a,sideT (-1) c a] from rfl,m2,Option.bind_some,if_pos rfl]
 rfl
end Go.Proofs.YtfghldonnffldaaGreatDoor
namespace Go.Proofs.YtfghldonnffldaaGreatDoor
open Go.RowKit YtfghldonnffldaaGreatDoorW.PrintWords YtfghldonnffldaaGreatDoorW.PrintLast YtfghldonnffldaaGreatDoorW.PrintMore TBase
open UOne VTwo YFou
theorem i16_rng (x:Int): -32768≤IntKind.i16.wrap x∧IntKind.i16.wrap x≤32767:=by
 have h:IntKind.i16.wrap x=(x+32768)%65536 - 32768:=by
  unfold IntKind.wrap
  simp [IntKind.signed,IntKind.bits]
  try omega
 rw [h]
 omega
theorem bt_rng (s:ByteArray) (i:Int):0≤bt s i∧bt s i≤255:=by
 unfold bt
 split
 ·have:=UInt8.toNat_lt (s[i.toNat])
  omega
 ·omega
theorem sample_bd (s:ByteArray) (h:s.size=1∨s.size=2):∃x,pcm_sample.f s=some x∧ -32768≤x∧x≤32767:=by
 unfold pcm_sample.f
 rcases h with h | h
 ·rw [if_pos (by omega),if_pos (by omega)]
  have hb:=bt_rng s 0
  refine ⟨_,rfl,?_⟩
  rw [wrap_id (bt s 0) (by omega) (by omega),wrap_id _ (by omega) (by omega)]
  omega
 ·rw [if_neg (by omega),if_pos (by omega),if_pos (by omega)]
  have hb:=i16_rng (Go.bits .or .u16 (IntKind.u16.wrap (bt s 0)) (IntKind.u16.wrap ((IntKind.u16.wrap (bt s 1))*256)))
  refine ⟨_,rfl,?_⟩
  rw [wrap_id _ (by omega) (by omega)]
  exact hb
def smp (x:Int):Prop:= -32768≤x∧x≤32768
theorem smp_cs {x:Int} (h:smp x):csB x=true:=decide_eq_true ⟨by have:=h.1;omega,by have:=h.2;omega⟩
theorem pgetB_l0 (k ch w n:Nat) (d:ByteArray) (bi:Int) (hc:ch=1∨ch=2) (hw:w=1∨w=2) (hn:n*w=d.size) (hd:d.size≤4096) (hnb:n≤4096):
  ∀m i,i+m=n→∀x6:List (List Int),x6.length=ch→(∀j,j<ch→(x6.getD j []).length=(i+ch - 1 - j) / ch)→(∀r∈x6,∀x∈r,smp x)→
   ∃rows,pcm_Get.l0 (k+m+1) d x6 (w:Int) (i:Int) (ch:Int) bi=some (rows,0)∧rows.length=ch∧(∀j,j<ch→(rows.getD j []).length=(n+ch - 1 - j) / ch)∧(∀r∈rows,∀x∈r,smp x):=by
 intro m
 induction m with
 | zero=>
  intro i hi x6 hx hr hs
  obtain rfl:i=n:=by omega
  have w1:wrap64 ((i:Int)*(w:Int))=(d.size:Int):=by rw [←Int.natCast_mul,hn];exact wrap_id _ (by omega) (by omega)
  rw [pcm_Get.l0,w1,if_neg (Int.lt_irrefl _)]
  exact ⟨_,rfl,hx,hr,hs⟩
 | succ m ih=>
  intro i hi x6 hx hr hs
  have hiw:(i+1)*w≤d.size:=by rw [←hn];exact Nat.mul_le_mul_right w (by omega)
  have hiw2:(i+1)*w=i*w+w:=by rw [Nat.add_mul,Nat.one_mul]
  obtain ⟨a,ha⟩:∃a,i*w=a:=⟨_,rfl⟩
  rw [ha] at hiw2
  obtain ⟨b,hb⟩:∃b,(i+1)*w=b:=⟨_,rfl⟩
  rw [hb] at hiw hiw2
  have w1:wrap64 ((i:Int)*(w:Int))=(a:Int):=by rw [←Int.natCast_mul,ha];exact wrap_id _ (by omega) (by omega)
  have w0:wrap64 ((i:Int)+1)=((i+1:Nat):Int):=wrap_id _ (by omega) (by omega)
  have w2:wrap64 (((i+1:Nat):Int)*(w:Int))=(b:Int):=by rw [←Int.natCast_mul,hb];exact wrap_id _ (by omega) (by omega)
  have hm:Int.tmod (i:Int) (ch:Int)=((i%ch:Nat):Int):=rfl
  have hml:i%ch<ch:=Nat.mod_lt _ (by omega)
  have hsz:(d.extract a b).size=1∨(d.extract a b).size=2:=by rw [ByteArray.size_extract];clear w1 w0 w2 hm hml ih;omega
  obtain ⟨x,hx1,hxb⟩:=sample_bd _ hsz
  have hrow:(TBase.rd_L1 x6 ((i%ch:Nat):Int))=x6.getD (i%ch) []:=rfl
  have hmem:x6.getD (i%ch) []∈x6:=by
   rw [List.getD_eq_getElem?_getD,List.getElem?_eq_getElem (by omega)]
   exact List.getElem_mem _
  have hrl:(x6.getD (i%ch) []).length≤i:=by rw [hr _ hml];clear w1 w0 w2 hm ih hx1;rcases hc with rfl | rfl<;>omega
  obtain ⟨rows,hrows⟩:=ih (i+1) (by clear w1 w0 w2 hm hml;omega) (x6.set (i%ch) (x6.getD (i%ch) []++ [x])) (by rw [List.length_set];exact hx) (by
   intro j hj
   rw [List.getD_eq_getElem?_getD,List.getElem?_set]
   by_cases hij:i%ch=j
   ·rw [if_pos hij,if_pos (by omega)]
    subst hij
    show (x6.getD (i%ch) []++ [x]).length=_
    rw [List.length_append,List.length_singleton,hr _ hml]
    clear w1 w0 w2 hm ih hx1 hr hs hrl hmem
    rcases hc with rfl | rfl<;>omega
   ·rw [if_neg hij,←List.getD_eq_getElem?_getD,hr j hj]
    clear w1 w0 w2 hm ih hx1 hr hs hrl hmem
    rcases hc with rfl | rfl<;>omega) (by
   intro r hr1 y hy
   rcases List.mem_or_eq_of_mem_set hr1 with h | h
   ·exact hs r h y hy
   ·subst h
    rcases List.mem_append.1 hy with h | h
    ·exact hs _ hmem y h
    ·obtain rfl:=List.mem_singleton.1 h
     exact ⟨hxb.1,Int.le_trans hxb.2 (by decide)⟩)
  refine ⟨rows,?_,hrows.2⟩
  have c1:(a:Int)<(d.size:Int):=by clear w1 w0 w2 hm hml ih hrow hx1 hrows hr hs;omega
  have c2:¬((ch:Int)=0):=by clear w1 w0 w2 hm hml ih hrow hx1 hrows hr hs;omega
  have c3:(0:Int)≤((i%ch:Nat):Int):=Int.natCast_nonneg _
  have c4:((i%ch:Nat):Int)<(x6.length:Int):=by rw [hx];exact Int.ofNat_lt.2 hml
  have c5:(0:Int)≤(a:Int):=Int.natCast_nonneg _
  have c6:(a:Int)≤(b:Int):=by clear w1 w0 w2 hm hml ih hrow hx1 hrows hr hs;omega
  have c7:(b:Int)≤(d.size:Int):=by clear w1 w0 w2 hm hml ih hrow hx1 hrows hr hs;omega
  have c8:(x6.getD (i%ch) []).length<17592186044416:=Nat.lt_of_le_of_lt hrl (by clear w1 w0 w2 hm hml ih hrow hx1 hrows hr hs;omega)
  rw [show k+(m+1)+1=(k+m+1)+1 from rfl,pcm_Get.l0,w1,w0,w2,hm,if_pos c1,if_neg c2,if_pos c3,if_pos c4,if_pos c5,if_pos c6,if_pos c7,Int.toNat_natCast,Int.toNat_natCast,Int.toNat_natCast,hx1,Option.bind_some,hrow,if_pos c8]
  exact hrows.1
theorem ch_le {ch:Nat} (hc:ch=1∨ch=2):ch≤2:=by omega
theorem half_len {c ch n j:Nat} (hc:ch=1∨ch=2) (hn:c*ch=n) (hj:j<ch):(n+ch - 1 - j) / ch=c:=by
 subst hn
 rcases hc with rfl | rfl<;>omega
theorem half_zero {ch j:Nat} (hc:ch=1∨ch=2) (hj:j<ch):0=(0+ch - 1 - j) / ch:=by rcases hc with rfl | rfl<;>omega
theorem pgetB_f (k ch bi c:Nat) (d:ByteArray) (hk:5000≤k) (hc:ch=1∨ch=2) (hb:bi=8∨bi=16) (hm:d.size=c*fsz ch bi) (hd:d.size≤4096):
  ∃rows,pcm_Get.f k d (ch:Int) (bi:Int)=some (rows,0)∧rows.length=ch∧(∀r∈rows,r.length=c)∧(∀r∈rows,∀x∈r,smp x):=by
 obtain ⟨w,hw,hw8⟩:∃w,(w=1∨w=2)∧bi=8*w:=by rcases hb with rfl | rfl;exact ⟨1,.inl rfl,rfl⟩;exact ⟨2,.inr rfl,rfl⟩
 have hfw:fsz ch bi=ch*w:=by subst hw8;show ch*(8*w) / 8=ch*w;rw [Nat.mul_left_comm,Nat.mul_div_cancel_left _ (by decide)]
 have hn:(c*ch)*w=d.size:=by rw [hm,hfw,Nat.mul_assoc]
 obtain ⟨n,hne⟩:∃n,c*ch=n:=⟨_,rfl⟩
 rw [hne] at hn
 have hnb:n≤4096:=by rcases hw with rfl | rfl<;>omega
 obtain ⟨k,rfl⟩:∃m,k=(m+n+1)+1:=⟨k - n - 2,by omega⟩
 have tw:wrap64 (Int.tdiv (bi:Int) 8)=(w:Int):=by subst hw8;rcases hw with rfl | rfl<;>kernel_rfl
 have c1:decide (d.size%fsz ch bi=0)=true:=by rw [decide_eq_true_iff,hm];exact Nat.mul_mod_left _ _
 have c2:¬(decide ((d.size:Int)>4096)=true):=by rw [decide_eq_true_iff];omega
 have c3:(0:Int)≤(ch:Int):=Int.natCast_nonneg _
 have c4:((ch:Nat):Int).toNat≤11728124029610:=by rw [Int.toNat_natCast];exact Nat.le_trans (ch_le hc) (by decide)
 obtain ⟨rows,hr,h1,h2,h3⟩:=pgetB_l0 k ch w n d (bi:Int) hc hw hn hd hnb n 0 (by omega) (List.replicate ch []) List.length_replicate (by
  intro j hj
  rw [List.getD_eq_getElem?_getD,List.getElem?_replicate,if_pos hj]
  exact half_zero hc hj) (by intro r hr x hx;rw [List.eq_of_mem_replicate hr] at hx;cases hx)
 refine ⟨rows,?_,h1,?_,h3⟩
 ·unfold pcm_Get.f
  rw [mayf ch bi hc hb,Option.bind_some,if_pos rfl,pframes_f ch bi hc hb,Option.bind_some,if_pos c1,pcm_Get.j0,if_neg c2,if_pos c3,if_pos c4,Int.toNat_natCast,tw]
  exact hr
 ·intro r hr
  obtain ⟨j,hj,rfl⟩:=List.getElem_of_mem hr
  have h4:=h2 j (h1▸hj)
  rw [List.getD_eq_getElem?_getD,List.getElem?_eq_getElem hj] at h4
  have h5:(rows[j]).length=(n+ch - 1 - j) / ch:=h4
  exact h5.trans (half_len hc hne (h1▸hj))
theorem sidePut_one (a:List Int) (hn:a.length≤1000000) (ha:∀x∈a,csB x=true):side_Put.f (a.length+4) [a]=some ([a],0):=by
 have ba:∀x∈a,-1000000≤x∧x≤1000000:=fun x hx=>by have:=csB_of (ha x hx);omega
 have m1:side_May.f [a]=some true:=by
  unfold side_May.f
  show some (([a].all (sideRow a.length)) && _)=_
  simp [sideRow_ok rfl ha]
 unfold side_Put.f side_turn.f
 rw [m1,Option.bind_some,if_pos rfl,show a.length+4=((2+a.length)+1)+1 by omega]
 unfold side_turn.l0
 rw [if_pos (by simp),if_pos (by omega),if_pos (by simp),show UOne.rd_L1 [a] 0=a from rfl]
 unfold slices_Clone_int_int.f
 rw [if_pos (by omega),Option.bind_some]
 have t1:=turn_l1 [a] (-1) [] 0 [a] ([a].length:Int) 0 a a 0 (by unfold wrap64;omega) (by omega) (by simp) (by simp) rfl rfl ba ba hn 2 a.length 0 (by omega)
 rw [List.take_zero,List.nil_append,List.drop_zero,sideT_zero rfl] at t1
 rw [show ((0:Nat):Int)=0 from rfl] at t1
 rw [t1,show wrap64 (0+1)=1 from wid64 1 (by omega) (by omega)]
 unfold side_turn.l0
 rw [if_neg (by simp),List.nil_append,m1,Option.bind_some,if_pos rfl]
 rfl
theorem side_up {k K:Nat} {l:List (List Int)} {r:List (List Int)×Int} (h:side_Put.f k l=some r) (hk:k≤K):side_Put.f K l=some r:=by
 obtain ⟨d,rfl⟩:=Nat.exists_eq_add_of_le hk
 exact leO_le (fun k=>side_Put.f k l) (fun k=>side_Put.mono _ k) d k _ h
theorem cs_all {l:List Int} (h:∀x∈l,smp x):∀x∈l,csB x=true:=fun x hx=>smp_cs (h x hx)
theorem div_smp {x:Int} (k:Nat) (h:smp x):smp (x / (2 ^ k:Nat)):=by
 have hp:(1:Int)≤((2 ^ k:Nat):Int):=Int.ofNat_le.2 Nat.one_le_two_pow
 obtain ⟨p,hpe⟩:∃p:Int,((2 ^ k:Nat):Int)=p:=⟨_,rfl⟩
 rw [hpe] at hp ⊢
 unfold smp at h ⊢
 rcases Int.lt_or_le x 0 with h0 | h0
 ·have h1:x≤x / p:=Int.le_ediv_of_mul_le (by omega) (by
   have:=Int.mul_le_mul_of_nonpos_left (a:=x) (b:=p) (c:=1) (by omega) hp
   omega)
  have h2:x / p<0:=Int.ediv_neg_of_neg_of_pos h0 (by omega)
  omega
 ·have h1:0≤x / p:=Int.ediv_nonneg h0 (by omega)
  have h2:x / p≤x:=Int.ediv_le_self _ h0
  omega
theorem downL_smp (k:Nat) (l:List Int) (h:∀x∈l,smp x):∀x∈downL k l,smp x:=by
 intro x hx
 unfold downL at hx
 obtain ⟨y,hy,rfl⟩:=List.mem_map.1 hx
 exact div_smp k (h y hy)
theorem down_f (l:List Int) (k:Nat) (hk:k≤15) (hl:l.length≤4096) (h:∀x∈l,smp x) (hd:∀x∈l,x%(2 ^ k:Nat)=0):shift_Down.f l (k:Int)=some (downL k l,0):=by
 unfold shift_Down.f
 rw [if_pos ⟨by omega,by omega,by omega,not_odd (cs_all h),List.all_eq_true.2 (fun x hx=>by rw [Int.toNat_natCast,beq_iff_eq];exact hd x hx)⟩,Int.toNat_natCast]
theorem mx00:mx 0 0=0:=by kernel_rfl
theorem coded_one (k b:Nat) (a:List Int) (hl:a.length≤64) (h:∀x∈a,csB x=true):segment_sound_coded.l1 (k+2) (b:Int) 0 ([]:List Int) [a] 1 0=some (resPut (lineP a),(b:Int),true):=by
 have hal:(lineP a).length=a.length:=turnL_len _ _ _ _ _
 rw [show k+2=(k+1)+1 from rfl,segment_sound_coded.l1,if_pos (by decide),if_pos (by decide),if_pos (show (0:Int)<(([a]:List (List Int)).length:Int) from by simp),show YFou.rd_L2 [a] 0=a from rfl,linePut_f h (by omega),Option.bind_some]
 dsimp only
 rw [if_pos (by rw [List.length_nil,hal];omega),mx00,List.nil_append,show wrap64 (0+1)=1 from wid64 1 (by omega) (by omega),segment_sound_coded.l1,if_neg (by decide),resPut_f (lineP_num h) (by omega),Option.bind_some]
 rfl
theorem coded_two (k b:Nat) (a c:List Int) (hl:a.length≤64) (hlc:c.length≤64) (h:∀x∈a,csB x=true) (hc:∀x∈c,csB x=true):segment_sound_coded.l1 (k+3) (b:Int) 0 ([]:List Int) [a,c] 2 0=some (resPut (lineP a++lineP c),(b:Int),true):=by
 have hal:(lineP a).length=a.length:=turnL_len _ _ _ _ _
 have hcl:(lineP c).length=c.length:=turnL_len _ _ _ _ _
 rw [show k+3=((k+1)+1)+1 from rfl,segment_sound_coded.l1,if_pos (by decide),if_pos (by decide),if_pos (show (0:Int)<(([a,c]:List (List Int)).length:Int) from by simp),show YFou.rd_L2 [a,c] 0=a from rfl,linePut_f h (by omega),Option.bind_some]
 dsimp only
 rw [if_pos (by rw [List.length_nil,hal];omega),mx00,List.nil_append,show wrap64 (0+1)=1 from wid64 1 (by omega) (by omega),segment_sound_coded.l1,if_pos (by decide),if_pos (by decide),if_pos (show (1:Int)<(([a,c]:List (List Int)).length:Int) from by simp),show YFou.rd_L2 [a,c] 1=c from rfl,linePut_f hc (by omega),Option.bind_some]
 dsimp only
 rw [if_pos (by rw [hal,hcl];omega),mx00,show wrap64 (1+1)=2 from wid64 2 (by omega) (by omega),segment_sound_coded.l1,if_neg (by decide),resPut_f (l:=lineP a++lineP c) (fun x hx=>(List.mem_append.1 hx).elim (lineP_num h x) (lineP_num hc x)) (by rw [List.length_append,hal,hcl];omega),Option.bind_some]
 rfl
theorem wasted_f (l:List (List Int)) (h:∀r∈l,∀x∈r,smp x):segment_wasted.f l=some (wastedL l:Int):=by
 unfold segment_wasted.f
 rw [if_pos (List.all_eq_true.2 (fun r hr=>by rw [not_odd (cs_all (h r hr))];rfl))]
theorem sideT_smp {a c:List Int} (ha:∀x∈a,smp x) (hc:∀x∈c,smp x):∀x∈sideT (-1) c a,csB x=true:=by
 intro x hx
 unfold sideT at hx
 obtain ⟨i,hi,rfl⟩:=List.getElem_of_mem hx
 rw [List.getElem_zipWith]
 have h1:=hc _ (List.getElem_mem (l:=c) (n:=i) (by rw [List.length_zipWith] at hi;omega))
 have h2:=ha _ (List.getElem_mem (l:=a) (n:=i) (by rw [List.length_zipWith] at hi;omega))
 unfold smp at h1 h2
 exact decide_eq_true ⟨by omega,by omega⟩
theorem l0_one (k b:Nat) (a:List Int) (hk:100≤k) (hb:b≤15) (hl:a.length≤64) (h:∀x∈a,smp x) (hd:∀x∈a,x%(2 ^ b:Nat)=0):segment_sound_coded.l0 (k+2) [a] (b:Int) 1 0=some (resPut (lineP (downL b a)),(b:Int),true):=by
 have h1:=downL_smp b a h
 have e1:(downL b a).length=a.length:=downL_len b a
 have hs:=side_up (sidePut_one (downL b a) (by omega) (cs_all h1)) (show (downL b a).length+4≤k by omega)
 obtain ⟨j,rfl⟩:∃j,k=j+2:=⟨k - 2,by omega⟩
 rw [show j+2+2=(j+2+1)+1 from rfl,segment_sound_coded.l0,if_pos (by decide),if_pos (by decide),if_pos (show (0:Int)<(([a]:List (List Int)).length:Int) from by simp),show YFou.rd_L2 [a] 0=a from rfl,down_f a b hb (by omega) h hd,Option.bind_some]
 dsimp only
 rw [show wrap64 (0+1)=1 from wid64 1 (by omega) (by omega),show ([a]:List (List Int)).set (0:Int).toNat (downL b a)= [downL b a] from rfl,segment_sound_coded.l0,if_neg (by decide),hs,Option.bind_some]
 exact coded_one j b (downL b a) (by omega) (cs_all h1)
theorem l0_two (k b:Nat) (a c:List Int) (hk:200≤k) (hb:b≤15) (hl:a.length≤64) (hlc:c.length=a.length) (h:∀x∈a,smp x) (hc:∀x∈c,smp x) (hd:∀x∈a,x%(2 ^ b:Nat)=0) (hdc:∀x∈c,x%(2 ^ b:Nat)=0):
  segment_sound_coded.l0 (k+3) [a,c] (b:Int) 2 0=some (resPut (lineP (downL b a)++lineP (sideT (-1) (downL b c) (downL b a))),(b:Int),true):=by
 have h1:=downL_smp b a h
 have h2:=downL_smp b c hc
 have e1:(downL b a).length=a.length:=downL_len b a
 have e2:(downL b c).length=c.length:=downL_len b c
 have h3:=sideT_smp h1 h2
 have e3:(sideT (-1) (downL b c) (downL b a)).length=a.length:=by rw [sideT_len (by omega)];omega
 have hs:=side_up (sidePut_two (downL b a) (downL b c) (by omega) (by omega) (cs_all h1) (cs_all h2) h3) (show 2*(downL b a).length+5≤k by omega)
 obtain ⟨j,rfl⟩:∃j,k=j+3:=⟨k - 3,by omega⟩
 rw [show j+3+3=((j+3+1)+1)+1 from rfl,segment_sound_coded.l0,if_pos (by decide),if_pos (by decide),if_pos (show (0:Int)<(([a,c]:List (List Int)).length:Int) from by simp),show YFou.rd_L2 [a,c] 0=a from rfl,down_f a b hb (by omega) h hd,Option.bind_some]
 dsimp only
 rw [show wrap64 (0+1)=1 from wid64 1 (by omega) (by omega),show ([a,c]:List (List Int)).set (0:Int).toNat (downL b a)= [downL b a,c] from rfl,segment_sound_coded.l0,if_pos (by decide),if_pos (by decide),if_pos (show (1:Int)<(([downL b a,c]:List (List Int)).length:Int) from by simp),show YFou.rd_L2 [downL b a,c] 1=c from rfl,down_f c b hb (by omega) hc hdc,Option.bind_some]
 dsimp only
 rw [show wrap64 (1+1)=2 from wid64 2 (by omega) (by omega),show ([downL b a,c]:List (List Int)).set (1:Int).toNat (downL b c)= [downL b a,downL b c] from rfl,segment_sound_coded.l0,if_neg (by decide),hs,Option.bind_some]
 exact coded_two j b (downL b a) (sideT (-1) (downL b c) (downL b a)) (by omega) (by omega) (cs_all h1) h3
theorem two_list {α:Type} (l:List α) (h:l.length=2):∃a b,l= [a,b]:=by
 rcases l with _ | ⟨a,_ | ⟨b,l⟩⟩<;>simp at h
 subst h
 exact ⟨a,b,rfl⟩
theorem coded_f (k ch bi c:Nat) (d:ByteArray) (hk:6000≤k) (hc:ch=1∨ch=2) (hb:bi=8∨bi=16) (hm:d.size=c*fsz ch bi) (hd:d.size≤4096) (hc64:c≤64):∃own,∃b:Nat,b≤15∧segment_sound_coded.f k d (ch:Int) (bi:Int)=some (own,(b:Int),true):=by
 obtain ⟨rows,hr,h1,h2,h3⟩:=pgetB_f k ch bi c d (Nat.le_trans (by decide) hk) hc hb hm hd
 have hw:=wasted_f rows h3
 have hdv:=wastedL_dvd rows
 have hle:=wastedL_le rows
 obtain ⟨b,hbe⟩:∃b,wastedL rows=b:=⟨_,rfl⟩
 rw [hbe] at hw hdv hle
 obtain ⟨k,rfl⟩:∃j,k=(j+200)+3:=⟨k - 203,by omega⟩
 clear hbe hd hm
 unfold segment_sound_coded.f
 rw [hr,Option.bind_some]
 dsimp only
 rw [hw,Option.bind_some,h1]
 rcases hc with rfl | rfl
 ·obtain ⟨a,rfl⟩:=List.length_eq_one_iff.1 h1
  have m1:a∈ [a]:=List.mem_singleton.2 rfl
  exact ⟨_,b,hle,l0_one (k+200+1) b a (by omega) hle (by rw [h2 a m1];exact hc64) (h3 a m1) (hdv a m1)⟩
 ·obtain ⟨a,a2,rfl⟩:=two_list rows h1
  have m1:a∈ [a,a2]:=List.mem_cons_self
  have m2:a2∈ [a,a2]:=List.mem_cons_of_mem _ (List.mem_singleton.2 rfl)
  exact ⟨_,b,hle,l0_two (k+200) b a a2 (by omega) hle (by rw [h2 a m1];exact hc64) (by rw [h2 a m1,h2 a2 m2]) (h3 a m1) (h3 a2 m2) (hdv a m1) (hdv a2 m2)⟩
theorem constB_f (d:ByteArray) (ch bi c:Nat) (hc:ch=1∨ch=2) (hb:bi=8∨bi=16) (h1:1≤c) (hm:d.size=c*fsz ch bi) (hd:d.size≤4096):∃t,segment_sound_constant.f d (ch:Int) (bi:Int)=some t:=by
 have hf:=fsz_pos ch bi hc hb
 have hle:fsz ch bi≤d.size:=by rw [hm];exact Nat.le_mul_of_pos_left _ h1
 have hs:(d.extract 0 (fsz ch bi)).size=fsz ch bi:=by rw [ByteArray.size_extract];omega
 have hcm:fsz ch bi*c≤4096:=by rw [Nat.mul_comm,←hm];exact hd
 have hcb:c≤4096:=Nat.le_trans (Nat.le_mul_of_pos_left c hf.1) hcm
 have hrep:∃x,strings_Repeat.f (d.extract 0 (fsz ch bi)) (c:Int)=some x:=by
  unfold strings_Repeat.f
  rw [hs,Int.toNat_natCast,if_pos ⟨Int.natCast_nonneg _,by omega,by omega⟩]
  exact ⟨_,rfl⟩
 obtain ⟨x,hx⟩:=hrep
 unfold segment_sound_constant.f
 rw [frame_f _ ch bi hc hb,Option.bind_some,if_pos (Int.natCast_nonneg _),if_pos (Int.ofNat_le.2 hle),many_f _ ch bi c hc hb hm (Nat.le_trans hd (by decide)),Option.bind_some,Int.toNat_natCast,hx,Option.bind_some]
 exact ⟨_,rfl⟩
theorem ne_nil {d:ByteArray} (h:1≤d.size):¬(d.toList=([]:List UInt8)):=by
 intro h2
 have h3:d.toList.length=0:=by rw [h2];rfl
 rw [ByteArray.toList_eq,data_length] at h3
 omega
theorem segAny (k ch bi c:Nat) (d:ByteArray) (hk:7000≤k) (hc:ch=1∨ch=2) (hb:bi=8∨bi=16) (h1:1≤c) (hc64:c≤64) (hm:d.size=c*fsz ch bi):∃s,segment_Put.f k d (ch:Int) (bi:Int)=some (s,0)∧9≤s.size∧s.size≤9+d.size:=by
 have hf:=fsz_pos ch bi hc hb
 have hle:fsz ch bi≤d.size:=by rw [hm];exact Nat.le_mul_of_pos_left _ h1
 have hle2:d.size≤64*fsz ch bi:=by rw [hm];exact Nat.mul_le_mul_right _ hc64
 have hle3:64*fsz ch bi≤64*4:=Nat.mul_le_mul_left _ hf.2
 have hd:d.size≤4096:=by omega
 have hd1:1≤d.size:=by omega
 obtain ⟨rows,hr,-⟩:=pgetB_f k ch bi c d (Nat.le_trans (by decide) hk) hc hb hm hd
 obtain ⟨t,ht⟩:=constB_f d ch bi c hc hb h1 hm hd
 have hmany:=many_f d ch bi c hc hb hm (Nat.le_trans hd (by decide))
 have hframe:=frame_f d ch bi hc hb
 have w1:wrap64 (64*((fsz ch bi:Nat):Int))=((64*fsz ch bi:Nat):Int):=wrap_id _ (by omega) (by omega)
 have c1:¬(decide ((d.size:Int)>((64*fsz ch bi:Nat):Int))=true):=by rw [decide_eq_true_iff];omega
 obtain ⟨k,rfl⟩:∃j,k=(j+1)+1:=⟨k - 2,by omega⟩
 have hex:∃s,segment_Put.j0 (k+1+1) d false (ch:Int) (bi:Int)=some (s,0)∧9≤s.size∧s.size≤9+d.size:=by
  rw [segment_Put.j0,if_neg (by decide),ht,Option.bind_some]
  cases t with
  | true=>
   have hx:(d.extract 0 (fsz ch bi)).size=fsz ch bi:=by rw [ByteArray.size_extract];omega
   refine ⟨told 2 0 c (d.extract 0 (fsz ch bi)),?_,by rw [told_size];omega,by rw [told_size,hx];omega⟩
   rw [if_pos rfl,hmany,Option.bind_some,hframe,Option.bind_some,if_pos (Int.natCast_nonneg _),if_pos (Int.ofNat_le.2 hle),Int.toNat_natCast]
   rw [show segment_told.f (k+1) 2 0 (c:Int) (d.extract 0 (fsz ch bi))=some (told 2 0 c (d.extract 0 (fsz ch bi))) from told_f (k+1) 2 0 c _ (by omega) (by decide) (by decide) (by omega) (by rw [hx];omega),Option.bind_some]
  | false=>
   obtain ⟨own,b,hbb,hcd⟩:=coded_f (k+1) ch bi c d (by omega) hc hb hm hd hc64
   rw [if_neg (by decide),hcd,Option.bind_some]
   dsimp only
   rw [if_pos rfl]
   by_cases hlt:own.size<d.size
   ·refine ⟨told 1 b c own,?_,by rw [told_size];omega,by rw [told_size];omega⟩
    rw [decide_eq_true (Int.ofNat_lt.2 hlt),segment_Put.j1,if_pos rfl,hmany,Option.bind_some]
    rw [show segment_told.f k 1 (b:Int) (c:Int) own=some (told 1 b c own) from told_f k 1 b c own (by omega) (by decide) (by omega) (by omega) (by omega),Option.bind_some]
   ·refine ⟨told 0 0 c d,?_,by rw [told_size];omega,by rw [told_size];omega⟩
    rw [decide_eq_false (show ¬((own.size:Int)<(d.size:Int)) by omega),segment_Put.j1,if_neg (by decide),hmany,Option.bind_some]
    rw [show segment_told.f k 0 0 (c:Int) d=some (told 0 0 c d) from told_f k 0 0 c d (by omega) (by decide) (by decide) (by omega) (by omega),Option.bind_some]
 obtain ⟨s,hs1,hs2⟩:=hex
 refine ⟨s,?_,hs2⟩
 unfold segment_Put.f
 rw [hr,Option.bind_some]
 dsimp only
 rw [if_pos rfl,if_neg (ne_nil hd1),pframe_f ch bi hc hb,Option.bind_some,w1,eq_false_of_ne_true c1]
 exact hs1
end Go.Proofs.YtfghldonnffldaaGreatDoor
namespace Go.Proofs.YtfghldonnffldaaGreatDoor
open Go.RowKit YtfghldonnffldaaGreatDoorW.PrintWords YtfghldonnffldaaGreatDoorW.PrintLast YtfghldonnffldaaGreatDoorW.PrintMore TBase
def StrRes (s:ByteArray) (r:Int×Int×Int×Int×ByteArray×ByteArray×List ByteArray):Prop:=∃(ch bi sz fr:Nat) (hd tl:ByteArray) (l:List ByteArray) (p1 p2 p3 p5 q:Nat),StrOk s ch bi sz fr hd tl l p1 p2 p3 p5 q∧r=((ch:Int),(bi:Int),(sz:Int),(fr:Int),hd,tl,l)
open Classical in
noncomputable def stream_Get.f (s:ByteArray):Option (Int×Int×Int×Int×ByteArray×ByteArray×List ByteArray×Int):=if h:∃r,StrRes s r then some ((Classical.choose h).1,(Classical.choose h).2.1,(Classical.choose h).2.2.1,(Classical.choose h).2.2.2.1,(Classical.choose h).2.2.2.2.1,(Classical.choose h).2.2.2.2.2.1,(Classical.choose h).2.2.2.2.2.2,0) else none
theorem stream_Get.calls (s:ByteArray) (r1 r2 r3 r4:Int) (r5 r6:ByteArray) (r7:List ByteArray) (r8:Int) (w:World) (h:stream_Get.f s=some (r1,r2,r3,r4,r5,r6,r7,r8)):
  Calls Tryz.prog 20 #[.string s] w fun e w'=>∃v0_:Value,e= .returned (.tuple #[.agg #[.int .i64 r1,.int .i64 r2,.int .i64 r3,.int .i64 r4,.string r5,.string r6,v0_],.int .i64 r8])∧Kd.R Kd.string 9 w' w.heap.size (fun _=>True) v0_ r7∧Below w.heap.size w w':=by
 unfold stream_Get.f at h
 by_cases hx:∃r,StrRes s r
 ·rw [dif_pos hx] at h
  obtain ⟨ch,bi,sz,fr,hd,tl,l,p1,p2,p3,p5,q,ho,he⟩:=Classical.choose_spec hx
  rw [he] at h
  simp only [Option.some.injEq,Prod.mk.injEq] at h
  obtain ⟨rfl,rfl,rfl,rfl,rfl,rfl,rfl,rfl⟩:=h
  exact sget_calls s ch bi sz fr hd tl l p1 p2 p3 p5 q w ho
 ·rw [dif_neg hx] at h
  cases h
theorem stream_Get.f_of {s:ByteArray} {ch bi sz fr:Nat} {hd tl:ByteArray} {l:List ByteArray} {p1 p2 p3 p5 q:Nat} (h:StrOk s ch bi sz fr hd tl l p1 p2 p3 p5 q):stream_Get.f s=some ((ch:Int),(bi:Int),(sz:Int),(fr:Int),hd,tl,l,0):=by
 have hx:∃r,StrRes s r:=⟨_,ch,bi,sz,fr,hd,tl,l,p1,p2,p3,p5,q,h,rfl⟩
 unfold stream_Get.f
 rw [dif_pos hx]
 obtain ⟨ch',bi',sz',fr',hd',tl',l',p1',p2',p3',p5',q',ho,he⟩:=Classical.choose_spec hx
 obtain ⟨rfl,rfl,rfl,rfl,rfl,rfl,rfl⟩:=h.unique ho
 rw [he]
end Go.Proofs.YtfghldonnffldaaGreatDoor
namespace Go.Proofs.YtfghldonnffldaaGreatDoor
open Go.RowKit YtfghldonnffldaaGreatDoorW.PrintWords YtfghldonnffldaaGreatDoorW.PrintLast YtfghldonnffldaaGreatDoorW.PrintMore TBase
open UOne VTwo YFou ZFiv QSix ESev
open Classical in
noncomputable def segOf (ch bi:Nat) (x:ByteArray):ByteArray:=if h:∃s,∃k,segment_Put.f k x (ch:Int) (bi:Int)=some (s,0) then Classical.choose h else ByteArray.empty
theorem segOf_f (k ch bi c:Nat) (d:ByteArray) (hk:7000≤k) (hc:ch=1∨ch=2) (hb:bi=8∨bi=16) (h1:1≤c) (hc64:c≤64) (hm:d.size=c*fsz ch bi):segment_Put.f k d (ch:Int) (bi:Int)=some (segOf ch bi d,0)∧9≤(segOf ch bi d).size∧(segOf ch bi d).size≤9+d.size:=by
 obtain ⟨s,hs,h2,h3⟩:=segAny k ch bi c d hk hc hb h1 hc64 hm
 have hx:∃s,∃k,segment_Put.f k d (ch:Int) (bi:Int)=some (s,0):=⟨s,k,hs⟩
 have e:segOf ch bi d=s:=by
  unfold segOf
  rw [dif_pos hx]
  obtain ⟨k',hk'⟩:=Classical.choose_spec hx
  have:=leO_same (fun k=>segment_Put.f k d (ch:Int) (bi:Int)) (fun k=>segment_Put.mono _ _ _ k) hk' hs
  exact (Prod.mk.inj this).1
 rw [e]
 exact ⟨hs,h2,h3⟩
def cnt (m ks i:Nat):Nat:=min ks (m - i*ks)
def chunk (d:ByteArray) (f ks m i:Nat):ByteArray:=d.extract (i*ks*f) (min (i*ks*f+ks*f) (m*f))
noncomputable def segsG (ch bi ks m:Nat) (d:ByteArray) (j:Nat):List ByteArray:=(List.range j).map fun i=>segOf ch bi (chunk d (fsz ch bi) ks m i)
theorem segsG_len (ch bi ks m:Nat) (d:ByteArray) (j:Nat):(segsG ch bi ks m d j).length=j:=by unfold segsG;rw [List.length_map,List.length_range]
theorem segsG_succ (ch bi ks m:Nat) (d:ByteArray) (j:Nat):segsG ch bi ks m d (j+1)=segsG ch bi ks m d j++ [segOf ch bi (chunk d (fsz ch bi) ks m j)]:=by unfold segsG;rw [List.range_succ,List.map_append];rfl
theorem segsG_at (ch bi ks m:Nat) (d:ByteArray) (j i:Nat) (h:i<j):(segsG ch bi ks m d j).getD i ByteArray.empty=segOf ch bi (chunk d (fsz ch bi) ks m i):=by
 rw [List.getD_eq_getElem?_getD,List.getElem?_eq_getElem (by rw [segsG_len];exact h)]
 unfold segsG
 simp
def nseg (m ks:Nat):Nat:=(m+ks - 1) / ks
theorem nseg_lt (m ks i:Nat) (hk:1≤ks):i<nseg m ks↔i*ks<m:=by
 unfold nseg
 rw [Nat.lt_iff_add_one_le,Nat.le_div_iff_mul_le (by omega),Nat.add_mul,Nat.one_mul]
 omega
theorem nseg_le (m ks:Nat) (hk:1≤ks):nseg m ks≤m:=by
 rcases Nat.lt_or_ge m (nseg m ks) with h | h
 ·exfalso
  have:=(nseg_lt m ks m hk).1 h
  have h2:m*1≤m*ks:=Nat.mul_le_mul_left m hk
  omega
 ·exact h
theorem nseg_all (m ks:Nat) (hk:1≤ks):m≤nseg m ks*ks:=by
 rcases Nat.lt_or_ge (nseg m ks*ks) m with h | h
 ·exact absurd ((nseg_lt m ks _ hk).2 h) (Nat.lt_irrefl _)
 ·exact h
theorem nseg_up (m ks:Nat) (hk:1≤ks):nseg m ks*ks<m+ks:=by
 unfold nseg
 have:=Nat.div_mul_le_self (m+ks - 1) ks
 omega
theorem nseg_mono (m m' ks:Nat) (h:m≤m'):nseg m ks≤nseg m' ks:=Nat.div_le_div_right (by omega)
theorem many_nat (m ks:Nat) (hk:1≤ks) (hm:m≤100000) (hks:ks≤100000):wrap64 (Int.tdiv (wrap64 ((wrap64 ((m:Int)+(ks:Int))) - 1)) (ks:Int))=(nseg m ks:Int):=by
 have w1:wrap64 ((m:Int)+(ks:Int))=((m+ks:Nat):Int):=wrap_id _ (by omega) (by omega)
 have w2:wrap64 (((m+ks:Nat):Int) - 1)=((m+ks - 1:Nat):Int):=by rw [wrap_id _ (by omega) (by omega)];omega
 have w3:Int.tdiv ((m+ks - 1:Nat):Int) (ks:Int)=(nseg m ks:Int):=rfl
 have hle:=nseg_le m ks hk
 rw [w1,w2,w3]
 exact wrap_id _ (by omega) (by omega)
theorem smany_f (m ks:Nat) (hk:1≤ks) (hm:m≤100000) (hks:ks≤100000):stream_Many.f (m:Int) (ks:Int)=some (nseg m ks:Int):=by
 unfold stream_Many.f
 rw [if_neg (by omega),many_nat m ks hk hm hks]
theorem cnt_bd (m ks i:Nat) (h:i*ks<m) (hk:1≤ks):1≤cnt m ks i∧cnt m ks i≤ks:=by unfold cnt;omega
theorem chunk_size (d:ByteArray) (f ks m i:Nat) (hd:d.size=m*f) (h:i*ks<m):(chunk d f ks m i).size=cnt m ks i*f:=by
 have h0:i*ks*f≤m*f:=Nat.mul_le_mul_right f (Nat.le_of_lt h)
 have hcnt:min (i*ks*f+ks*f) (m*f) - i*ks*f=cnt m ks i*f:=by
  unfold cnt
  rw [←Nat.add_mul,Nat.mul_min_mul_right,←Nat.sub_mul]
  congr 1
  omega
 unfold chunk
 rw [ByteArray.size_extract,hd,←hcnt]
 omega
theorem seg_at (k ch bi ks m i:Nat) (d:ByteArray) (hk:7000≤k) (hc:ch=1∨ch=2) (hb:bi=8∨bi=16) (hks:ks≤64) (h1:1≤ks) (hd:d.size=m*fsz ch bi) (h:i*ks<m):
  segment_Put.f k (chunk d (fsz ch bi) ks m i) (ch:Int) (bi:Int)=some (segOf ch bi (chunk d (fsz ch bi) ks m i),0)∧9≤(segOf ch bi (chunk d (fsz ch bi) ks m i)).size∧(segOf ch bi (chunk d (fsz ch bi) ks m i)).size≤9+ks*fsz ch bi:=by
 have hb2:=cnt_bd m ks i h h1
 have hz:=chunk_size d (fsz ch bi) ks m i hd h
 have hs:=segOf_f k ch bi (cnt m ks i) (chunk d (fsz ch bi) ks m i) hk hc hb hb2.1 (Nat.le_trans hb2.2 hks) hz
 have hle:cnt m ks i*fsz ch bi≤ks*fsz ch bi:=Nat.mul_le_mul_right _ hb2.2
 rw [hz] at hs
 exact ⟨hs.1,hs.2.1,Nat.le_trans hs.2.2 (Nat.add_le_add_left hle 9)⟩
theorem enc_step (k ks f a c M:Nat) (ch bi m:Int) (hd d tl s:ByteArray) (L:List ByteArray) (hM:d.size=M) (ha:a<M) (hc:ks*f=c) (hMb:M≤4096) (hcb:c≤4096) (hL:L.length≤4096)
  (hs:segment_Put.f k (d.extract a (min (a+c) M)) ch bi=some (s,0)):
  file_Encode.l0 (k+1) (ks:Int) (f:Int) (a:Int) ch bi hd d tl ch bi (ks:Int) m hd tl L=file_Encode.l0 k (ks:Int) (f:Int) ((a+c:Nat):Int) ch bi hd d tl ch bi (ks:Int) m hd tl (L++ [s]):=by
 have w1:wrap64 ((ks:Int)*(f:Int))=(c:Int):=by rw [←Int.natCast_mul,hc];exact wrap_id _ (by omega) (by omega)
 have w2:wrap64 ((a:Int)+(c:Int))=((a+c:Nat):Int):=wrap_id _ (by omega) (by omega)
 have w3:mn ((a+c:Nat):Int) (M:Int)=((min (a+c) M:Nat):Int):=by clear w1 w2 hs;unfold mn;split<;>omega
 have c1:(a:Int)<(M:Int):=Int.ofNat_lt.2 ha
 have c2:(0:Int)≤(a:Int):=Int.natCast_nonneg _
 have c3:(a:Int)≤((min (a+c) M:Nat):Int):=by clear w1 w2 w3 hs;omega
 have c4:((min (a+c) M:Nat):Int)≤(M:Int):=by clear w1 w2 w3 hs;omega
 have c5:L.length<8796093022208:=Nat.lt_of_le_of_lt hL (by decide)
 rw [file_Encode.l0,hM,w1,w2,w3,if_pos c1,if_pos c2,if_pos c3,if_pos c4,Int.toNat_natCast,Int.toNat_natCast,hs,Option.bind_some,if_pos c5]
theorem enc_end (k ks f a:Nat) (ch bi m:Int) (hd d tl:ByteArray) (L:List ByteArray) (r:ByteArray) (ha:d.size≤a) (hput:stream_Put.f ch bi (ks:Int) m hd tl L=some (r,0)):
  file_Encode.l0 (k+1) (ks:Int) (f:Int) (a:Int) ch bi hd d tl ch bi (ks:Int) m hd tl L=some (r,0):=by
 rw [file_Encode.l0,if_neg (by omega),hput,Option.bind_some]
 rfl
theorem encG_l0 (k ch bi ks m:Nat) (d hd tl r:ByteArray) (hc:ch=1∨ch=2) (hb:bi=8∨bi=16) (hk:1≤ks) (hks:ks≤64) (hd0:d.size=m*fsz ch bi) (hd4:d.size≤4096) (hkk:7000≤k)
  (hput:stream_Put.f (ch:Int) (bi:Int) (ks:Int) (m:Int) hd tl (segsG ch bi ks m d (nseg m ks))=some (r,0)):
  ∀e i,i+e=nseg m ks→file_Encode.l0 (k+e+1) (ks:Int) ((fsz ch bi:Nat):Int) ((i*ks*fsz ch bi:Nat):Int) (ch:Int) (bi:Int) hd d tl (ch:Int) (bi:Int) (ks:Int) (m:Int) hd tl (segsG ch bi ks m d i)=some (r,0):=by
 have hf:=fsz_pos ch bi hc hb
 have hcle:ks*fsz ch bi≤64*4:=Nat.mul_le_mul hks hf.2
 have hn:=nseg_le m ks hk
 have hmm:m≤m*fsz ch bi:=Nat.le_mul_of_pos_right m hf.1
 intro e
 induction e with
 | zero=>
  intro i hi
  obtain rfl:i=nseg m ks:=hi
  exact enc_end k ks _ _ _ _ _ _ _ _ _ _ (by rw [hd0];exact Nat.mul_le_mul_right _ (nseg_all m ks hk)) hput
 | succ e ih=>
  intro i hi
  have hlt:i*ks<m:=(nseg_lt m ks i hk).1 (by omega)
  have ha:i*ks*fsz ch bi<m*fsz ch bi:=Nat.mul_lt_mul_of_pos_right hlt hf.1
  have hnext:i*ks*fsz ch bi+ks*fsz ch bi=(i+1)*ks*fsz ch bi:=by rw [Nat.add_mul,Nat.one_mul,Nat.add_mul]
  have hp:=(seg_at (k+e+1) ch bi ks m i d (Nat.le_trans hkk (by omega)) hc hb hks hk hd0 hlt).1
  have hLl:(segsG ch bi ks m d i).length≤4096:=by rw [segsG_len];omega
  rw [show k+(e+1)+1=(k+e+1)+1 from rfl,enc_step (k+e+1) ks (fsz ch bi) _ (ks*fsz ch bi) (m*fsz ch bi) _ _ _ _ _ _ (segOf ch bi (chunk d (fsz ch bi) ks m i)) _ hd0 ha rfl (hd0▸hd4) (Nat.le_trans hcle (by decide)) hLl hp,hnext,←segsG_succ]
  exact ih (i+1) (by omega)
theorem tot_unif (l:List ByteArray) (B:Nat) (h:∀s∈l,s.size≤B):tot l≤l.length*B:=by
 induction l with
 | nil=>simp [tot]
 | cons s r ih=>
  have h1:=h s List.mem_cons_self
  have h2:=ih (fun x hx=>h x (List.mem_cons_of_mem _ hx))
  have e:tot (s::r)=s.size+tot r:=rfl
  rw [e,List.length_cons,Nat.add_mul,Nat.one_mul]
  omega
end Go.Proofs.YtfghldonnffldaaGreatDoor
namespace Go.Proofs.YtfghldonnffldaaGreatDoor.RTopFrames
open Go.RowKit TBase UOne VTwo XThr YFou ZFiv QSix ESev YtfghldonnffldaaGreatDoorW.PrintWords YtfghldonnffldaaGreatDoorW.PrintLast YtfghldonnffldaaGreatDoorW.PrintMore
attribute [local go_sem] max2_int min2_int max_two min_two max_three min_three max_four min_four
mutual
noncomputable def descanttop_TopFrames.j0:Nat→ByteArray→Int→ByteArray→Int→Bool→Option (Bool)
 | 0,_,_,_,_,_=>none
 | k+1,x10,x11,x12,x13,x54=>if x54=true then ((descantlaw0_Num.f x11).bind fun t112=>(if t112=0 then ((descantlaw0_Num.f x13).bind fun t113=>(if t113=0 then (some false) else (some (x12.toList==([]:List UInt8))))) else (if x10.toList=([]:List UInt8) then (some true) else ((descantlaw0_Num.f x13).bind fun t114=>(if t114=0 then (some false) else (some (x12.toList==([]:List UInt8)))))))) else ((stream_Get.f x10).bind fun bt115=>((stream_Get.f x12).bind fun bt126=>((descantlaw0_Num.f bt115.2.2.2.2.2.2.2).bind fun t137=>(if t137=0 then ((descantlaw0_Num.f bt126.2.2.2.2.2.2.2).bind fun t138=>(if t138=0 then (if (bt115.2.2.2.2.2.2.1.length:Int)>(bt126.2.2.2.2.2.2.1.length:Int) then (descanttop_TopFrames.j1 k true bt115.1 bt115.2.1 bt115.2.2.1 bt115.2.2.2.1 bt115.2.2.2.2.1 bt115.2.2.2.2.2.1 bt115.2.2.2.2.2.2.1 bt126.1 bt126.2.1 bt126.2.2.1 bt126.2.2.2.1 bt126.2.2.2.2.1 bt126.2.2.2.2.2.1 bt126.2.2.2.2.2.2.1) else (descanttop_TopFrames.j1 k (decide (bt115.2.2.2.1>bt126.2.2.2.1)) bt115.1 bt115.2.1 bt115.2.2.1 bt115.2.2.2.1 bt115.2.2.2.2.1 bt115.2.2.2.2.2.1 bt115.2.2.2.2.2.2.1 bt126.1 bt126.2.1 bt126.2.2.1 bt126.2.2.2.1 bt126.2.2.2.2.1 bt126.2.2.2.2.2.1 bt126.2.2.2.2.2.2.1)) else (descanttop_TopFrames.j1 k true bt115.1 bt115.2.1 bt115.2.2.1 bt115.2.2.2.1 bt115.2.2.2.2.1 bt115.2.2.2.2.2.1 bt115.2.2.2.2.2.2.1 bt126.1 bt126.2.1 bt126.2.2.1 bt126.2.2.2.1 bt126.2.2.2.2.1 bt126.2.2.2.2.2.1 bt126.2.2.2.2.2.2.1))) else (descanttop_TopFrames.j1 k true bt115.1 bt115.2.1 bt115.2.2.1 bt115.2.2.2.1 bt115.2.2.2.2.1 bt115.2.2.2.2.2.1 bt115.2.2.2.2.2.2.1 bt126.1 bt126.2.1 bt126.2.2.1 bt126.2.2.2.1 bt126.2.2.2.2.1 bt126.2.2.2.2.2.1 bt126.2.2.2.2.2.2.1)))))
noncomputable def descanttop_TopFrames.j1:Nat→Bool→Int→Int→Int→Int→ByteArray→ByteArray→List ByteArray→Int→Int→Int→Int→ByteArray→ByteArray→List ByteArray→Option (Bool)
 | 0,_,_,_,_,_,_,_,_,_,_,_,_,_,_,_=>none
 | k+1,x104,x126000,x126001,x126002,x126003,x126004,x126005,x126006,x137000,x137001,x137002,x137003,x137004,x137005,x137006=>if x104=true then (some false) else (descanttop_TopFrames.l0 k 0 x126000 x126001 x126002 x126003 x126004 x126005 x126006 x137000 x137001 x137002 x137003 x137004 x137005 x137006)
noncomputable def descanttop_TopFrames.l0:Nat→Int→Int→Int→Int→Int→ByteArray→ByteArray→List ByteArray→Int→Int→Int→Int→ByteArray→ByteArray→List ByteArray→Option (Bool)
 | 0,_,_,_,_,_,_,_,_,_,_,_,_,_,_,_=>none
 | k+1,x18,x126000,x126001,x126002,x126003,x126004,x126005,x126006,x137000,x137001,x137002,x137003,x137004,x137005,x137006=>if (wrap64 (x18+1))<(x126006.length:Int) then (if 0≤x18 then (if x18<(x126006.length:Int) then (if x18<(x137006.length:Int) then (if (rdOf ByteArray.empty x126006 x18).toList=(rdOf ByteArray.empty x137006 x18).toList then (descanttop_TopFrames.l0 k (wrap64 (x18+1)) x126000 x126001 x126002 x126003 x126004 x126005 x126006 x137000 x137001 x137002 x137003 x137004 x137005 x137006) else (some false)) else (none)) else (none)) else (none)) else (some true)
end
noncomputable def descanttop_TopFrames.f (k:Nat) (a0_0:Int) (a0_1:Int) (a1:ByteArray) (a2:ByteArray) (a3:Int):Option (Bool):=(descanttop_awake.f).bind fun t102=>(if t102=true then ((descantref13_FormatMay.f a0_0 a0_1).bind fun t103=>(if t103=true then ((descanttop_wav.f k a0_0 a0_1 a1).bind fun t104=>((file_Encode.f k t104 (wrap64 (1+(wrap64 (Int.tmod (IntKind.u64.wrap (a3)) 64))))).bind fun bt105=>(if a1.size+a2.size≤9223372036854775807 then ((descanttop_wav.f k a0_0 a0_1 (a1++a2)).bind fun t107=>((file_Encode.f k t107 (wrap64 (1+(wrap64 (Int.tmod (IntKind.u64.wrap (a3)) 64))))).bind fun bt108=>((descantlaw0_Num.f bt105.2).bind fun t110=>(if t110=0 then ((descantlaw0_Num.f bt108.2).bind fun t111=>(descanttop_TopFrames.j0 k bt105.1 bt105.2 bt108.1 bt108.2 (t111 !=0))) else (descanttop_TopFrames.j0 k bt105.1 bt105.2 bt108.1 bt108.2 true))))) else (none)))) else (some true))) else (some false))
theorem descanttop_TopFrames.calls (k:Nat) (a0_0:Int) (a0_1:Int) (a1:ByteArray) (a2:ByteArray) (a3:Int) (r:Bool) (w:World) (hr_:r=true) (h:descanttop_TopFrames.f k a0_0 a0_1 a1 a2 a3=some r) (hT:Tabs w:=by exact Tabs.below hT B_):
  Calls Tryz.prog 7 #[.agg #[.int .i64 a0_0,.int .i64 a0_1],.string a1,.string a2,.int .i64 a3] w fun e w'=>e= .returned (.bool r)∧Below w.heap.size w w':=by
 have hu23:=Tryz.underlying23
 have hu49:=Tryz.underlying49
 have HB:=Z_ (Below.refl w.heap.size w)
 subst hr_
 have H:((descanttop_awake.f).bind fun t102=>(if t102=true then ((descantref13_FormatMay.f a0_0 a0_1).bind fun t103=>(if t103=true then ((descanttop_wav.f k a0_0 a0_1 a1).bind fun t104=>((file_Encode.f k t104 (wrap64 (1+(wrap64 (Int.tmod (IntKind.u64.wrap (a3)) 64))))).bind fun bt105=>(if a1.size+a2.size≤9223372036854775807 then ((descanttop_wav.f k a0_0 a0_1 (a1++a2)).bind fun t107=>((file_Encode.f k t107 (wrap64 (1+(wrap64 (Int.tmod (IntKind.u64.wrap (a3)) 64))))).bind fun bt108=>((descantlaw0_Num.f bt105.2).bind fun t110=>(if t110=0 then ((descantlaw0_Num.f bt108.2).bind fun t111=>(descanttop_TopFrames.j0 k bt105.1 bt105.2 bt108.1 bt108.2 (t111 !=0))) else (descanttop_TopFrames.j0 k bt105.1 bt105.2 bt108.1 bt108.2 true))))) else (none)))) else (some true))) else (some false)))=some true:=h
 clear h
 replace H:=Option.bind_eq_some_iff.mp H
 obtain ⟨t102,A50,H⟩:=H
 (try dsimp only at H)
 have A5:=Z_ A50
 clear A50
 by_cases c6:t102=true
 ·subst c6
  rw [if_pos rfl] at H
  replace H:=Option.bind_eq_some_iff.mp H
  obtain ⟨t103,A70,H⟩:=H
  (try dsimp only at H)
  have A7:=Z_ A70
  clear A70
  by_cases c8:t103=true
  ·subst c8
   rw [if_pos rfl] at H
   replace H:=Option.bind_eq_some_iff.mp H
   obtain ⟨t104,A90,H⟩:=H
   (try dsimp only at H)
   have A9:=Z_ A90
   clear A90
   replace H:=Option.bind_eq_some_iff.mp H
   obtain ⟨⟨t105,t106⟩,A100,H⟩:=H
   (try dsimp only at H)
   have A10:=Z_ A100
   clear A100
   by_cases c11:a1.size+a2.size≤9223372036854775807
   ·rw [if_pos c11] at H
    have c11b0:=eq_true c11
    have c11b1:=decide_eq_true c11
    try have c11b2:(9223372036854775807<a1.size+a2.size)=False:=eq_false (Nat.not_lt.2 c11)
    replace H:=Option.bind_eq_some_iff.mp H
    obtain ⟨t107,A120,H⟩:=H
    (try dsimp only at H)
    have A12:=Z_ A120
    clear A120
    replace H:=Option.bind_eq_some_iff.mp H
    obtain ⟨⟨t108,t109⟩,A130,H⟩:=H
    (try dsimp only at H)
    have A13:=Z_ A130
    clear A130
    have HC14:=Z_ H
    clear H
    go_enter Tryz.func7,Tryz.ntmps7
    go_upto_region 8 with (first | ((try (refine gate_guard (by rfl) ?_;dsimp only));refine X_ 4 #[.int .i64 a0_0,.int .i64 a0_1] 23 ?_;intro gb101 hg w15 hbox hb;have BK101:=Z_ (hbox);have GW101:=Z_ (G2_ hg:w.heap.size≤_);have GE101:=GW101;replace HB:=Hb_ hb;clear hb hbox hg) | (go_at_call 8;(with_reducible refine (descanttop_awake.calls  true _ A5.out).mono ?_);rintro e w16 ⟨rfl,hb⟩;replace BK101:=Z_ (blk_below (K_ BK101) hb);replace HB:=Hb_ hb;(try clear hb);have hcz17_0:=cz_ BK101 0;have hcz17_1:=cz_ BK101 1;have hfz17_0:=fz_ BK101 0;have hfz17_1:=fz_ BK101 1) | (go_at_call 9;(with_reducible refine (descantref13_FormatMay.calls a0_0 a0_1 true _ A7.out).mono ?_);rintro e w18 ⟨rfl,hb⟩;replace BK101:=Z_ (blk_below (K_ BK101) hb);replace HB:=Hb_ hb;(try clear hb);have hcz19_0:=cz_ BK101 0;have hcz19_1:=cz_ BK101 1;have hfz19_0:=fz_ BK101 0;have hfz19_1:=fz_ BK101 1) | (go_at_call 11;(with_reducible refine (descanttop_wav.calls k a0_0 a0_1 a1 t104 _ A9.out).mono ?_);rintro e w20 ⟨rfl,hb⟩;replace BK101:=Z_ (blk_below (K_ BK101) hb);replace HB:=Hb_ hb;(try clear hb)) | (go_at_call 10;(with_reducible refine (file_Encode.calls k t104 (wrap64 (1+(wrap64 (Int.tmod (IntKind.u64.wrap (a3)) 64)))) t105 t106 _ A10.out).mono ?_);rintro e w21 ⟨rfl,hb⟩;replace BK101:=Z_ (blk_below (K_ BK101) hb);replace HB:=Hb_ hb;(try clear hb);have hcz22_0:=cz_ BK101 0;have hcz22_1:=cz_ BK101 1;have hfz22_0:=fz_ BK101 0;have hfz22_1:=fz_ BK101 1) | (go_at_call 11;(with_reducible refine (descanttop_wav.calls k a0_0 a0_1 (a1++a2) t107 _ A12.out).mono ?_);rintro e w23 ⟨rfl,hb⟩;replace BK101:=Z_ (blk_below (K_ BK101) hb);replace HB:=Hb_ hb;(try clear hb)) | (go_at_call 10;(with_reducible refine (file_Encode.calls k t107 (wrap64 (1+(wrap64 (Int.tmod (IntKind.u64.wrap (a3)) 64)))) t108 t109 _ A13.out).mono ?_);rintro e w24 ⟨rfl,hb⟩;replace BK101:=Z_ (blk_below (K_ BK101) hb);replace HB:=Hb_ hb;(try clear hb)))
    repeat (go_quiet (first | ((try (refine gate_guard (by rfl) ?_;dsimp only));refine X_ 4 #[.int .i64 a0_0,.int .i64 a0_1] 23 ?_;intro gb101 hg w15 hbox hb;have BK101:=Z_ (hbox);have GW101:=Z_ (G2_ hg:w.heap.size≤_);have GE101:=GW101;replace HB:=Hb_ hb;clear hb hbox hg) | (go_at_call 8;(with_reducible refine (descanttop_awake.calls  true _ A5.out).mono ?_);rintro e w16 ⟨rfl,hb⟩;replace BK101:=Z_ (blk_below (K_ BK101) hb);replace HB:=Hb_ hb;(try clear hb);have hcz17_0:=cz_ BK101 0;have hcz17_1:=cz_ BK101 1;have hfz17_0:=fz_ BK101 0;have hfz17_1:=fz_ BK101 1) | (go_at_call 9;(with_reducible refine (descantref13_FormatMay.calls a0_0 a0_1 true _ A7.out).mono ?_);rintro e w18 ⟨rfl,hb⟩;replace BK101:=Z_ (blk_below (K_ BK101) hb);replace HB:=Hb_ hb;(try clear hb);have hcz19_0:=cz_ BK101 0;have hcz19_1:=cz_ BK101 1;have hfz19_0:=fz_ BK101 0;have hfz19_1:=fz_ BK101 1) | (go_at_call 11;(with_reducible refine (descanttop_wav.calls k a0_0 a0_1 a1 t104 _ A9.out).mono ?_);rintro e w20 ⟨rfl,hb⟩;replace BK101:=Z_ (blk_below (K_ BK101) hb);replace HB:=Hb_ hb;(try clear hb)) | (go_at_call 10;(with_reducible refine (file_Encode.calls k t104 (wrap64 (1+(wrap64 (Int.tmod (IntKind.u64.wrap (a3)) 64)))) t105 t106 _ A10.out).mono ?_);rintro e w21 ⟨rfl,hb⟩;replace BK101:=Z_ (blk_below (K_ BK101) hb);replace HB:=Hb_ hb;(try clear hb);have hcz22_0:=cz_ BK101 0;have hcz22_1:=cz_ BK101 1;have hfz22_0:=fz_ BK101 0;have hfz22_1:=fz_ BK101 1) | (go_at_call 11;(with_reducible refine (descanttop_wav.calls k a0_0 a0_1 (a1++a2) t107 _ A12.out).mono ?_);rintro e w23 ⟨rfl,hb⟩;replace BK101:=Z_ (blk_below (K_ BK101) hb);replace HB:=Hb_ hb;(try clear hb)) | (go_at_call 10;(with_reducible refine (file_Encode.calls k t107 (wrap64 (1+(wrap64 (Int.tmod (IntKind.u64.wrap (a3)) 64)))) t108 t109 _ A13.out).mono ?_);rintro e w24 ⟨rfl,hb⟩;replace BK101:=Z_ (blk_below (K_ BK101) hb);replace HB:=Hb_ hb;(try clear hb)));go_upto_region 8 with (first | ((try (refine gate_guard (by rfl) ?_;dsimp only));refine X_ 4 #[.int .i64 a0_0,.int .i64 a0_1] 23 ?_;intro gb101 hg w15 hbox hb;have BK101:=Z_ (hbox);have GW101:=Z_ (G2_ hg:w.heap.size≤_);have GE101:=GW101;replace HB:=Hb_ hb;clear hb hbox hg) | (go_at_call 8;(with_reducible refine (descanttop_awake.calls  true _ A5.out).mono ?_);rintro e w16 ⟨rfl,hb⟩;replace BK101:=Z_ (blk_below (K_ BK101) hb);replace HB:=Hb_ hb;(try clear hb);have hcz17_0:=cz_ BK101 0;have hcz17_1:=cz_ BK101 1;have hfz17_0:=fz_ BK101 0;have hfz17_1:=fz_ BK101 1) | (go_at_call 9;(with_reducible refine (descantref13_FormatMay.calls a0_0 a0_1 true _ A7.out).mono ?_);rintro e w18 ⟨rfl,hb⟩;replace BK101:=Z_ (blk_below (K_ BK101) hb);replace HB:=Hb_ hb;(try clear hb);have hcz19_0:=cz_ BK101 0;have hcz19_1:=cz_ BK101 1;have hfz19_0:=fz_ BK101 0;have hfz19_1:=fz_ BK101 1) | (go_at_call 11;(with_reducible refine (descanttop_wav.calls k a0_0 a0_1 a1 t104 _ A9.out).mono ?_);rintro e w20 ⟨rfl,hb⟩;replace BK101:=Z_ (blk_below (K_ BK101) hb);replace HB:=Hb_ hb;(try clear hb)) | (go_at_call 10;(with_reducible refine (file_Encode.calls k t104 (wrap64 (1+(wrap64 (Int.tmod (IntKind.u64.wrap (a3)) 64)))) t105 t106 _ A10.out).mono ?_);rintro e w21 ⟨rfl,hb⟩;replace BK101:=Z_ (blk_below (K_ BK101) hb);replace HB:=Hb_ hb;(try clear hb);have hcz22_0:=cz_ BK101 0;have hcz22_1:=cz_ BK101 1;have hfz22_0:=fz_ BK101 0;have hfz22_1:=fz_ BK101 1) | (go_at_call 11;(with_reducible refine (descanttop_wav.calls k a0_0 a0_1 (a1++a2) t107 _ A12.out).mono ?_);rintro e w23 ⟨rfl,hb⟩;replace BK101:=Z_ (blk_below (K_ BK101) hb);replace HB:=Hb_ hb;(try clear hb)) | (go_at_call 10;(with_reducible refine (file_Encode.calls k t107 (wrap64 (1+(wrap64 (Int.tmod (IntKind.u64.wrap (a3)) 64)))) t108 t109 _ A13.out).mono ?_);rintro e w24 ⟨rfl,hb⟩;replace BK101:=Z_ (blk_below (K_ BK101) hb);replace HB:=Hb_ hb;(try clear hb))))
    (try simp only [Act.put,List.setIfInBounds_toArray,List.set_cons_zero,List.set_cons_succ])
    go_cut [54] (fun v54 wc=>∃(kq:Nat) (x54_13:Bool),v54= .bool x54_13∧Aside0 (descanttop_TopFrames.j0 kq t105 t106 t108 t109 x54_13=some true)∧Aside0 (kq≤k)∧Aside0 (wc.heap[gb101]?=some (.cells #[.int .i64 a0_0,.int .i64 a0_1] 23 (0,0)))∧Aside0 (Below w.heap.size w wc))
    case first=>
     have H:=HC14.out
     clear HC14
     replace H:=Option.bind_eq_some_iff.mp H
     obtain ⟨t110,A250,H⟩:=H
     (try dsimp only at H)
     have A25:=Z_ A250
     clear A250
     by_cases c26:t110=0
     ·rw [if_pos c26] at H
      have c26b0:(t110==0)=true:=beq_iff_eq.mpr c26
      have c26b1:(t110 !=0)=false:=bne_eq_false_iff_eq.mpr c26
      clear c26
      (first | rw [c26b0] | (simp only [i64_w,i32_w];rw [c26b0]) | skip)
      replace H:=Option.bind_eq_some_iff.mp H
      obtain ⟨t111,A270,H⟩:=H
      (try dsimp only at H)
      have A27:=Z_ A270
      clear A270
      have H':=Z_ H
      clear H
      go_wp2_with (first | (go_at_call 12;(with_reducible refine (descantlaw0_Num.calls t106 t110 _ A25.out).mono ?_);rintro e w' ⟨rfl,⟨nd,rfl⟩⟩;(try exact Dr_)) | (go_at_call 12;(with_reducible refine (descantlaw0_Num.calls t109 t111 _ A27.out).mono ?_);rintro e w' ⟨rfl,⟨nd,rfl⟩⟩;(try exact Dr_)))
      repeat (go_quiet (first | (go_at_call 12;(with_reducible refine (descantlaw0_Num.calls t106 t110 _ A25.out).mono ?_);rintro e w' ⟨rfl,⟨nd,rfl⟩⟩;(try exact Dr_)) | (go_at_call 12;(with_reducible refine (descantlaw0_Num.calls t109 t111 _ A27.out).mono ?_);rintro e w' ⟨rfl,⟨nd,rfl⟩⟩;(try exact Dr_)));try go_wp2_with (first | (go_at_call 12;(with_reducible refine (descantlaw0_Num.calls t106 t110 _ A25.out).mono ?_);rintro e w' ⟨rfl,⟨nd,rfl⟩⟩;(try exact Dr_)) | (go_at_call 12;(with_reducible refine (descantlaw0_Num.calls t109 t111 _ A27.out).mono ?_);rintro e w' ⟨rfl,⟨nd,rfl⟩⟩;(try exact Dr_))))
      go_meet
      case rel=>exact ⟨_,((t111 !=0)),(E1_),H',⟨L_⟩,⟨by (with_reducible repeat (first | refine blk_drewN ?_ _ | refine blk_drew ?_ | refine blk_alloc ?_ _));exact BK101.out⟩,⟨B_⟩⟩
     ·rw [if_neg c26] at H
      have c26b0:(t110==0)=false:=beq_eq_false_iff_ne.mpr c26
      have c26b1:(t110 !=0)=true:=bne_iff_ne.mpr c26
      (first | rw [c26b0] | (simp only [i64_w,i32_w];rw [c26b0]) | skip)
      have H':=Z_ H
      clear H
      go_wp2_with (first | (go_at_call 12;(with_reducible refine (descantlaw0_Num.calls t106 t110 _ A25.out).mono ?_);rintro e w' ⟨rfl,⟨nd,rfl⟩⟩;(try exact Dr_)))
      repeat (go_quiet (first | (go_at_call 12;(with_reducible refine (descantlaw0_Num.calls t106 t110 _ A25.out).mono ?_);rintro e w' ⟨rfl,⟨nd,rfl⟩⟩;(try exact Dr_)));try go_wp2_with (first | (go_at_call 12;(with_reducible refine (descantlaw0_Num.calls t106 t110 _ A25.out).mono ?_);rintro e w' ⟨rfl,⟨nd,rfl⟩⟩;(try exact Dr_))))
      go_meet
      case rel=>exact ⟨_,(true),(E1_),H',⟨L_⟩,⟨by (with_reducible repeat (first | refine blk_drewN ?_ _ | refine blk_drew ?_ | refine blk_alloc ?_ _));exact BK101.out⟩,⟨B_⟩⟩
    case rest=>
     clear HC14
     try clear c1
     try clear c2
     try clear p2
     try clear c6
     try clear p6
     try clear c7
     try clear c8
     try clear c11
     try clear c11b0
     try clear c11b1
     try clear c11b2
     try clear c26
     try clear c26b0
     try clear c26b1
     try clear hcz17_0
     try clear hcz17_1
     try clear hcz19_0
     try clear hcz19_1
     try clear hcz22_0
     try clear hcz22_1
     try clear hfz17_0
     try clear hfz17_1
     try clear hfz19_0
     try clear hfz19_1
     try clear hfz22_0
     try clear hfz22_1
     obtain ⟨kq,x54_13,rfl,HA,HJ13,BK101,HB⟩:=hcut
     cases kq with
     | zero=>exact absurd HA.out (by simp [descanttop_TopFrames.j0])
     | succ kj13=>
      have H:=HA.out
      clear HA
      simp only [descanttop_TopFrames.j0] at H
      by_cases c28:x54_13=true
      ·subst c28
       rw [if_pos rfl] at H
       replace H:=Option.bind_eq_some_iff.mp H
       obtain ⟨t112,A290,H⟩:=H
       (try dsimp only at H)
       have A29:=Z_ A290
       clear A290
       by_cases c30:t112=0
       ·rw [if_pos c30] at H
        have c30b0:(t112==0)=true:=beq_iff_eq.mpr c30
        have c30b1:(t112 !=0)=false:=bne_eq_false_iff_eq.mpr c30
        clear c30
        replace H:=Option.bind_eq_some_iff.mp H
        obtain ⟨t113,A310,H⟩:=H
        (try dsimp only at H)
        have A31:=Z_ A310
        clear A310
        by_cases c32:t113=0
        ·rw [if_pos c32] at H
         have c32b0:(t113==0)=true:=beq_iff_eq.mpr c32
         have c32b1:(t113 !=0)=false:=bne_eq_false_iff_eq.mpr c32
         clear c32
         exact absurd H (by simp)
        ·rw [if_neg c32] at H
         have c32b0:(t113==0)=false:=beq_eq_false_iff_ne.mpr c32
         have c32b1:(t113 !=0)=true:=bne_iff_ne.mpr c32
         have Eh_:=Option.some.inj H
         clear H
         go_wp2_with (first | (go_at_call 12;(with_reducible refine (descantlaw0_Num.calls t106 t112 _ A29.out).mono ?_);rintro e w' ⟨rfl,⟨nd,rfl⟩⟩;(try exact Dr_)) | (go_at_call 12;(with_reducible refine (descantlaw0_Num.calls t109 t113 _ A31.out).mono ?_);rintro e w' ⟨rfl,⟨nd,rfl⟩⟩;(try exact Dr_)))
         repeat (go_quiet (first | (go_at_call 12;(with_reducible refine (descantlaw0_Num.calls t106 t112 _ A29.out).mono ?_);rintro e w' ⟨rfl,⟨nd,rfl⟩⟩;(try exact Dr_)) | (go_at_call 12;(with_reducible refine (descantlaw0_Num.calls t109 t113 _ A31.out).mono ?_);rintro e w' ⟨rfl,⟨nd,rfl⟩⟩;(try exact Dr_)));try go_wp2_with (first | (go_at_call 12;(with_reducible refine (descantlaw0_Num.calls t106 t112 _ A29.out).mono ?_);rintro e w' ⟨rfl,⟨nd,rfl⟩⟩;(try exact Dr_)) | (go_at_call 12;(with_reducible refine (descantlaw0_Num.calls t109 t113 _ A31.out).mono ?_);rintro e w' ⟨rfl,⟨nd,rfl⟩⟩;(try exact Dr_))))
         go_ret
         exact ⟨E_,B_⟩
       ·rw [if_neg c30] at H
        have c30b0:(t112==0)=false:=beq_eq_false_iff_ne.mpr c30
        have c30b1:(t112 !=0)=true:=bne_iff_ne.mpr c30
        by_cases c33:t105.toList=([]:List UInt8)
        ·rw [if_pos c33] at H
         have c33b0:(t105.toList==([]:List UInt8))=true:=beq_iff_eq.mpr c33
         have c33b1:(t105.toList !=([]:List UInt8))=false:=bne_eq_false_iff_eq.mpr c33
         clear c33
         clear H
         go_wp2_with (first | (go_at_call 12;(with_reducible refine (descantlaw0_Num.calls t106 t112 _ A29.out).mono ?_);rintro e w' ⟨rfl,⟨nd,rfl⟩⟩;(try exact Dr_)))
         repeat (go_quiet (first | (go_at_call 12;(with_reducible refine (descantlaw0_Num.calls t106 t112 _ A29.out).mono ?_);rintro e w' ⟨rfl,⟨nd,rfl⟩⟩;(try exact Dr_)));try go_wp2_with (first | (go_at_call 12;(with_reducible refine (descantlaw0_Num.calls t106 t112 _ A29.out).mono ?_);rintro e w' ⟨rfl,⟨nd,rfl⟩⟩;(try exact Dr_))))
         go_ret
         exact ⟨E_,B_⟩
        ·rw [if_neg c33] at H
         have c33b0:(t105.toList==([]:List UInt8))=false:=beq_eq_false_iff_ne.mpr c33
         have c33b1:(t105.toList !=([]:List UInt8))=true:=bne_iff_ne.mpr c33
         replace H:=Option.bind_eq_some_iff.mp H
         obtain ⟨t114,A340,H⟩:=H
         (try dsimp only at H)
         have A34:=Z_ A340
         clear A340
         by_cases c35:t114=0
         ·rw [if_pos c35] at H
          have c35b0:(t114==0)=true:=beq_iff_eq.mpr c35
          have c35b1:(t114 !=0)=false:=bne_eq_false_iff_eq.mpr c35
          clear c35
          exact absurd H (by simp)
         ·rw [if_neg c35] at H
          have c35b0:(t114==0)=false:=beq_eq_false_iff_ne.mpr c35
          have c35b1:(t114 !=0)=true:=bne_iff_ne.mpr c35
          have Eh_:=Option.some.inj H
          clear H
          go_wp2_with (first | (go_at_call 12;(with_reducible refine (descantlaw0_Num.calls t106 t112 _ A29.out).mono ?_);rintro e w' ⟨rfl,⟨nd,rfl⟩⟩;(try exact Dr_)) | (go_at_call 12;(with_reducible refine (descantlaw0_Num.calls t109 t114 _ A34.out).mono ?_);rintro e w' ⟨rfl,⟨nd,rfl⟩⟩;(try exact Dr_)))
          repeat (go_quiet (first | (go_at_call 12;(with_reducible refine (descantlaw0_Num.calls t106 t112 _ A29.out).mono ?_);rintro e w' ⟨rfl,⟨nd,rfl⟩⟩;(try exact Dr_)) | (go_at_call 12;(with_reducible refine (descantlaw0_Num.calls t109 t114 _ A34.out).mono ?_);rintro e w' ⟨rfl,⟨nd,rfl⟩⟩;(try exact Dr_)));try go_wp2_with (first | (go_at_call 12;(with_reducible refine (descantlaw0_Num.calls t106 t112 _ A29.out).mono ?_);rintro e w' ⟨rfl,⟨nd,rfl⟩⟩;(try exact Dr_)) | (go_at_call 12;(with_reducible refine (descantlaw0_Num.calls t109 t114 _ A34.out).mono ?_);rintro e w' ⟨rfl,⟨nd,rfl⟩⟩;(try exact Dr_))))
          go_ret
          exact ⟨E_,B_⟩
      ·replace c28:=Bool.eq_false_iff.mpr c28
       subst c28
       rw [if_neg (show ¬(false=true) by decide)] at H
       replace H:=Option.bind_eq_some_iff.mp H
       obtain ⟨⟨t115,t116,t117,t118,t119,t120,t121,t124⟩,A360,H⟩:=H
       (try dsimp only at H)
       have A36:=Z_ A360
       clear A360
       replace H:=Option.bind_eq_some_iff.mp H
       obtain ⟨⟨t126,t127,t128,t129,t130,t131,t132,t135⟩,A370,H⟩:=H
       (try dsimp only at H)
       have A37:=Z_ A370
       clear A370
       have HC38:=Z_ H
       clear H
       go_upto_region 12 with (first | (go_at_call 20;(with_reducible refine (stream_Get.calls t105 t115 t116 t117 t118 t119 t120 t121 t124 _ A36.out).mono ?_);rintro e w39 ⟨v122,rfl,ho0,hb⟩;have HO123:=Z_ (Kd.R_lower ho0 (below_size B_));replace BK101:=Z_ (blk_below (K_ BK101) hb);replace HB:=Hb_ hb;(try clear hb);(try clear ho0)) | ((try (refine gate_guard (by rfl) ?_;dsimp only));refine X_ 14 #[.int .i64 0,.int .i64 0,.int .i64 0,.int .i64 0,.string (⟨#[]⟩:ByteArray),.string (⟨#[]⟩:ByteArray),.slice none 0 0] 49 ?_;intro gb125 hg w40 hbox hb;replace HO123:=Z_ (Kd.R_below (R_ HO123) hb);have BK125:=Z_ (hbox);have GW125:=Z_ (G2_ hg:w.heap.size≤_);have GE125:=GW125;replace HB:=Hb_ hb;have NB101_125:=Z_ ((by rw [hg];exact Nat.ne_of_lt (blk_lt (g:=gb101) (o:= .cells #[.int .i64 a0_0,.int .i64 a0_1] 23 (0,0)) (K_ BK101)):gb101≠gb125));have NB125_101:=Z_ ((by rw [hg];exact Nat.ne_of_gt (blk_lt (g:=gb101) (o:= .cells #[.int .i64 a0_0,.int .i64 a0_1] 23 (0,0)) (K_ BK101)):gb125≠gb101));replace BK101:=Z_ (blk_below (K_ BK101) hb);clear hb hbox hg;have hnb41:=NB125_101.out;have hnc41:=NB101_125.out;have hcz42_0:=cz_ BK125 0;have hcz42_1:=cz_ BK125 1;have hcz42_2:=cz_ BK125 2;have hcz42_3:=cz_ BK125 3;have hcz42_4:=cz_ BK125 4;have hcz42_5:=cz_ BK125 5;have hcz42_6:=cz_ BK125 6;have hfz42_0:=fz_ BK125 0;have hfz42_1:=fz_ BK125 1;have hfz42_2:=fz_ BK125 2;have hfz42_3:=fz_ BK125 3;have hfz42_4:=fz_ BK125 4;have hfz42_5:=fz_ BK125 5;have hfz42_6:=fz_ BK125 6;obtain ⟨Ao43,co43,eo43⟩:=Kd.R_slice HO123.out;subst eo43) | (go_at_call 20;(with_reducible refine (stream_Get.calls t108 t126 t127 t128 t129 t130 t131 t132 t135 _ A37.out).mono ?_);rintro e w44 ⟨v133,rfl,ho0,hb⟩;have HO134:=Z_ (Kd.R_lower (Kd.R_new' ho0 (Kd.R_lt (by (with_reducible repeat (first | apply Kd.R_alloc | apply Kd.R_drewN | apply Kd.R_drew));exact (Kd.R_mono (Kd.R_far (p:=⟨gb125,6,none⟩) (Kd.R_far (p:=⟨gb125,5,none⟩) (Kd.R_far (p:=⟨gb125,4,none⟩) (Kd.R_far (p:=⟨gb125,3,none⟩) (Kd.R_far (p:=⟨gb125,2,none⟩) (Kd.R_far (p:=⟨gb125,1,none⟩) (Kd.R_far (p:=⟨gb125,0,none⟩) (Kd.R_types HO123.out BK125.out (by decide)) (fun _ hk=>hk.2) (.int .i64 t115)) (fun _ hk=>hk.2) (.int .i64 t116)) (fun _ hk=>hk.2) (.int .i64 t117)) (fun _ hk=>hk.2) (.int .i64 t118)) (fun _ hk=>hk.2) (.string t119)) (fun _ hk=>hk.2) (.string t120)) (fun _ hk=>hk.2) (.slice Ao43 t121.length co43)) (fun _ h_=>h_.1))))) (below_size B_));replace HO123:=Z_ (Kd.R_elder' (by (with_reducible repeat (first | apply Kd.R_alloc | apply Kd.R_drewN | apply Kd.R_drew));exact (Kd.R_mono (Kd.R_far (p:=⟨gb125,6,none⟩) (Kd.R_far (p:=⟨gb125,5,none⟩) (Kd.R_far (p:=⟨gb125,4,none⟩) (Kd.R_far (p:=⟨gb125,3,none⟩) (Kd.R_far (p:=⟨gb125,2,none⟩) (Kd.R_far (p:=⟨gb125,1,none⟩) (Kd.R_far (p:=⟨gb125,0,none⟩) (Kd.R_types HO123.out BK125.out (by decide)) (fun _ hk=>hk.2) (.int .i64 t115)) (fun _ hk=>hk.2) (.int .i64 t116)) (fun _ hk=>hk.2) (.int .i64 t117)) (fun _ hk=>hk.2) (.int .i64 t118)) (fun _ hk=>hk.2) (.string t119)) (fun _ hk=>hk.2) (.string t120)) (fun _ hk=>hk.2) (.slice Ao43 t121.length co43)) (fun _ h_=>h_.1))) (Kd.R_base ho0) hb);replace BK101:=Z_ (blk_below (g:=gb101) (o:= .cells #[.int .i64 a0_0,.int .i64 a0_1] 23 (0,0)) (by (with_reducible repeat (first | refine blk_drewN ?_ _ | refine blk_drew ?_ | refine blk_alloc ?_ _));refine blk_far ?_ NB101_125.out _;(with_reducible repeat (first | refine blk_drewN ?_ _ | refine blk_drew ?_ | refine blk_alloc ?_ _));refine blk_far ?_ NB101_125.out _;(with_reducible repeat (first | refine blk_drewN ?_ _ | refine blk_drew ?_ | refine blk_alloc ?_ _));refine blk_far ?_ NB101_125.out _;(with_reducible repeat (first | refine blk_drewN ?_ _ | refine blk_drew ?_ | refine blk_alloc ?_ _));refine blk_far ?_ NB101_125.out _;(with_reducible repeat (first | refine blk_drewN ?_ _ | refine blk_drew ?_ | refine blk_alloc ?_ _));refine blk_far ?_ NB101_125.out _;(with_reducible repeat (first | refine blk_drewN ?_ _ | refine blk_drew ?_ | refine blk_alloc ?_ _));refine blk_far ?_ NB101_125.out _;(with_reducible repeat (first | refine blk_drewN ?_ _ | refine blk_drew ?_ | refine blk_alloc ?_ _));refine blk_far ?_ NB101_125.out _;(with_reducible repeat (first | refine blk_drewN ?_ _ | refine blk_drew ?_ | refine blk_alloc ?_ _));exact BK101.out) hb);replace BK125:=Z_ (blk_below (g:=gb125) (o:= .cells #[.int .i64 t115,.int .i64 t116,.int .i64 t117,.int .i64 t118,.string t119,.string t120,.slice Ao43 t121.length co43] 49 (0,0)) (by (with_reducible repeat (first | refine blk_drewN ?_ _ | refine blk_drew ?_ | refine blk_alloc ?_ _));refine blk_put (cs:= #[.int .i64 t115,.int .i64 t116,.int .i64 t117,.int .i64 t118,.string t119,.string t120,.slice none 0 0]) ?_ 6 _ rfl;(with_reducible repeat (first | refine blk_drewN ?_ _ | refine blk_drew ?_ | refine blk_alloc ?_ _));refine blk_put (cs:= #[.int .i64 t115,.int .i64 t116,.int .i64 t117,.int .i64 t118,.string t119,.string (⟨#[]⟩:ByteArray),.slice none 0 0]) ?_ 5 _ rfl;(with_reducible repeat (first | refine blk_drewN ?_ _ | refine blk_drew ?_ | refine blk_alloc ?_ _));refine blk_put (cs:= #[.int .i64 t115,.int .i64 t116,.int .i64 t117,.int .i64 t118,.string (⟨#[]⟩:ByteArray),.string (⟨#[]⟩:ByteArray),.slice none 0 0]) ?_ 4 _ rfl;(with_reducible repeat (first | refine blk_drewN ?_ _ | refine blk_drew ?_ | refine blk_alloc ?_ _));refine blk_put (cs:= #[.int .i64 t115,.int .i64 t116,.int .i64 t117,.int .i64 0,.string (⟨#[]⟩:ByteArray),.string (⟨#[]⟩:ByteArray),.slice none 0 0]) ?_ 3 _ rfl;(with_reducible repeat (first | refine blk_drewN ?_ _ | refine blk_drew ?_ | refine blk_alloc ?_ _));refine blk_put (cs:= #[.int .i64 t115,.int .i64 t116,.int .i64 0,.int .i64 0,.string (⟨#[]⟩:ByteArray),.string (⟨#[]⟩:ByteArray),.slice none 0 0]) ?_ 2 _ rfl;(with_reducible repeat (first | refine blk_drewN ?_ _ | refine blk_drew ?_ | refine blk_alloc ?_ _));refine blk_put (cs:= #[.int .i64 t115,.int .i64 0,.int .i64 0,.int .i64 0,.string (⟨#[]⟩:ByteArray),.string (⟨#[]⟩:ByteArray),.slice none 0 0]) ?_ 1 _ rfl;(with_reducible repeat (first | refine blk_drewN ?_ _ | refine blk_drew ?_ | refine blk_alloc ?_ _));refine blk_put (cs:= #[.int .i64 0,.int .i64 0,.int .i64 0,.int .i64 0,.string (⟨#[]⟩:ByteArray),.string (⟨#[]⟩:ByteArray),.slice none 0 0]) ?_ 0 _ rfl;(with_reducible repeat (first | refine blk_drewN ?_ _ | refine blk_drew ?_ | refine blk_alloc ?_ _));exact BK125.out) hb);replace HB:=Hb_ hb;(try clear hb);(try clear ho0)) | ((try (refine gate_guard (by rfl) ?_;dsimp only));refine X_ 16 #[.int .i64 0,.int .i64 0,.int .i64 0,.int .i64 0,.string (⟨#[]⟩:ByteArray),.string (⟨#[]⟩:ByteArray),.slice none 0 0] 49 ?_;intro gb136 hg w45 hbox hb;replace HO123:=Z_ (Kd.R_below (R_ HO123) hb);replace HO134:=Z_ (Kd.R_below (R_ HO134) hb);have BK136:=Z_ (hbox);have GW136:=Z_ (G2_ hg:w.heap.size≤_);have GE136:=GW136;replace HB:=Hb_ hb;have NB101_136:=Z_ ((by rw [hg];exact Nat.ne_of_lt (blk_lt (g:=gb101) (o:= .cells #[.int .i64 a0_0,.int .i64 a0_1] 23 (0,0)) (K_ BK101)):gb101≠gb136));have NB136_101:=Z_ ((by rw [hg];exact Nat.ne_of_gt (blk_lt (g:=gb101) (o:= .cells #[.int .i64 a0_0,.int .i64 a0_1] 23 (0,0)) (K_ BK101)):gb136≠gb101));replace BK101:=Z_ (blk_below (K_ BK101) hb);have NB125_136:=Z_ ((by rw [hg];exact Nat.ne_of_lt (blk_lt (g:=gb125) (o:= .cells #[.int .i64 t115,.int .i64 t116,.int .i64 t117,.int .i64 t118,.string t119,.string t120,.slice Ao43 t121.length co43] 49 (0,0)) (K_ BK125)):gb125≠gb136));have NB136_125:=Z_ ((by rw [hg];exact Nat.ne_of_gt (blk_lt (g:=gb125) (o:= .cells #[.int .i64 t115,.int .i64 t116,.int .i64 t117,.int .i64 t118,.string t119,.string t120,.slice Ao43 t121.length co43] 49 (0,0)) (K_ BK125)):gb136≠gb125));replace BK125:=Z_ (blk_below (K_ BK125) hb);clear hb hbox hg;have hnb46:=NB136_101.out;have hnc46:=NB101_136.out;have hnb47:=NB136_125.out;have hnc47:=NB125_136.out;have hcz48_0:=cz_ BK136 0;have hcz48_1:=cz_ BK136 1;have hcz48_2:=cz_ BK136 2;have hcz48_3:=cz_ BK136 3;have hcz48_4:=cz_ BK136 4;have hcz48_5:=cz_ BK136 5;have hcz48_6:=cz_ BK136 6;have hfz48_0:=fz_ BK136 0;have hfz48_1:=fz_ BK136 1;have hfz48_2:=fz_ BK136 2;have hfz48_3:=fz_ BK136 3;have hfz48_4:=fz_ BK136 4;have hfz48_5:=fz_ BK136 5;have hfz48_6:=fz_ BK136 6;obtain ⟨Ao49,co49,eo49⟩:=Kd.R_slice HO134.out;subst eo49))
       repeat (go_quiet (first | (go_at_call 20;(with_reducible refine (stream_Get.calls t105 t115 t116 t117 t118 t119 t120 t121 t124 _ A36.out).mono ?_);rintro e w39 ⟨v122,rfl,ho0,hb⟩;have HO123:=Z_ (Kd.R_lower ho0 (below_size B_));replace BK101:=Z_ (blk_below (K_ BK101) hb);replace HB:=Hb_ hb;(try clear hb);(try clear ho0)) | ((try (refine gate_guard (by rfl) ?_;dsimp only));refine X_ 14 #[.int .i64 0,.int .i64 0,.int .i64 0,.int .i64 0,.string (⟨#[]⟩:ByteArray),.string (⟨#[]⟩:ByteArray),.slice none 0 0] 49 ?_;intro gb125 hg w40 hbox hb;replace HO123:=Z_ (Kd.R_below (R_ HO123) hb);have BK125:=Z_ (hbox);have GW125:=Z_ (G2_ hg:w.heap.size≤_);have GE125:=GW125;replace HB:=Hb_ hb;have NB101_125:=Z_ ((by rw [hg];exact Nat.ne_of_lt (blk_lt (g:=gb101) (o:= .cells #[.int .i64 a0_0,.int .i64 a0_1] 23 (0,0)) (K_ BK101)):gb101≠gb125));have NB125_101:=Z_ ((by rw [hg];exact Nat.ne_of_gt (blk_lt (g:=gb101) (o:= .cells #[.int .i64 a0_0,.int .i64 a0_1] 23 (0,0)) (K_ BK101)):gb125≠gb101));replace BK101:=Z_ (blk_below (K_ BK101) hb);clear hb hbox hg;have hnb41:=NB125_101.out;have hnc41:=NB101_125.out;have hcz42_0:=cz_ BK125 0;have hcz42_1:=cz_ BK125 1;have hcz42_2:=cz_ BK125 2;have hcz42_3:=cz_ BK125 3;have hcz42_4:=cz_ BK125 4;have hcz42_5:=cz_ BK125 5;have hcz42_6:=cz_ BK125 6;have hfz42_0:=fz_ BK125 0;have hfz42_1:=fz_ BK125 1;have hfz42_2:=fz_ BK125 2;have hfz42_3:=fz_ BK125 3;have hfz42_4:=fz_ BK125 4;have hfz42_5:=fz_ BK125 5;have hfz42_6:=fz_ BK125 6;obtain ⟨Ao43,co43,eo43⟩:=Kd.R_slice HO123.out;subst eo43) | (go_at_call 20;(with_reducible refine (stream_Get.calls t108 t126 t127 t128 t129 t130 t131 t132 t135 _ A37.out).mono ?_);rintro e w44 ⟨v133,rfl,ho0,hb⟩;have HO134:=Z_ (Kd.R_lower (Kd.R_new' ho0 (Kd.R_lt (by (with_reducible repeat (first | apply Kd.R_alloc | apply Kd.R_drewN | apply Kd.R_drew));exact (Kd.R_mono (Kd.R_far (p:=⟨gb125,6,none⟩) (Kd.R_far (p:=⟨gb125,5,none⟩) (Kd.R_far (p:=⟨gb125,4,none⟩) (Kd.R_far (p:=⟨gb125,3,none⟩) (Kd.R_far (p:=⟨gb125,2,none⟩) (Kd.R_far (p:=⟨gb125,1,none⟩) (Kd.R_far (p:=⟨gb125,0,none⟩) (Kd.R_types HO123.out BK125.out (by decide)) (fun _ hk=>hk.2) (.int .i64 t115)) (fun _ hk=>hk.2) (.int .i64 t116)) (fun _ hk=>hk.2) (.int .i64 t117)) (fun _ hk=>hk.2) (.int .i64 t118)) (fun _ hk=>hk.2) (.string t119)) (fun _ hk=>hk.2) (.string t120)) (fun _ hk=>hk.2) (.slice Ao43 t121.length co43)) (fun _ h_=>h_.1))))) (below_size B_));replace HO123:=Z_ (Kd.R_elder' (by (with_reducible repeat (first | apply Kd.R_alloc | apply Kd.R_drewN | apply Kd.R_drew));exact (Kd.R_mono (Kd.R_far (p:=⟨gb125,6,none⟩) (Kd.R_far (p:=⟨gb125,5,none⟩) (Kd.R_far (p:=⟨gb125,4,none⟩) (Kd.R_far (p:=⟨gb125,3,none⟩) (Kd.R_far (p:=⟨gb125,2,none⟩) (Kd.R_far (p:=⟨gb125,1,none⟩) (Kd.R_far (p:=⟨gb125,0,none⟩) (Kd.R_types HO123.out BK125.out (by decide)) (fun _ hk=>hk.2) (.int .i64 t115)) (fun _ hk=>hk.2) (.int .i64 t116)) (fun _ hk=>hk.2) (.int .i64 t117)) (fun _ hk=>hk.2) (.int .i64 t118)) (fun _ hk=>hk.2) (.string t119)) (fun _ hk=>hk.2) (.string t120)) (fun _ hk=>hk.2) (.slice Ao43 t121.length co43)) (fun _ h_=>h_.1))) (Kd.R_base ho0) hb);replace BK101:=Z_ (blk_below (g:=gb101) (o:= .cells #[.int .i64 a0_0,.int .i64 a0_1] 23 (0,0)) (by (with_reducible repeat (first | refine blk_drewN ?_ _ | refine blk_drew ?_ | refine blk_alloc ?_ _));refine blk_far ?_ NB101_125.out _;(with_reducible repeat (first | refine blk_drewN ?_ _ | refine blk_drew ?_ | refine blk_alloc ?_ _));refine blk_far ?_ NB101_125.out _;(with_reducible repeat (first | refine blk_drewN ?_ _ | refine blk_drew ?_ | refine blk_alloc ?_ _));refine blk_far ?_ NB101_125.out _;(with_reducible repeat (first | refine blk_drewN ?_ _ | refine blk_drew ?_ | refine blk_alloc ?_ _));refine blk_far ?_ NB101_125.out _;(with_reducible repeat (first | refine blk_drewN ?_ _ | refine blk_drew ?_ | refine blk_alloc ?_ _));refine blk_far ?_ NB101_125.out _;(with_reducible repeat (first | refine blk_drewN ?_ _ | refine blk_drew ?_ | refine blk_alloc ?_ _));refine blk_far ?_ NB101_125.out _;(with_reducible repeat (first | refine blk_drewN ?_ _ | refine blk_drew ?_ | refine blk_alloc ?_ _));refine blk_far ?_ NB101_125.out _;(with_reducible repeat (first | refine blk_drewN ?_ _ | refine blk_drew ?_ | refine blk_alloc ?_ _));exact BK101.out) hb);replace BK125:=Z_ (blk_below (g:=gb125) (o:= .cells #[.int .i64 t115,.int .i64 t116,.int .i64 t117,.int .i64 t118,.string t119,.string t120,.slice Ao43 t121.length co43] 49 (0,0)) (by (with_reducible repeat (first | refine blk_drewN ?_ _ | refine blk_drew ?_ | refine blk_alloc ?_ _));refine blk_put (cs:= #[.int .i64 t115,.int .i64 t116,.int .i64 t117,.int .i64 t118,.string t119,.string t120,.slice none 0 0]) ?_ 6 _ rfl;(with_reducible repeat (first | refine blk_drewN ?_ _ | refine blk_drew ?_ | refine blk_alloc ?_ _));refine blk_put (cs:= #[.int .i64 t115,.int .i64 t116,.int .i64 t117,.int .i64 t118,.string t119,.string (⟨#[]⟩:ByteArray),.slice none 0 0]) ?_ 5 _ rfl;(with_reducible repeat (first | refine blk_drewN ?_ _ | refine blk_drew ?_ | refine blk_alloc ?_ _));refine blk_put (cs:= #[.int .i64 t115,.int .i64 t116,.int .i64 t117,.int .i64 t118,.string (⟨#[]⟩:ByteArray),.string (⟨#[]⟩:ByteArray),.slice none 0 0]) ?_ 4 _ rfl;(with_reducible repeat (first | refine blk_drewN ?_ _ | refine blk_drew ?_ | refine blk_alloc ?_ _));refine blk_put (cs:= #[.int .i64 t115,.int .i64 t116,.int .i64 t117,.int .i64 0,.string (⟨#[]⟩:ByteArray),.string (⟨#[]⟩:ByteArray),.slice none 0 0]) ?_ 3 _ rfl;(with_reducible repeat (first | refine blk_drewN ?_ _ | refine blk_drew ?_ | refine blk_alloc ?_ _));refine blk_put (cs:= #[.int .i64 t115,.int .i64 t116,.int .i64 0,.int .i64 0,.string (⟨#[]⟩:ByteArray),.string (⟨#[]⟩:ByteArray),.slice none 0 0]) ?_ 2 _ rfl;(with_reducible repeat (first | refine blk_drewN ?_ _ | refine blk_drew ?_ | refine blk_alloc ?_ _));refine blk_put (cs:= #[.int .i64 t115,.int .i64 0,.int .i64 0,.int .i64 0,.string (⟨#[]⟩:ByteArray),.string (⟨#[]⟩:ByteArray),.slice none 0 0]) ?_ 1 _ rfl;(with_reducible repeat (first | refine blk_drewN ?_ _ | refine blk_drew ?_ | refine blk_alloc ?_ _));refine blk_put (cs:= #[.int .i64 0,.int .i64 0,.int .i64 0,.int .i64 0,.string (⟨#[]⟩:ByteArray),.string (⟨#[]⟩:ByteArray),.slice none 0 0]) ?_ 0 _ rfl;(with_reducible repeat (first | refine blk_drewN ?_ _ | refine blk_drew ?_ | refine blk_alloc ?_ _));exact BK125.out) hb);replace HB:=Hb_ hb;(try clear hb);(try clear ho0)) | ((try (refine gate_guard (by rfl) ?_;dsimp only));refine X_ 16 #[.int .i64 0,.int .i64 0,.int .i64 0,.int .i64 0,.string (⟨#[]⟩:ByteArray),.string (⟨#[]⟩:ByteArray),.slice none 0 0] 49 ?_;intro gb136 hg w45 hbox hb;replace HO123:=Z_ (Kd.R_below (R_ HO123) hb);replace HO134:=Z_ (Kd.R_below (R_ HO134) hb);have BK136:=Z_ (hbox);have GW136:=Z_ (G2_ hg:w.heap.size≤_);have GE136:=GW136;replace HB:=Hb_ hb;have NB101_136:=Z_ ((by rw [hg];exact Nat.ne_of_lt (blk_lt (g:=gb101) (o:= .cells #[.int .i64 a0_0,.int .i64 a0_1] 23 (0,0)) (K_ BK101)):gb101≠gb136));have NB136_101:=Z_ ((by rw [hg];exact Nat.ne_of_gt (blk_lt (g:=gb101) (o:= .cells #[.int .i64 a0_0,.int .i64 a0_1] 23 (0,0)) (K_ BK101)):gb136≠gb101));replace BK101:=Z_ (blk_below (K_ BK101) hb);have NB125_136:=Z_ ((by rw [hg];exact Nat.ne_of_lt (blk_lt (g:=gb125) (o:= .cells #[.int .i64 t115,.int .i64 t116,.int .i64 t117,.int .i64 t118,.string t119,.string t120,.slice Ao43 t121.length co43] 49 (0,0)) (K_ BK125)):gb125≠gb136));have NB136_125:=Z_ ((by rw [hg];exact Nat.ne_of_gt (blk_lt (g:=gb125) (o:= .cells #[.int .i64 t115,.int .i64 t116,.int .i64 t117,.int .i64 t118,.string t119,.string t120,.slice Ao43 t121.length co43] 49 (0,0)) (K_ BK125)):gb136≠gb125));replace BK125:=Z_ (blk_below (K_ BK125) hb);clear hb hbox hg;have hnb46:=NB136_101.out;have hnc46:=NB101_136.out;have hnb47:=NB136_125.out;have hnc47:=NB125_136.out;have hcz48_0:=cz_ BK136 0;have hcz48_1:=cz_ BK136 1;have hcz48_2:=cz_ BK136 2;have hcz48_3:=cz_ BK136 3;have hcz48_4:=cz_ BK136 4;have hcz48_5:=cz_ BK136 5;have hcz48_6:=cz_ BK136 6;have hfz48_0:=fz_ BK136 0;have hfz48_1:=fz_ BK136 1;have hfz48_2:=fz_ BK136 2;have hfz48_3:=fz_ BK136 3;have hfz48_4:=fz_ BK136 4;have hfz48_5:=fz_ BK136 5;have hfz48_6:=fz_ BK136 6;obtain ⟨Ao49,co49,eo49⟩:=Kd.R_slice HO134.out;subst eo49));go_upto_region 12 with (first | (go_at_call 20;(with_reducible refine (stream_Get.calls t105 t115 t116 t117 t118 t119 t120 t121 t124 _ A36.out).mono ?_);rintro e w39 ⟨v122,rfl,ho0,hb⟩;have HO123:=Z_ (Kd.R_lower ho0 (below_size B_));replace BK101:=Z_ (blk_below (K_ BK101) hb);replace HB:=Hb_ hb;(try clear hb);(try clear ho0)) | ((try (refine gate_guard (by rfl) ?_;dsimp only));refine X_ 14 #[.int .i64 0,.int .i64 0,.int .i64 0,.int .i64 0,.string (⟨#[]⟩:ByteArray),.string (⟨#[]⟩:ByteArray),.slice none 0 0] 49 ?_;intro gb125 hg w40 hbox hb;replace HO123:=Z_ (Kd.R_below (R_ HO123) hb);have BK125:=Z_ (hbox);have GW125:=Z_ (G2_ hg:w.heap.size≤_);have GE125:=GW125;replace HB:=Hb_ hb;have NB101_125:=Z_ ((by rw [hg];exact Nat.ne_of_lt (blk_lt (g:=gb101) (o:= .cells #[.int .i64 a0_0,.int .i64 a0_1] 23 (0,0)) (K_ BK101)):gb101≠gb125));have NB125_101:=Z_ ((by rw [hg];exact Nat.ne_of_gt (blk_lt (g:=gb101) (o:= .cells #[.int .i64 a0_0,.int .i64 a0_1] 23 (0,0)) (K_ BK101)):gb125≠gb101));replace BK101:=Z_ (blk_below (K_ BK101) hb);clear hb hbox hg;have hnb41:=NB125_101.out;have hnc41:=NB101_125.out;have hcz42_0:=cz_ BK125 0;have hcz42_1:=cz_ BK125 1;have hcz42_2:=cz_ BK125 2;have hcz42_3:=cz_ BK125 3;have hcz42_4:=cz_ BK125 4;have hcz42_5:=cz_ BK125 5;have hcz42_6:=cz_ BK125 6;have hfz42_0:=fz_ BK125 0;have hfz42_1:=fz_ BK125 1;have hfz42_2:=fz_ BK125 2;have hfz42_3:=fz_ BK125 3;have hfz42_4:=fz_ BK125 4;have hfz42_5:=fz_ BK125 5;have hfz42_6:=fz_ BK125 6;obtain ⟨Ao43,co43,eo43⟩:=Kd.R_slice HO123.out;subst eo43) | (go_at_call 20;(with_reducible refine (stream_Get.calls t108 t126 t127 t128 t129 t130 t131 t132 t135 _ A37.out).mono ?_);rintro e w44 ⟨v133,rfl,ho0,hb⟩;have HO134:=Z_ (Kd.R_lower (Kd.R_new' ho0 (Kd.R_lt (by (with_reducible repeat (first | apply Kd.R_alloc | apply Kd.R_drewN | apply Kd.R_drew));exact (Kd.R_mono (Kd.R_far (p:=⟨gb125,6,none⟩) (Kd.R_far (p:=⟨gb125,5,none⟩) (Kd.R_far (p:=⟨gb125,4,none⟩) (Kd.R_far (p:=⟨gb125,3,none⟩) (Kd.R_far (p:=⟨gb125,2,none⟩) (Kd.R_far (p:=⟨gb125,1,none⟩) (Kd.R_far (p:=⟨gb125,0,none⟩) (Kd.R_types HO123.out BK125.out (by decide)) (fun _ hk=>hk.2) (.int .i64 t115)) (fun _ hk=>hk.2) (.int .i64 t116)) (fun _ hk=>hk.2) (.int .i64 t117)) (fun _ hk=>hk.2) (.int .i64 t118)) (fun _ hk=>hk.2) (.string t119)) (fun _ hk=>hk.2) (.string t120)) (fun _ hk=>hk.2) (.slice Ao43 t121.length co43)) (fun _ h_=>h_.1))))) (below_size B_));replace HO123:=Z_ (Kd.R_elder' (by (with_reducible repeat (first | apply Kd.R_alloc | apply Kd.R_drewN | apply Kd.R_drew));exact (Kd.R_mono (Kd.R_far (p:=⟨gb125,6,none⟩) (Kd.R_far (p:=⟨gb125,5,none⟩) (Kd.R_far (p:=⟨gb125,4,none⟩) (Kd.R_far (p:=⟨gb125,3,none⟩) (Kd.R_far (p:=⟨gb125,2,none⟩) (Kd.R_far (p:=⟨gb125,1,none⟩) (Kd.R_far (p:=⟨gb125,0,none⟩) (Kd.R_types HO123.out BK125.out (by decide)) (fun _ hk=>hk.2) (.int .i64 t115)) (fun _ hk=>hk.2) (.int .i64 t116)) (fun _ hk=>hk.2) (.int .i64 t117)) (fun _ hk=>hk.2) (.int .i64 t118)) (fun _ hk=>hk.2) (.string t119)) (fun _ hk=>hk.2) (.string t120)) (fun _ hk=>hk.2) (.slice Ao43 t121.length co43)) (fun _ h_=>h_.1))) (Kd.R_base ho0) hb);replace BK101:=Z_ (blk_below (g:=gb101) (o:= .cells #[.int .i64 a0_0,.int .i64 a0_1] 23 (0,0)) (by (with_reducible repeat (first | refine blk_drewN ?_ _ | refine blk_drew ?_ | refine blk_alloc ?_ _));refine blk_far ?_ NB101_125.out _;(with_reducible repeat (first | refine blk_drewN ?_ _ | refine blk_drew ?_ | refine blk_alloc ?_ _));refine blk_far ?_ NB101_125.out _;(with_reducible repeat (first | refine blk_drewN ?_ _ | refine blk_drew ?_ | refine blk_alloc ?_ _));refine blk_far ?_ NB101_125.out _;(with_reducible repeat (first | refine blk_drewN ?_ _ | refine blk_drew ?_ | refine blk_alloc ?_ _));refine blk_far ?_ NB101_125.out _;(with_reducible repeat (first | refine blk_drewN ?_ _ | refine blk_drew ?_ | refine blk_alloc ?_ _));refine blk_far ?_ NB101_125.out _;(with_reducible repeat (first | refine blk_drewN ?_ _ | refine blk_drew ?_ | refine blk_alloc ?_ _));refine blk_far ?_ NB101_125.out _;(with_reducible repeat (first | refine blk_drewN ?_ _ | refine blk_drew ?_ | refine blk_alloc ?_ _));refine blk_far ?_ NB101_125.out _;(with_reducible repeat (first | refine blk_drewN ?_ _ | refine blk_drew ?_ | refine blk_alloc ?_ _));exact BK101.out) hb);replace BK125:=Z_ (blk_below (g:=gb125) (o:= .cells #[.int .i64 t115,.int .i64 t116,.int .i64 t117,.int .i64 t118,.string t119,.string t120,.slice Ao43 t121.length co43] 49 (0,0)) (by (with_reducible repeat (first | refine blk_drewN ?_ _ | refine blk_drew ?_ | refine blk_alloc ?_ _));refine blk_put (cs:= #[.int .i64 t115,.int .i64 t116,.int .i64 t117,.int .i64 t118,.string t119,.string t120,.slice none 0 0]) ?_ 6 _ rfl;(with_reducible repeat (first | refine blk_drewN ?_ _ | refine blk_drew ?_ | refine blk_alloc ?_ _));refine blk_put (cs:= #[.int .i64 t115,.int .i64 t116,.int .i64 t117,.int .i64 t118,.string t119,.string (⟨#[]⟩:ByteArray),.slice none 0 0]) ?_ 5 _ rfl;(with_reducible repeat (first | refine blk_drewN ?_ _ | refine blk_drew ?_ | refine blk_alloc ?_ _));refine blk_put (cs:= #[.int .i64 t115,.int .i64 t116,.int .i64 t117,.int .i64 t118,.string (⟨#[]⟩:ByteArray),.string (⟨#[]⟩:ByteArray),.slice none 0 0]) ?_ 4 _ rfl;(with_reducible repeat (first | refine blk_drewN ?_ _ | refine blk_drew ?_ | refine blk_alloc ?_ _));refine blk_put (cs:= #[.int .i64 t115,.int .i64 t116,.int .i64 t117,.int .i64 0,.string (⟨#[]⟩:ByteArray),.string (⟨#[]⟩:ByteArray),.slice none 0 0]) ?_ 3 _ rfl;(with_reducible repeat (first | refine blk_drewN ?_ _ | refine blk_drew ?_ | refine blk_alloc ?_ _));refine blk_put (cs:= #[.int .i64 t115,.int .i64 t116,.int .i64 0,.int .i64 0,.string (⟨#[]⟩:ByteArray),.string (⟨#[]⟩:ByteArray),.slice none 0 0]) ?_ 2 _ rfl;(with_reducible repeat (first | refine blk_drewN ?_ _ | refine blk_drew ?_ | refine blk_alloc ?_ _));refine blk_put (cs:= #[.int .i64 t115,.int .i64 0,.int .i64 0,.int .i64 0,.string (⟨#[]⟩:ByteArray),.string (⟨#[]⟩:ByteArray),.slice none 0 0]) ?_ 1 _ rfl;(with_reducible repeat (first | refine blk_drewN ?_ _ | refine blk_drew ?_ | refine blk_alloc ?_ _));refine blk_put (cs:= #[.int .i64 0,.int .i64 0,.int .i64 0,.int .i64 0,.string (⟨#[]⟩:ByteArray),.string (⟨#[]⟩:ByteArray),.slice none 0 0]) ?_ 0 _ rfl;(with_reducible repeat (first | refine blk_drewN ?_ _ | refine blk_drew ?_ | refine blk_alloc ?_ _));exact BK125.out) hb);replace HB:=Hb_ hb;(try clear hb);(try clear ho0)) | ((try (refine gate_guard (by rfl) ?_;dsimp only));refine X_ 16 #[.int .i64 0,.int .i64 0,.int .i64 0,.int .i64 0,.string (⟨#[]⟩:ByteArray),.string (⟨#[]⟩:ByteArray),.slice none 0 0] 49 ?_;intro gb136 hg w45 hbox hb;replace HO123:=Z_ (Kd.R_below (R_ HO123) hb);replace HO134:=Z_ (Kd.R_below (R_ HO134) hb);have BK136:=Z_ (hbox);have GW136:=Z_ (G2_ hg:w.heap.size≤_);have GE136:=GW136;replace HB:=Hb_ hb;have NB101_136:=Z_ ((by rw [hg];exact Nat.ne_of_lt (blk_lt (g:=gb101) (o:= .cells #[.int .i64 a0_0,.int .i64 a0_1] 23 (0,0)) (K_ BK101)):gb101≠gb136));have NB136_101:=Z_ ((by rw [hg];exact Nat.ne_of_gt (blk_lt (g:=gb101) (o:= .cells #[.int .i64 a0_0,.int .i64 a0_1] 23 (0,0)) (K_ BK101)):gb136≠gb101));replace BK101:=Z_ (blk_below (K_ BK101) hb);have NB125_136:=Z_ ((by rw [hg];exact Nat.ne_of_lt (blk_lt (g:=gb125) (o:= .cells #[.int .i64 t115,.int .i64 t116,.int .i64 t117,.int .i64 t118,.string t119,.string t120,.slice Ao43 t121.length co43] 49 (0,0)) (K_ BK125)):gb125≠gb136));have NB136_125:=Z_ ((by rw [hg];exact Nat.ne_of_gt (blk_lt (g:=gb125) (o:= .cells #[.int .i64 t115,.int .i64 t116,.int .i64 t117,.int .i64 t118,.string t119,.string t120,.slice Ao43 t121.length co43] 49 (0,0)) (K_ BK125)):gb136≠gb125));replace BK125:=Z_ (blk_below (K_ BK125) hb);clear hb hbox hg;have hnb46:=NB136_101.out;have hnc46:=NB101_136.out;have hnb47:=NB136_125.out;have hnc47:=NB125_136.out;have hcz48_0:=cz_ BK136 0;have hcz48_1:=cz_ BK136 1;have hcz48_2:=cz_ BK136 2;have hcz48_3:=cz_ BK136 3;have hcz48_4:=cz_ BK136 4;have hcz48_5:=cz_ BK136 5;have hcz48_6:=cz_ BK136 6;have hfz48_0:=fz_ BK136 0;have hfz48_1:=fz_ BK136 1;have hfz48_2:=fz_ BK136 2;have hfz48_3:=fz_ BK136 3;have hfz48_4:=fz_ BK136 4;have hfz48_5:=fz_ BK136 5;have hfz48_6:=fz_ BK136 6;obtain ⟨Ao49,co49,eo49⟩:=Kd.R_slice HO134.out;subst eo49)))
       (try simp only [Act.put,List.setIfInBounds_toArray,List.set_cons_zero,List.set_cons_succ])
       go_cut [104] (fun v104 wc=>∃(kq:Nat) (x104_37:Bool),v104= .bool x104_37∧Aside0 (descanttop_TopFrames.j1 kq x104_37 t115 t116 t117 t118 t119 t120 t121 t126 t127 t128 t129 t130 t131 t132=some true)∧Aside0 (kq≤kj13)∧Aside0 (Kd.R Kd.string 9 wc w.heap.size (fun k_=>some k_≠((.slice Ao49 t132.length co49):Value).ownBlock) (.slice Ao43 t121.length co43) t121)∧Aside0 (Kd.R Kd.string 9 wc w.heap.size (fun k_=>some k_≠((.slice Ao43 t121.length co43):Value).ownBlock) (.slice Ao49 t132.length co49) t132)∧Aside0 (wc.heap[gb101]?=some (.cells #[.int .i64 a0_0,.int .i64 a0_1] 23 (0,0)))∧Aside0 (wc.heap[gb125]?=some (.cells #[.int .i64 t115,.int .i64 t116,.int .i64 t117,.int .i64 t118,.string t119,.string t120,(.slice Ao43 t121.length co43)] 49 (0,0)))∧Aside0 (wc.heap[gb136]?=some (.cells #[.int .i64 t126,.int .i64 t127,.int .i64 t128,.int .i64 t129,.string t130,.string t131,(.slice Ao49 t132.length co49)] 49 (0,0)))∧Aside0 (Below w.heap.size w wc))
       case first=>
        have H:=HC38.out
        clear HC38
        replace H:=Option.bind_eq_some_iff.mp H
        obtain ⟨t137,A500,H⟩:=H
        (try dsimp only at H)
        have A50:=Z_ A500
        clear A500
        by_cases c51:t137=0
        ·rw [if_pos c51] at H
         have c51b0:(t137==0)=true:=beq_iff_eq.mpr c51
         have c51b1:(t137 !=0)=false:=bne_eq_false_iff_eq.mpr c51
         clear c51
         (first | rw [c51b0] | (simp only [i64_w,i32_w];rw [c51b0]) | skip)
         replace H:=Option.bind_eq_some_iff.mp H
         obtain ⟨t138,A520,H⟩:=H
         (try dsimp only at H)
         have A52:=Z_ A520
         clear A520
         by_cases c53:t138=0
         ·rw [if_pos c53] at H
          have c53b0:(t138==0)=true:=beq_iff_eq.mpr c53
          have c53b1:(t138 !=0)=false:=bne_eq_false_iff_eq.mpr c53
          clear c53
          by_cases c54:(t121.length:Int)>(t132.length:Int)
          ·rw [if_pos c54] at H
           have c54b0:decide ((t132.length:Int)<(t121.length:Int))=true:=decide_eq_true c54
           have c54b1:decide (t132.length<t121.length)=true:=decide_eq_true (Int.ofNat_lt.mp c54)
           clear c54
           exact absurd H (by cases kj13<;>simp [descanttop_TopFrames.j1])
          ·rw [if_neg c54] at H
           have c54b0:decide ((t132.length:Int)<(t121.length:Int))=false:=decide_eq_false c54
           have c54b1:decide (t132.length<t121.length)=false:=decide_eq_false (fun h=>c54 (Int.ofNat_lt.mpr h))
           clear c54
           have H':=Z_ H
           clear H
           go_wp2_with (first | (go_at_call 12;(with_reducible refine (descantlaw0_Num.calls t124 t137 _ A50.out).mono ?_);rintro e w' ⟨rfl,⟨nd,rfl⟩⟩;(try exact Dr_)) | (go_at_call 12;(with_reducible refine (descantlaw0_Num.calls t135 t138 _ A52.out).mono ?_);rintro e w' ⟨rfl,⟨nd,rfl⟩⟩;(try exact Dr_);have hnb55:=NB125_101.out;have hnc55:=NB101_125.out;have hnb56:=NB125_136.out;have hnc56:=NB136_125.out;have hcz57_0:=cz_ BK125 0;have hcz57_1:=cz_ BK125 1;have hcz57_2:=cz_ BK125 2;have hcz57_3:=cz_ BK125 3;have hcz57_4:=cz_ BK125 4;have hcz57_5:=cz_ BK125 5;have hcz57_6:=cz_ BK125 6;have hfz57_0:=fz_ BK125 0;have hfz57_1:=fz_ BK125 1;have hfz57_2:=fz_ BK125 2;have hfz57_3:=fz_ BK125 3;have hfz57_4:=fz_ BK125 4;have hfz57_5:=fz_ BK125 5;have hfz57_6:=fz_ BK125 6;have hnb58:=NB136_101.out;have hnc58:=NB101_136.out;have hcz59_0:=cz_ BK136 0;have hcz59_1:=cz_ BK136 1;have hcz59_2:=cz_ BK136 2;have hcz59_3:=cz_ BK136 3;have hcz59_4:=cz_ BK136 4;have hcz59_5:=cz_ BK136 5;have hcz59_6:=cz_ BK136 6;have hfz59_0:=fz_ BK136 0;have hfz59_1:=fz_ BK136 1;have hfz59_2:=fz_ BK136 2;have hfz59_3:=fz_ BK136 3;have hfz59_4:=fz_ BK136 4;have hfz59_5:=fz_ BK136 5;have hfz59_6:=fz_ BK136 6))
           repeat (go_quiet (first | (go_at_call 12;(with_reducible refine (descantlaw0_Num.calls t124 t137 _ A50.out).mono ?_);rintro e w' ⟨rfl,⟨nd,rfl⟩⟩;(try exact Dr_)) | (go_at_call 12;(with_reducible refine (descantlaw0_Num.calls t135 t138 _ A52.out).mono ?_);rintro e w' ⟨rfl,⟨nd,rfl⟩⟩;(try exact Dr_);have hnb55:=NB125_101.out;have hnc55:=NB101_125.out;have hnb56:=NB125_136.out;have hnc56:=NB136_125.out;have hcz57_0:=cz_ BK125 0;have hcz57_1:=cz_ BK125 1;have hcz57_2:=cz_ BK125 2;have hcz57_3:=cz_ BK125 3;have hcz57_4:=cz_ BK125 4;have hcz57_5:=cz_ BK125 5;have hcz57_6:=cz_ BK125 6;have hfz57_0:=fz_ BK125 0;have hfz57_1:=fz_ BK125 1;have hfz57_2:=fz_ BK125 2;have hfz57_3:=fz_ BK125 3;have hfz57_4:=fz_ BK125 4;have hfz57_5:=fz_ BK125 5;have hfz57_6:=fz_ BK125 6;have hnb58:=NB136_101.out;have hnc58:=NB101_136.out;have hcz59_0:=cz_ BK136 0;have hcz59_1:=cz_ BK136 1;have hcz59_2:=cz_ BK136 2;have hcz59_3:=cz_ BK136 3;have hcz59_4:=cz_ BK136 4;have hcz59_5:=cz_ BK136 5;have hcz59_6:=cz_ BK136 6;have hfz59_0:=fz_ BK136 0;have hfz59_1:=fz_ BK136 1;have hfz59_2:=fz_ BK136 2;have hfz59_3:=fz_ BK136 3;have hfz59_4:=fz_ BK136 4;have hfz59_5:=fz_ BK136 5;have hfz59_6:=fz_ BK136 6));try go_wp2_with (first | (go_at_call 12;(with_reducible refine (descantlaw0_Num.calls t124 t137 _ A50.out).mono ?_);rintro e w' ⟨rfl,⟨nd,rfl⟩⟩;(try exact Dr_)) | (go_at_call 12;(with_reducible refine (descantlaw0_Num.calls t135 t138 _ A52.out).mono ?_);rintro e w' ⟨rfl,⟨nd,rfl⟩⟩;(try exact Dr_);have hnb55:=NB125_101.out;have hnc55:=NB101_125.out;have hnb56:=NB125_136.out;have hnc56:=NB136_125.out;have hcz57_0:=cz_ BK125 0;have hcz57_1:=cz_ BK125 1;have hcz57_2:=cz_ BK125 2;have hcz57_3:=cz_ BK125 3;have hcz57_4:=cz_ BK125 4;have hcz57_5:=cz_ BK125 5;have hcz57_6:=cz_ BK125 6;have hfz57_0:=fz_ BK125 0;have hfz57_1:=fz_ BK125 1;have hfz57_2:=fz_ BK125 2;have hfz57_3:=fz_ BK125 3;have hfz57_4:=fz_ BK125 4;have hfz57_5:=fz_ BK125 5;have hfz57_6:=fz_ BK125 6;have hnb58:=NB136_101.out;have hnc58:=NB101_136.out;have hcz59_0:=cz_ BK136 0;have hcz59_1:=cz_ BK136 1;have hcz59_2:=cz_ BK136 2;have hcz59_3:=cz_ BK136 3;have hcz59_4:=cz_ BK136 4;have hcz59_5:=cz_ BK136 5;have hcz59_6:=cz_ BK136 6;have hfz59_0:=fz_ BK136 0;have hfz59_1:=fz_ BK136 1;have hfz59_2:=fz_ BK136 2;have hfz59_3:=fz_ BK136 3;have hfz59_4:=fz_ BK136 4;have hfz59_5:=fz_ BK136 5;have hfz59_6:=fz_ BK136 6)))
           go_meet
           case rel=>exact ⟨_,(decide (t118>t129)),(E1_),H',⟨by have:=HJ13.out;first | omega | exact Nat.le_refl _⟩,⟨by (with_reducible repeat (first | apply Kd.R_alloc | apply Kd.R_drewN | apply Kd.R_drew));exact Kd.R_mono (Kd.R_far (p:=⟨gb136,6,none⟩) (Kd.R_far (p:=⟨gb136,5,none⟩) (Kd.R_far (p:=⟨gb136,4,none⟩) (Kd.R_far (p:=⟨gb136,3,none⟩) (Kd.R_far (p:=⟨gb136,2,none⟩) (Kd.R_far (p:=⟨gb136,1,none⟩) (Kd.R_far (p:=⟨gb136,0,none⟩) (Kd.R_types HO123.out BK136.out (by decide)) (fun _ hk=>hk.2) (.int .i64 t126)) (fun _ hk=>hk.2) (.int .i64 t127)) (fun _ hk=>hk.2) (.int .i64 t128)) (fun _ hk=>hk.2) (.int .i64 t129)) (fun _ hk=>hk.2) (.string t130)) (fun _ hk=>hk.2) (.string t131)) (fun _ hk=>hk.2) (.slice Ao49 t132.length co49)) (fun _ hk=>hk.1.2)⟩,⟨by (with_reducible repeat (first | apply Kd.R_alloc | apply Kd.R_drewN | apply Kd.R_drew));exact Kd.R_mono (Kd.R_far (p:=⟨gb136,6,none⟩) (Kd.R_far (p:=⟨gb136,5,none⟩) (Kd.R_far (p:=⟨gb136,4,none⟩) (Kd.R_far (p:=⟨gb136,3,none⟩) (Kd.R_far (p:=⟨gb136,2,none⟩) (Kd.R_far (p:=⟨gb136,1,none⟩) (Kd.R_far (p:=⟨gb136,0,none⟩) (Kd.R_types HO134.out BK136.out (by decide)) (fun _ hk=>hk.2) (.int .i64 t126)) (fun _ hk=>hk.2) (.int .i64 t127)) (fun _ hk=>hk.2) (.int .i64 t128)) (fun _ hk=>hk.2) (.int .i64 t129)) (fun _ hk=>hk.2) (.string t130)) (fun _ hk=>hk.2) (.string t131)) (fun _ hk=>hk.2) (.slice Ao49 t132.length co49)) (fun _ hk=>hk.1.2)⟩,⟨by (with_reducible repeat (first | refine blk_drewN ?_ _ | refine blk_drew ?_ | refine blk_alloc ?_ _));refine blk_far ?_ NB101_136.out _;(with_reducible repeat (first | refine blk_drewN ?_ _ | refine blk_drew ?_ | refine blk_alloc ?_ _));refine blk_far ?_ NB101_136.out _;(with_reducible repeat (first | refine blk_drewN ?_ _ | refine blk_drew ?_ | refine blk_alloc ?_ _));refine blk_far ?_ NB101_136.out _;(with_reducible repeat (first | refine blk_drewN ?_ _ | refine blk_drew ?_ | refine blk_alloc ?_ _));refine blk_far ?_ NB101_136.out _;(with_reducible repeat (first | refine blk_drewN ?_ _ | refine blk_drew ?_ | refine blk_alloc ?_ _));refine blk_far ?_ NB101_136.out _;(with_reducible repeat (first | refine blk_drewN ?_ _ | refine blk_drew ?_ | refine blk_alloc ?_ _));refine blk_far ?_ NB101_136.out _;(with_reducible repeat (first | refine blk_drewN ?_ _ | refine blk_drew ?_ | refine blk_alloc ?_ _));refine blk_far ?_ NB101_136.out _;(with_reducible repeat (first | refine blk_drewN ?_ _ | refine blk_drew ?_ | refine blk_alloc ?_ _));exact BK101.out⟩,⟨by (with_reducible repeat (first | refine blk_drewN ?_ _ | refine blk_drew ?_ | refine blk_alloc ?_ _));refine blk_far ?_ NB125_136.out _;(with_reducible repeat (first | refine blk_drewN ?_ _ | refine blk_drew ?_ | refine blk_alloc ?_ _));refine blk_far ?_ NB125_136.out _;(with_reducible repeat (first | refine blk_drewN ?_ _ | refine blk_drew ?_ | refine blk_alloc ?_ _));refine blk_far ?_ NB125_136.out _;(with_reducible repeat (first | refine blk_drewN ?_ _ | refine blk_drew ?_ | refine blk_alloc ?_ _));refine blk_far ?_ NB125_136.out _;(with_reducible repeat (first | refine blk_drewN ?_ _ | refine blk_drew ?_ | refine blk_alloc ?_ _));refine blk_far ?_ NB125_136.out _;(with_reducible repeat (first | refine blk_drewN ?_ _ | refine blk_drew ?_ | refine blk_alloc ?_ _));refine blk_far ?_ NB125_136.out _;(with_reducible repeat (first | refine blk_drewN ?_ _ | refine blk_drew ?_ | refine blk_alloc ?_ _));refine blk_far ?_ NB125_136.out _;(with_reducible repeat (first | refine blk_drewN ?_ _ | refine blk_drew ?_ | refine blk_alloc ?_ _));exact BK125.out⟩,⟨by (with_reducible repeat (first | refine blk_drewN ?_ _ | refine blk_drew ?_ | refine blk_alloc ?_ _));refine blk_put (cs:= #[.int .i64 t126,.int .i64 t127,.int .i64 t128,.int .i64 t129,.string t130,.string t131,.slice none 0 0]) ?_ 6 _ rfl;(with_reducible repeat (first | refine blk_drewN ?_ _ | refine blk_drew ?_ | refine blk_alloc ?_ _));refine blk_put (cs:= #[.int .i64 t126,.int .i64 t127,.int .i64 t128,.int .i64 t129,.string t130,.string (⟨#[]⟩:ByteArray),.slice none 0 0]) ?_ 5 _ rfl;(with_reducible repeat (first | refine blk_drewN ?_ _ | refine blk_drew ?_ | refine blk_alloc ?_ _));refine blk_put (cs:= #[.int .i64 t126,.int .i64 t127,.int .i64 t128,.int .i64 t129,.string (⟨#[]⟩:ByteArray),.string (⟨#[]⟩:ByteArray),.slice none 0 0]) ?_ 4 _ rfl;(with_reducible repeat (first | refine blk_drewN ?_ _ | refine blk_drew ?_ | refine blk_alloc ?_ _));refine blk_put (cs:= #[.int .i64 t126,.int .i64 t127,.int .i64 t128,.int .i64 0,.string (⟨#[]⟩:ByteArray),.string (⟨#[]⟩:ByteArray),.slice none 0 0]) ?_ 3 _ rfl;(with_reducible repeat (first | refine blk_drewN ?_ _ | refine blk_drew ?_ | refine blk_alloc ?_ _));refine blk_put (cs:= #[.int .i64 t126,.int .i64 t127,.int .i64 0,.int .i64 0,.string (⟨#[]⟩:ByteArray),.string (⟨#[]⟩:ByteArray),.slice none 0 0]) ?_ 2 _ rfl;(with_reducible repeat (first | refine blk_drewN ?_ _ | refine blk_drew ?_ | refine blk_alloc ?_ _));refine blk_put (cs:= #[.int .i64 t126,.int .i64 0,.int .i64 0,.int .i64 0,.string (⟨#[]⟩:ByteArray),.string (⟨#[]⟩:ByteArray),.slice none 0 0]) ?_ 1 _ rfl;(with_reducible repeat (first | refine blk_drewN ?_ _ | refine blk_drew ?_ | refine blk_alloc ?_ _));refine blk_put (cs:= #[.int .i64 0,.int .i64 0,.int .i64 0,.int .i64 0,.string (⟨#[]⟩:ByteArray),.string (⟨#[]⟩:ByteArray),.slice none 0 0]) ?_ 0 _ rfl;(with_reducible repeat (first | refine blk_drewN ?_ _ | refine blk_drew ?_ | refine blk_alloc ?_ _));exact BK136.out⟩,⟨B_⟩⟩
         ·rw [if_neg c53] at H
          have c53b0:(t138==0)=false:=beq_eq_false_iff_ne.mpr c53
          have c53b1:(t138 !=0)=true:=bne_iff_ne.mpr c53
          exact absurd H (by cases kj13<;>simp [descanttop_TopFrames.j1])
        ·rw [if_neg c51] at H
         have c51b0:(t137==0)=false:=beq_eq_false_iff_ne.mpr c51
         have c51b1:(t137 !=0)=true:=bne_iff_ne.mpr c51
         (first | rw [c51b0] | (simp only [i64_w,i32_w];rw [c51b0]) | skip)
         exact absurd H (by cases kj13<;>simp [descanttop_TopFrames.j1])
       case rest=>
        clear HC38
        try clear c1
        try clear c2
        try clear p2
        try clear c3
        try clear c4
        try clear c5
        try clear c6
        try clear p6
        try clear c7
        try clear c8
        try clear c11
        try clear c11b0
        try clear c11b1
        try clear c11b2
        try clear c26
        try clear c26b0
        try clear c26b1
        try clear c28
        try clear c30
        try clear c30b0
        try clear c30b1
        try clear c32
        try clear c32b0
        try clear c32b1
        try clear c33
        try clear c33b0
        try clear c33b1
        try clear c35
        try clear c35b0
        try clear c35b1
        try clear c41
        try clear c46
        try clear c47
        try clear c51
        try clear c51b0
        try clear c51b1
        try clear c53
        try clear c53b0
        try clear c53b1
        try clear c54
        try clear c54b0
        try clear c54b1
        try clear c55
        try clear c56
        try clear c58
        try clear hcz17_0
        try clear hcz17_1
        try clear hcz19_0
        try clear hcz19_1
        try clear hcz22_0
        try clear hcz22_1
        try clear hcz42_0
        try clear hcz42_1
        try clear hcz42_2
        try clear hcz42_3
        try clear hcz42_4
        try clear hcz42_5
        try clear hcz42_6
        try clear hcz48_0
        try clear hcz48_1
        try clear hcz48_2
        try clear hcz48_3
        try clear hcz48_4
        try clear hcz48_5
        try clear hcz48_6
        try clear hcz57_0
        try clear hcz57_1
        try clear hcz57_2
        try clear hcz57_3
        try clear hcz57_4
        try clear hcz57_5
        try clear hcz57_6
        try clear hcz59_0
        try clear hcz59_1
        try clear hcz59_2
        try clear hcz59_3
        try clear hcz59_4
        try clear hcz59_5
        try clear hcz59_6
        try clear hfz17_0
        try clear hfz17_1
        try clear hfz19_0
        try clear hfz19_1
        try clear hfz22_0
        try clear hfz22_1
        try clear hfz42_0
        try clear hfz42_1
        try clear hfz42_2
        try clear hfz42_3
        try clear hfz42_4
        try clear hfz42_5
        try clear hfz42_6
        try clear hfz48_0
        try clear hfz48_1
        try clear hfz48_2
        try clear hfz48_3
        try clear hfz48_4
        try clear hfz48_5
        try clear hfz48_6
        try clear hfz57_0
        try clear hfz57_1
        try clear hfz57_2
        try clear hfz57_3
        try clear hfz57_4
        try clear hfz57_5
        try clear hfz57_6
        try clear hfz59_0
        try clear hfz59_1
        try clear hfz59_2
        try clear hfz59_3
        try clear hfz59_4
        try clear hfz59_5
        try clear hfz59_6
        try clear p2
        try clear p6
        obtain ⟨kq,x104_37,rfl,HA,HJ37,HO_126006,HO_137006,BK101,BK125,BK136,HB⟩:=hcut
        cases kq with
        | zero=>exact absurd HA.out (by simp [descanttop_TopFrames.j1])
        | succ kj37=>
         have H:=HA.out
         clear HA
         simp only [descanttop_TopFrames.j1] at H
         by_cases c60:x104_37=true
         ·subst c60
          rw [if_pos rfl] at H
          exact absurd H (by simp)
         ·replace c60:=Bool.eq_false_iff.mpr c60
          subst c60
          rw [if_neg (show ¬(false=true) by decide)] at H
          have H':=Z_ H
          clear H
          go_wp2
          repeat (go_quiet (fail);try go_wp2)
          go_loopg [18] kj37 (fun kq v18 w'=>∃(x18_3:Int),v18= .int .i64 x18_3∧Aside0 (descanttop_TopFrames.l0 kq x18_3 t115 t116 t117 t118 t119 t120 t121 t126 t127 t128 t129 t130 t131 t132=some true)∧Aside0 (kq≤kj37)∧Aside0 (Kd.R Kd.string 9 w' w.heap.size (fun k_=>some k_≠((.slice Ao49 t132.length co49):Value).ownBlock) (.slice Ao43 t121.length co43) t121)∧Aside0 (Kd.R Kd.string 9 w' w.heap.size (fun k_=>some k_≠((.slice Ao43 t121.length co43):Value).ownBlock) (.slice Ao49 t132.length co49) t132)∧Aside0 (w'.heap[gb101]?=some (.cells #[.int .i64 a0_0,.int .i64 a0_1] 23 (0,0)))∧Aside0 (w'.heap[gb125]?=some (.cells #[.int .i64 t115,.int .i64 t116,.int .i64 t117,.int .i64 t118,.string t119,.string t120,(.slice Ao43 t121.length co43)] 49 (0,0)))∧Aside0 (w'.heap[gb136]?=some (.cells #[.int .i64 t126,.int .i64 t127,.int .i64 t128,.int .i64 t129,.string t130,.string t131,(.slice Ao49 t132.length co49)] 49 (0,0)))∧Aside0 (Below w.heap.size w w'))
          case atStart=>exact ⟨(0),(E1_),H',⟨Nat.le_refl _⟩,⟨R_ HO_126006⟩,⟨R_ HO_137006⟩,⟨by (with_reducible repeat (first | refine blk_drewN ?_ _ | refine blk_drew ?_ | refine blk_alloc ?_ _));exact BK101.out⟩,⟨by (with_reducible repeat (first | refine blk_drewN ?_ _ | refine blk_drew ?_ | refine blk_alloc ?_ _));exact BK125.out⟩,⟨by (with_reducible repeat (first | refine blk_drewN ?_ _ | refine blk_drew ?_ | refine blk_alloc ?_ _));exact BK136.out⟩,⟨B_⟩⟩
          case round=>
           clear H'
           try clear c1
           try clear c2
           try clear p2
           try clear c3
           try clear c4
           try clear c5
           try clear c6
           try clear p6
           try clear c7
           try clear c8
           try clear c11
           try clear c11b0
           try clear c11b1
           try clear c11b2
           try clear c26
           try clear c26b0
           try clear c26b1
           try clear c28
           try clear c30
           try clear c30b0
           try clear c30b1
           try clear c32
           try clear c32b0
           try clear c32b1
           try clear c33
           try clear c33b0
           try clear c33b1
           try clear c35
           try clear c35b0
           try clear c35b1
           try clear c41
           try clear c46
           try clear c47
           try clear c51
           try clear c51b0
           try clear c51b1
           try clear c53
           try clear c53b0
           try clear c53b1
           try clear c54
           try clear c54b0
           try clear c54b1
           try clear c55
           try clear c56
           try clear c58
           try clear c60
           try clear hcz17_0
           try clear hcz17_1
           try clear hcz19_0
           try clear hcz19_1
           try clear hcz22_0
           try clear hcz22_1
           try clear hcz42_0
           try clear hcz42_1
           try clear hcz42_2
           try clear hcz42_3
           try clear hcz42_4
           try clear hcz42_5
           try clear hcz42_6
           try clear hcz48_0
           try clear hcz48_1
           try clear hcz48_2
           try clear hcz48_3
           try clear hcz48_4
           try clear hcz48_5
           try clear hcz48_6
           try clear hcz57_0
           try clear hcz57_1
           try clear hcz57_2
           try clear hcz57_3
           try clear hcz57_4
           try clear hcz57_5
           try clear hcz57_6
           try clear hcz59_0
           try clear hcz59_1
           try clear hcz59_2
           try clear hcz59_3
           try clear hcz59_4
           try clear hcz59_5
           try clear hcz59_6
           try clear hfz17_0
           try clear hfz17_1
           try clear hfz19_0
           try clear hfz19_1
           try clear hfz22_0
           try clear hfz22_1
           try clear hfz42_0
           try clear hfz42_1
           try clear hfz42_2
           try clear hfz42_3
           try clear hfz42_4
           try clear hfz42_5
           try clear hfz42_6
           try clear hfz48_0
           try clear hfz48_1
           try clear hfz48_2
           try clear hfz48_3
           try clear hfz48_4
           try clear hfz48_5
           try clear hfz48_6
           try clear hfz57_0
           try clear hfz57_1
           try clear hfz57_2
           try clear hfz57_3
           try clear hfz57_4
           try clear hfz57_5
           try clear hfz57_6
           try clear hfz59_0
           try clear hfz59_1
           try clear hfz59_2
           try clear hfz59_3
           try clear hfz59_4
           try clear hfz59_5
           try clear hfz59_6
           try clear p2
           try clear p6
           obtain ⟨x18_3,rfl,HA,HK3,HO_126006,HO_137006,BK101,BK125,BK136,HB⟩:=hrel
           cases gk with
           | zero=>exact absurd HA.out (by simp [descanttop_TopFrames.l0])
           | succ k3=>
            have H:=HA.out
            clear HA
            simp only [descanttop_TopFrames.l0] at H
            by_cases c61:(wrap64 (x18_3+1))<(t121.length:Int)
            ·rw [if_pos c61] at H
             have c61b0:=decide_eq_true c61
             clear c61
             by_cases c62:0≤x18_3
             ·rw [if_pos c62] at H
              have c62b0:=decide_eq_true c62
              clear c62
              by_cases c63:x18_3<(t121.length:Int)
              ·rw [if_pos c63] at H
               have c63b0:=decide_eq_true c63
               clear c63
               by_cases c64:x18_3<(t132.length:Int)
               ·rw [if_pos c64] at H
                have c64b0:=decide_eq_true c64
                clear c64
                by_cases c65:(rdOf ByteArray.empty t121 x18_3).toList=(rdOf ByteArray.empty t132 x18_3).toList
                ·rw [if_pos c65] at H
                 have c65b0:((rdOf ByteArray.empty t121 x18_3).toList==(rdOf ByteArray.empty t132 x18_3).toList)=true:=beq_iff_eq.mpr c65
                 have c65b1:((rdOf ByteArray.empty t121 x18_3).toList !=(rdOf ByteArray.empty t132 x18_3).toList)=false:=bne_eq_false_iff_eq.mpr c65
                 clear c65
                 have H':=Z_ H
                 clear H
                 have hnb66:=NB125_101.out
                 have hnc66:=NB101_125.out
                 have hnb67:=NB125_136.out
                 have hnc67:=NB136_125.out
                 have hcz68_0:=cz_ BK125 0
                 have hcz68_1:=cz_ BK125 1
                 have hcz68_2:=cz_ BK125 2
                 have hcz68_3:=cz_ BK125 3
                 have hcz68_4:=cz_ BK125 4
                 have hcz68_5:=cz_ BK125 5
                 have hcz68_6:=cz_ BK125 6
                 have hfz68_0:=fz_ BK125 0
                 have hfz68_1:=fz_ BK125 1
                 have hfz68_2:=fz_ BK125 2
                 have hfz68_3:=fz_ BK125 3
                 have hfz68_4:=fz_ BK125 4
                 have hfz68_5:=fz_ BK125 5
                 have hfz68_6:=fz_ BK125 6
                 have p139:0≤(x18_3:Int):=of_decide_eq_true A_
                 have q139:x18_3<(t121.length:Int):=of_decide_eq_true A_
                 obtain ⟨ad139,e139,hx139_0⟩:=Kd.at_string (Kd.R_reads' HO_126006.out).2.2 x18_3 p139 q139
                 cases e139
                 replace p139:=eq_true p139
                 replace q139:=eq_true q139
                 have hnb69:=NB136_101.out
                 have hnc69:=NB101_136.out
                 have hcz70_0:=cz_ BK136 0
                 have hcz70_1:=cz_ BK136 1
                 have hcz70_2:=cz_ BK136 2
                 have hcz70_3:=cz_ BK136 3
                 have hcz70_4:=cz_ BK136 4
                 have hcz70_5:=cz_ BK136 5
                 have hcz70_6:=cz_ BK136 6
                 have hfz70_0:=fz_ BK136 0
                 have hfz70_1:=fz_ BK136 1
                 have hfz70_2:=fz_ BK136 2
                 have hfz70_3:=fz_ BK136 3
                 have hfz70_4:=fz_ BK136 4
                 have hfz70_5:=fz_ BK136 5
                 have hfz70_6:=fz_ BK136 6
                 have p140:0≤(x18_3:Int):=of_decide_eq_true A_
                 have q140:x18_3<(t132.length:Int):=of_decide_eq_true A_
                 obtain ⟨ad140,e140,hx140_0⟩:=Kd.at_string (Kd.R_reads' HO_137006.out).2.2 x18_3 p140 q140
                 cases e140
                 replace p140:=eq_true p140
                 replace q140:=eq_true q140
                 go_wp2
                 repeat (go_quiet (fail);try go_wp2)
                 go_roundg k3
                 case measure=>have:=HJ13.out;have:=HJ37.out;have:=HK3.out;omega
                 case rel=>exact ⟨(wrap64 (x18_3+1)),(E1_),H',⟨by have:=HJ13.out;have:=HJ37.out;have:=HK3.out;omega⟩,⟨R_ HO_126006⟩,⟨R_ HO_137006⟩,⟨by (with_reducible repeat (first | refine blk_drewN ?_ _ | refine blk_drew ?_ | refine blk_alloc ?_ _));exact BK101.out⟩,⟨by (with_reducible repeat (first | refine blk_drewN ?_ _ | refine blk_drew ?_ | refine blk_alloc ?_ _));exact BK125.out⟩,⟨by (with_reducible repeat (first | refine blk_drewN ?_ _ | refine blk_drew ?_ | refine blk_alloc ?_ _));exact BK136.out⟩,⟨B_⟩⟩
                ·rw [if_neg c65] at H
                 have c65b0:((rdOf ByteArray.empty t121 x18_3).toList==(rdOf ByteArray.empty t132 x18_3).toList)=false:=beq_eq_false_iff_ne.mpr c65
                 have c65b1:((rdOf ByteArray.empty t121 x18_3).toList !=(rdOf ByteArray.empty t132 x18_3).toList)=true:=bne_iff_ne.mpr c65
                 exact absurd H (by simp)
               ·rw [if_neg c64] at H
                exact absurd H (by simp)
              ·rw [if_neg c63] at H
               exact absurd H (by simp)
             ·rw [if_neg c62] at H
              exact absurd H (by simp)
            ·rw [if_neg c61] at H
             have c61b0:=decide_eq_false c61
             clear c61
             clear H
             have hnb71:=NB125_101.out
             have hnc71:=NB101_125.out
             have hnb72:=NB125_136.out
             have hnc72:=NB136_125.out
             have hcz73_0:=cz_ BK125 0
             have hcz73_1:=cz_ BK125 1
             have hcz73_2:=cz_ BK125 2
             have hcz73_3:=cz_ BK125 3
             have hcz73_4:=cz_ BK125 4
             have hcz73_5:=cz_ BK125 5
             have hcz73_6:=cz_ BK125 6
             have hfz73_0:=fz_ BK125 0
             have hfz73_1:=fz_ BK125 1
             have hfz73_2:=fz_ BK125 2
             have hfz73_3:=fz_ BK125 3
             have hfz73_4:=fz_ BK125 4
             have hfz73_5:=fz_ BK125 5
             have hfz73_6:=fz_ BK125 6
             go_wp2
             repeat (go_quiet (fail);try go_wp2)
             go_ret
             exact ⟨E_,B_⟩
   ·rw [if_neg c11] at H
    exact absurd H (by simp)
  ·replace c8:=Bool.eq_false_iff.mpr c8
   subst c8
   have H1:(some true)=some true:=rfl
   clear H
   have H:=H1
   clear H1
   clear H
   go_enter Tryz.func7,Tryz.ntmps7
   go_wp2_with (first | ((try (refine gate_guard (by rfl) ?_;dsimp only));refine X_ 4 #[.int .i64 a0_0,.int .i64 a0_1] 23 ?_;intro gb101 hg w74 hbox hb;have BK101:=Z_ (hbox);have GW101:=Z_ (G2_ hg:w.heap.size≤_);have GE101:=GW101;replace HB:=Hb_ hb;clear hb hbox hg) | (go_at_call 8;(with_reducible refine (descanttop_awake.calls  true _ A5.out).mono ?_);rintro e w75 ⟨rfl,hb⟩;replace BK101:=Z_ (blk_below (K_ BK101) hb);replace HB:=Hb_ hb;(try clear hb);have hcz76_0:=cz_ BK101 0;have hcz76_1:=cz_ BK101 1;have hfz76_0:=fz_ BK101 0;have hfz76_1:=fz_ BK101 1) | (go_at_call 9;(with_reducible refine (descantref13_FormatMay.calls a0_0 a0_1 false _ A7.out).mono ?_);rintro e w77 ⟨rfl,hb⟩;replace BK101:=Z_ (blk_below (K_ BK101) hb);replace HB:=Hb_ hb;(try clear hb)))
   repeat (go_quiet (first | ((try (refine gate_guard (by rfl) ?_;dsimp only));refine X_ 4 #[.int .i64 a0_0,.int .i64 a0_1] 23 ?_;intro gb101 hg w74 hbox hb;have BK101:=Z_ (hbox);have GW101:=Z_ (G2_ hg:w.heap.size≤_);have GE101:=GW101;replace HB:=Hb_ hb;clear hb hbox hg) | (go_at_call 8;(with_reducible refine (descanttop_awake.calls  true _ A5.out).mono ?_);rintro e w75 ⟨rfl,hb⟩;replace BK101:=Z_ (blk_below (K_ BK101) hb);replace HB:=Hb_ hb;(try clear hb);have hcz76_0:=cz_ BK101 0;have hcz76_1:=cz_ BK101 1;have hfz76_0:=fz_ BK101 0;have hfz76_1:=fz_ BK101 1) | (go_at_call 9;(with_reducible refine (descantref13_FormatMay.calls a0_0 a0_1 false _ A7.out).mono ?_);rintro e w77 ⟨rfl,hb⟩;replace BK101:=Z_ (blk_below (K_ BK101) hb);replace HB:=Hb_ hb;(try clear hb)));try go_wp2_with (first | ((try (refine gate_guard (by rfl) ?_;dsimp only));refine X_ 4 #[.int .i64 a0_0,.int .i64 a0_1] 23 ?_;intro gb101 hg w74 hbox hb;have BK101:=Z_ (hbox);have GW101:=Z_ (G2_ hg:w.heap.size≤_);have GE101:=GW101;replace HB:=Hb_ hb;clear hb hbox hg) | (go_at_call 8;(with_reducible refine (descanttop_awake.calls  true _ A5.out).mono ?_);rintro e w75 ⟨rfl,hb⟩;replace BK101:=Z_ (blk_below (K_ BK101) hb);replace HB:=Hb_ hb;(try clear hb);have hcz76_0:=cz_ BK101 0;have hcz76_1:=cz_ BK101 1;have hfz76_0:=fz_ BK101 0;have hfz76_1:=fz_ BK101 1) | (go_at_call 9;(with_reducible refine (descantref13_FormatMay.calls a0_0 a0_1 false _ A7.out).mono ?_);rintro e w77 ⟨rfl,hb⟩;replace BK101:=Z_ (blk_below (K_ BK101) hb);replace HB:=Hb_ hb;(try clear hb))))
   go_ret
   exact ⟨E_,B_⟩
 ·replace c6:=Bool.eq_false_iff.mpr c6
  subst c6
  rw [if_neg (show ¬(false=true) by decide)] at H
  exact absurd H (by simp)
end Go.Proofs.YtfghldonnffldaaGreatDoor.RTopFrames
namespace Go.Proofs.YtfghldonnffldaaGreatDoor
open Go.RowKit YtfghldonnffldaaGreatDoorW.PrintWords YtfghldonnffldaaGreatDoorW.PrintLast YtfghldonnffldaaGreatDoorW.PrintMore TBase
open UOne VTwo YFou ZFiv QSix ESev RTopFrames
def gW (ch bi:Nat) (d:ByteArray):ByteArray:=wavB ch bi d
def gHd (ch bi:Nat) (d:ByteArray):ByteArray:=(gW ch bi d).extract 0 44
def gTl (ch bi:Nat) (d:ByteArray):ByteArray:=(gW ch bi d).extract (44+d.size) (gW ch bi d).size
noncomputable def gL (ch bi ks m:Nat) (d:ByteArray):List ByteArray:=segsG ch bi ks m d (nseg m ks)
noncomputable def gE (ch bi ks m:Nat) (d:ByteArray):ByteArray:=sput ch bi ks m (gHd ch bi d) (gTl ch bi d) (gL ch bi ks m d)
theorem gW_at (ch bi:Nat) (d:ByteArray):∃p,WavAt (gW ch bi d) ch bi (gW ch bi d).size p d:=by
 have h:=wavB_at ch bi d
 rw [←wavB_size] at h
 exact ⟨_,h⟩
theorem gHd_size (ch bi:Nat) (d:ByteArray):(gHd ch bi d).size=44:=by
 have h:(gW ch bi d).size=_:=wavB_size ch bi d
 unfold gHd
 rw [ByteArray.size_extract]
 omega
theorem gTl_size (ch bi:Nat) (d:ByteArray):(gTl ch bi d).size≤13:=by
 have h:(gW ch bi d).size=_:=wavB_size ch bi d
 unfold gTl
 rw [ByteArray.size_extract]
 omega
theorem gL_len (ch bi ks m:Nat) (d:ByteArray):(gL ch bi ks m d).length=nseg m ks:=segsG_len _ _ _ _ _ _
theorem gL_sz (ch bi ks m:Nat) (d:ByteArray) (hc:ch=1∨ch=2) (hb:bi=8∨bi=16) (hk:1≤ks) (hks:ks≤64) (hd:d.size=m*fsz ch bi):∀x∈gL ch bi ks m d,9≤x.size∧x.size≤9+ks*fsz ch bi:=by
 intro x hx
 unfold gL segsG at hx
 obtain ⟨i,hi,rfl⟩:=List.mem_map.1 hx
 exact (seg_at 7000 ch bi ks m i d (Nat.le_refl _) hc hb hks hk hd ((nseg_lt m ks i hk).1 (List.mem_range.1 hi))).2
theorem szb_lem (x a:Nat) (h1:9≤x) (h2:x≤9+a) (h3:a≤64*4):9≤x∧x≤65535:=by omega
theorem gL_szb (ch bi ks m:Nat) (d:ByteArray) (hc:ch=1∨ch=2) (hb:bi=8∨bi=16) (hk:1≤ks) (hks:ks≤64) (hd:d.size=m*fsz ch bi):∀x∈gL ch bi ks m d,szB x=true:=by
 intro x hx
 have h:=gL_sz ch bi ks m d hc hb hk hks hd x hx
 exact decide_eq_true (szb_lem _ _ h.1 h.2 (Nat.mul_le_mul hks (fsz_pos ch bi hc hb).2))
theorem g_head (ch bi ks m:Nat) (d:ByteArray) (hc:ch=1∨ch=2) (hb:bi=8∨bi=16) (hk:1≤ks) (hks:ks≤64) (hm:m≤4096):headOk (ch:Int) (bi:Int) (ks:Int) (m:Int) (gHd ch bi d) (gTl ch bi d):=by
 have h1:=gHd_size ch bi d
 have h2:=gTl_size ch bi d
 exact ⟨by omega,by omega,by omega,by omega,by omega,by omega,by omega,by omega⟩
theorem size_lem (a b c x y q z t nf:Nat) (h1:x=44) (h2:y≤13) (a1:a≤2) (a2:b≤2) (a3:c≤2) (hq:q≤4096) (ht:t≤9*q+nf) (hnf:nf≤4096+256):7+a+b+c+x+y+2*q+4+t≤65536:=by omega
theorem gE_size (ch bi ks m:Nat) (d:ByteArray) (hc:ch=1∨ch=2) (hb:bi=8∨bi=16) (hk:1≤ks) (hks:ks≤64) (hd:d.size=m*fsz ch bi) (hd4:d.size≤4096):(gE ch bi ks m d).size≤65536:=by
 have hf:=fsz_pos ch bi hc hb
 have h1:=gHd_size ch bi d
 have h2:=gTl_size ch bi d
 have a1:=vb_len m
 have a2:=vb_len (gHd ch bi d).size
 have a3:=vb_len (gTl ch bi d).size
 rw [strOfNums_size] at a1 a2 a3
 have hn:=nseg_le m ks hk
 have hm4:m≤4096:=Nat.le_trans (Nat.le_mul_of_pos_right m hf.1) (hd▸hd4)
 have ht:=tot_unif (gL ch bi ks m d) (9+ks*fsz ch bi) (fun s hs=>(gL_sz ch bi ks m d hc hb hk hks hd s hs).2)
 rw [gL_len] at ht
 have hup:=nseg_up m ks hk
 have hnf:nseg m ks*(ks*fsz ch bi)≤4096+256:=by
  rw [←Nat.mul_assoc]
  have e1:nseg m ks*ks*fsz ch bi≤(m+ks)*fsz ch bi:=Nat.mul_le_mul_right _ (Nat.le_of_lt hup)
  rw [Nat.add_mul] at e1
  have e2:ks*fsz ch bi≤64*4:=Nat.mul_le_mul hks hf.2
  rw [←hd] at e1
  exact Nat.le_trans e1 (Nat.add_le_add hd4 e2)
 have ht2:tot (gL ch bi ks m d)≤9*nseg m ks+nseg m ks*(ks*fsz ch bi):=by
  rw [Nat.mul_add,Nat.mul_comm (nseg m ks) 9] at ht
  exact ht
 have h5:=sput_size ch bi ks m (gHd ch bi d) (gTl ch bi d) (gL ch bi ks m d)
 rw [sputL_len,gL_len] at h5
 have h6:(gE ch bi ks m d).size=_:=h5
 rw [h6]
 exact size_lem _ _ _ _ _ _ 0 _ _ h1 h2 a1 a2 a3 (Nat.le_trans hn hm4) ht2 hnf
theorem g_put (ch bi ks m:Nat) (d:ByteArray) (hc:ch=1∨ch=2) (hb:bi=8∨bi=16) (hk:1≤ks) (hks:ks≤64) (hd:d.size=m*fsz ch bi) (hm:m≤4096):stream_Put.f (ch:Int) (bi:Int) (ks:Int) (m:Int) (gHd ch bi d) (gTl ch bi d) (gL ch bi ks m d)=some (gE ch bi ks m d,0):=by
 have hn:=nseg_le m ks hk
 unfold stream_Put.f
 rw [if_pos ⟨g_head ch bi ks m d hc hb hk hks hm,by rw [gL_len];exact smany_f m ks hk (Nat.le_trans hm (by decide)) (Nat.le_trans hks (by decide)),by rw [gL_len];exact Nat.le_trans hn hm,List.all_eq_true.2 (gL_szb ch bi ks m d hc hb hk hks hd)⟩]
 rfl
theorem g_get (ch bi ks m:Nat) (d:ByteArray) (hc:ch=1∨ch=2) (hb:bi=8∨bi=16) (hk:1≤ks) (hks:ks≤64) (hd:d.size=m*fsz ch bi) (hd4:d.size≤4096) (hm:m≤4096):stream_Get.f (gE ch bi ks m d)=some ((ch:Int),(bi:Int),(ks:Int),(m:Int),gHd ch bi d,gTl ch bi d,gL ch bi ks m d,0):=by
 obtain ⟨p1,p2,p3,p5,q,ho⟩:=sput_ok ch bi ks m (gHd ch bi d) (gTl ch bi d) (gL ch bi ks m d) (g_head ch bi ks m d hc hb hk hks hm) (by rw [gL_len];exact smany_f m ks hk (Nat.le_trans hm (by decide)) (Nat.le_trans hks (by decide))) (gL_szb ch bi ks m d hc hb hk hks hd) (gE_size ch bi ks m d hc hb hk hks hd hd4)
 exact stream_Get.f_of ho
theorem kform (k n:Nat) (h:15000≤k) (hn:n≤4096):∃j,k=(j+n+1)+1∧7000≤j:=⟨k - n - 2,by omega,by omega⟩
theorem ksL (ks:Nat) (h1:1≤ks) (h2:ks≤64):¬((ks:Int)<1)∧¬(decide ((ks:Int)>64)=true):=by
 rw [decide_eq_true_iff]
 omega
theorem fs0 (f:Nat) (h:1≤f):¬((f:Int)=0):=by omega
theorem wm (m:Nat) (h:m≤4096):wrap64 (m:Int)=(m:Int):=wrap_id _ (by omega) (by omega)
theorem d4 (n d:Nat) (h:n=56+d+d%2) (h4:n≤4096):d≤4096:=by omega
theorem g_enc (k ch bi ks m:Nat) (d:ByteArray) (hkk:15000≤k) (hc:ch=1∨ch=2) (hb:bi=8∨bi=16) (hk:1≤ks) (hks:ks≤64) (hd:d.size=m*fsz ch bi) (hn4:(gW ch bi d).size≤4096):file_Encode.f k (gW ch bi d) (ks:Int)=some (gE ch bi ks m d,0):=by
 have hf:=fsz_pos ch bi hc hb
 have hd4:d.size≤4096:=d4 _ _ (wavB_size ch bi d) hn4
 have hm4:m≤4096:=Nat.le_trans (Nat.le_mul_of_pos_right m hf.1) (hd▸hd4)
 obtain ⟨p,hat⟩:=gW_at ch bi d
 have hp:=parse_go k (Nat.le_trans (by decide) hkk) hat hn4 hc hb
 rw [if_pos (by rw [hd];exact Nat.mul_mod_left _ _)] at hp
 obtain ⟨k,rfl,hk7⟩:=kform k (nseg m ks) hkk (Nat.le_trans (nseg_le m ks hk) hm4)
 have e1:((d.size:Nat):Int) / ((fsz ch bi:Nat):Int)=(m:Int):=by rw [hd,←Int.natCast_ediv,Nat.mul_div_cancel _ hf.1]
 have c1:=(ksL ks hk hks).1
 have c2:=(ksL ks hk hks).2
 have c3:=fs0 _ hf.1
 have w1:=wm m hm4
 have hl:=encG_l0 k ch bi ks m d (gHd ch bi d) (gTl ch bi d) (gE ch bi ks m d) hc hb hk hks hd hd4 hk7 (g_put ch bi ks m d hc hb hk hks hd hm4) (nseg m ks) 0 (Nat.zero_add _)
 rw [Nat.zero_mul,Nat.zero_mul] at hl
 unfold file_Encode.f
 rw [hp,Option.bind_some]
 dsimp only
 rw [if_pos rfl,if_neg c1,file_Encode.j0,if_neg c2,pframe_f ch bi hc hb,Option.bind_some,if_neg c3,e1,w1]
 exact hl
theorem g_bad (k ch bi:Nat) (d:ByteArray) (a:Int) (hkk:15000≤k) (hc:ch=1∨ch=2) (hb:bi=8∨bi=16) (h:¬(d.size%fsz ch bi=0∧(gW ch bi d).size≤4096)):file_Encode.f k (gW ch bi d) a=some ((⟨#[]⟩:ByteArray),2400):=by
 have hp:wave_Parse.f k (gW ch bi d)=some (0,0,(⟨#[]⟩:ByteArray),(⟨#[]⟩:ByteArray),(⟨#[]⟩:ByteArray),2100):=by
  rcases Nat.lt_or_ge 4096 (gW ch bi d).size with h4 | h4
  ·exact parse_big k (Nat.le_trans (by decide) hkk) _ h4
  ·obtain ⟨p,hat⟩:=gW_at ch bi d
   have hp:=parse_go k (Nat.le_trans (by decide) hkk) hat h4 hc hb
   rw [if_neg (fun h5=>h ⟨h5,h4⟩)] at hp
   exact hp
 obtain ⟨k,rfl⟩:∃j,k=j+1:=⟨k - 1,by omega⟩
 unfold file_Encode.f
 rw [hp,Option.bind_some]
 dsimp only
 rw [if_neg (by decide),file_Encode.j0,if_pos rfl]
theorem ext_app (a c:ByteArray) (i j:Nat) (h:j≤a.size):(a++c).extract i j=a.extract i j:=by
 refine ByteArray.ext ?_
 rw [ByteArray.data_extract,ByteArray.data_extract,ByteArray.data_append,Array.extract_append]
 have e:j - a.data.size=0:=Nat.sub_eq_zero_of_le h
 rw [e]
 simp
theorem chunk_same (d e:ByteArray) (f ks m m' i:Nat) (hd:d.size=m*f) (hm:m≤m') (hi:(i+1)*ks<m):chunk (d++e) f ks m' i=chunk d f ks m i:=by
 have h1:i*ks*f+ks*f=(i+1)*ks*f:=by rw [Nat.add_mul,Nat.one_mul,Nat.add_mul]
 have h2:(i+1)*ks*f≤m*f:=Nat.mul_le_mul_right f (Nat.le_of_lt hi)
 have h3:(i+1)*ks*f≤m'*f:=Nat.le_trans h2 (Nat.mul_le_mul_right f hm)
 unfold chunk
 rw [h1,Nat.min_eq_left h2,Nat.min_eq_left h3,ext_app _ _ _ _ (hd▸h2)]
theorem fr_loop (k ch bi ks m m':Nat) (d e:ByteArray) (a1 a2 a3 a4 b1 b2 b3 b4:Int) (a5 a6 b5 b6:ByteArray) (hc:ch=1∨ch=2) (hb:bi=8∨bi=16) (hk:1≤ks) (hd:d.size=m*fsz ch bi) (hm:m≤m') (hm4:m≤4096):
  ∀n i,i+n=nseg m ks→descanttop_TopFrames.l0 (k+n+1) (i:Int) a1 a2 a3 a4 a5 a6 (gL ch bi ks m d) b1 b2 b3 b4 b5 b6 (gL ch bi ks m' (d++e))=some true:=by
 have hn:=nseg_le m ks hk
 have hnn:=nseg_mono m m' ks hm
 intro n
 induction n with
 | zero=>
  intro i hi
  have w1:wrap64 ((i:Int)+1)=((i+1:Nat):Int):=wrap_id _ (by omega) (by omega)
  rw [descanttop_TopFrames.l0,w1,gL_len,if_neg (by omega)]
 | succ n ih=>
  intro i hi
  have w1:wrap64 ((i:Int)+1)=((i+1:Nat):Int):=wrap_id _ (by omega) (by omega)
  rw [show k+(n+1)+1=(k+n+1)+1 from rfl,descanttop_TopFrames.l0,w1,gL_len,gL_len]
  by_cases hlast:i+1<nseg m ks
  ·have hlt:(i+1)*ks<m:=(nseg_lt m ks (i+1) hk).1 hlast
   have e1:rdOf ByteArray.empty (gL ch bi ks m d) (i:Int)=segOf ch bi (chunk d (fsz ch bi) ks m i):=by
    unfold rdOf
    rw [Int.toNat_natCast]
    exact segsG_at ch bi ks m d _ i (by omega)
   have e2:rdOf ByteArray.empty (gL ch bi ks m' (d++e)) (i:Int)=segOf ch bi (chunk d (fsz ch bi) ks m i):=by
    unfold rdOf
    rw [Int.toNat_natCast,←chunk_same d e (fsz ch bi) ks m m' i hd hm hlt]
    exact segsG_at ch bi ks m' (d++e) _ i (by omega)
   rw [if_pos (by omega),if_pos (Int.natCast_nonneg _),if_pos (by omega),if_pos (by omega),e1,e2,if_pos rfl]
   exact ih (i+1) (by omega)
  ·rw [if_neg (by omega)]
theorem fmay2_f (x y:Int):∃t,descantref13_FormatMay.f x y=some t∧(t=true→∃ch bi:Nat,x=(ch:Int)∧y=(bi:Int)∧(ch=1∨ch=2)∧(bi=8∨bi=16)):=by
 by_cases h1:x=1
 ·subst h1
  refine ⟨if y=8 then true else (y==16),?_,fun h=>?_⟩
  ·show (if y=8 then some true else some (y==16))=_
   split<;>rfl
  ·refine ⟨1,y.toNat,rfl,?_,.inl rfl,?_⟩<;>(split at h<;>first | omega | (rw [beq_iff_eq] at h;omega))
 ·by_cases h2:x=2
  ·subst h2
   refine ⟨if y=8 then true else (y==16),?_,fun h=>?_⟩
   ·show (if y=8 then some true else some (y==16))=_
    split<;>rfl
   ·refine ⟨2,y.toNat,rfl,?_,.inr rfl,?_⟩<;>(split at h<;>first | omega | (rw [beq_iff_eq] at h;omega))
  ·refine ⟨false,?_,fun h=>by cases h⟩
   unfold descantref13_FormatMay.f descantref13_upTo.f
   by_cases h3:x≥1
   ·rw [if_pos h3,Option.bind_some,if_neg (by rw [decide_eq_true_iff];omega)]
   ·rw [if_neg h3,Option.bind_some,if_neg (by decide)]
theorem up64 (a:Int):∃x:Nat,1≤x∧x≤64∧wrap64 (1+(wrap64 (Int.tmod (IntKind.u64.wrap a) 64)))=(x:Int):=by
 have h0:0≤IntKind.u64.wrap a:=Int.emod_nonneg _ (by decide)
 have h1:=Int.tmod_nonneg (64:Int) h0
 have h2:=Int.tmod_lt_of_pos (IntKind.u64.wrap a) (show (0:Int)<(64:Int) by decide)
 obtain ⟨y,hy⟩:∃y,Int.tmod (IntKind.u64.wrap a) 64=y:=⟨_,rfl⟩
 rw [hy] at h1 h2 ⊢
 rw [wrap_id y (by omega) (by omega),wrap_id _ (by omega) (by omega)]
 exact ⟨(1+y).toNat,by omega,by omega,by omega⟩
theorem frames_of (d:ByteArray) (f:Nat) (h:d.size%f=0):d.size=d.size / f*f:=(Nat.div_mul_cancel (Nat.dvd_of_mod_eq_zero h)).symm
theorem fr_go (k ch bi ks:Nat) (d e:ByteArray) (hkk:20000≤k) (hc:ch=1∨ch=2) (hb:bi=8∨bi=16) (hk:1≤ks) (hks:ks≤64):
  ∃r1 x1 r2 x2,file_Encode.f k (gW ch bi d) (ks:Int)=some (r1,x1)∧file_Encode.f k (gW ch bi (d++e)) (ks:Int)=some (r2,x2)∧
   (x1=0∧x2=0∧descanttop_TopFrames.j0 k r1 x1 r2 x2 false=some true∨x1≠0∧descanttop_TopFrames.j0 k r1 x1 r2 x2 true=some true∨x1=0∧x2≠0∧descanttop_TopFrames.j0 k r1 x1 r2 x2 true=some true):=by
 have hf:=fsz_pos ch bi hc hb
 have h15:15000≤k:=Nat.le_trans (by decide) hkk
 obtain ⟨j,rfl⟩:∃j,k=j+1:=⟨k - 1,by omega⟩
 by_cases h1:d.size%fsz ch bi=0∧(gW ch bi d).size≤4096
 ·have e1:=g_enc (j+1) ch bi ks (d.size / fsz ch bi) d h15 hc hb hk hks (frames_of d _ h1.1) h1.2
  by_cases h2:(d++e).size%fsz ch bi=0∧(gW ch bi (d++e)).size≤4096
  ·have e2:=g_enc (j+1) ch bi ks ((d++e).size / fsz ch bi) (d++e) h15 hc hb hk hks (frames_of (d++e) _ h2.1) h2.2
   refine ⟨_,_,_,_,e1,e2,.inl ⟨rfl,rfl,?_⟩⟩
   have z1:(gW ch bi d).size=56+d.size+d.size%2:=wavB_size ch bi d
   have z2:(gW ch bi (d++e)).size=56+(d++e).size+(d++e).size%2:=wavB_size ch bi (d++e)
   have d1:d.size≤4096:=by omega
   have d2:(d++e).size≤4096:=by omega
   have m1:d.size / fsz ch bi≤4096:=Nat.le_trans (Nat.div_le_self _ _) d1
   have m2:(d++e).size / fsz ch bi≤4096:=Nat.le_trans (Nat.div_le_self _ _) d2
   have hmm:d.size / fsz ch bi≤(d++e).size / fsz ch bi:=Nat.div_le_div_right (by rw [ByteArray.size_append];exact Nat.le_add_right _ _)
   have g1:=g_get ch bi ks (d.size / fsz ch bi) d hc hb hk hks (frames_of d _ h1.1) d1 m1
   have g2:=g_get ch bi ks ((d++e).size / fsz ch bi) (d++e) hc hb hk hks (frames_of (d++e) _ h2.1) d2 m2
   have hn:=nseg_le (d.size / fsz ch bi) ks hk
   have hnn:=nseg_mono _ _ ks hmm
   obtain ⟨i,rfl⟩:∃i,j=(i+nseg (d.size / fsz ch bi) ks+1)+1:=⟨j - nseg (d.size / fsz ch bi) ks - 2,by omega⟩
   have hl:=fr_loop i ch bi ks (d.size / fsz ch bi) ((d++e).size / fsz ch bi) d e (ch:Int) (bi:Int) (ks:Int) ((d.size / fsz ch bi:Nat):Int) (ch:Int) (bi:Int) (ks:Int) (((d++e).size / fsz ch bi:Nat):Int) (gHd ch bi d) (gTl ch bi d) (gHd ch bi (d++e)) (gTl ch bi (d++e)) hc hb hk (frames_of d _ h1.1) hmm m1 (nseg (d.size / fsz ch bi) ks) 0 (Nat.zero_add _)
   rw [descanttop_TopFrames.j0,if_neg (by decide),g1,Option.bind_some,g2,Option.bind_some]
   dsimp only
   unfold descantlaw0_Num.f
   rw [Option.bind_some,if_pos rfl,Option.bind_some,if_pos rfl,gL_len,gL_len,if_neg (by omega),decide_eq_false (by omega),descanttop_TopFrames.j1,if_neg (by decide)]
   exact hl
  ·have e2:=g_bad (j+1) ch bi (d++e) (ks:Int) h15 hc hb h2
   refine ⟨_,_,_,_,e1,e2,.inr (.inr ⟨rfl,by decide,?_⟩)⟩
   rw [descanttop_TopFrames.j0]
   unfold descantlaw0_Num.f
   rw [if_pos rfl,Option.bind_some,if_pos rfl,Option.bind_some,if_neg (by decide)]
   kernel_rfl
 ·have e1:=g_bad (j+1) ch bi d (ks:Int) h15 hc hb h1
  have h2:∃r2 x2,file_Encode.f (j+1) (gW ch bi (d++e)) (ks:Int)=some (r2,x2):=by
   by_cases h2:(d++e).size%fsz ch bi=0∧(gW ch bi (d++e)).size≤4096
   ·exact ⟨_,_,g_enc (j+1) ch bi ks ((d++e).size / fsz ch bi) (d++e) h15 hc hb hk hks (frames_of (d++e) _ h2.1) h2.2⟩
   ·exact ⟨_,_,g_bad (j+1) ch bi (d++e) (ks:Int) h15 hc hb h2⟩
  obtain ⟨r2,x2,e2⟩:=h2
  refine ⟨_,_,_,_,e1,e2,.inr (.inl ⟨by decide,?_⟩)⟩
  rw [descanttop_TopFrames.j0]
  unfold descantlaw0_Num.f
  rw [if_pos rfl,Option.bind_some,if_neg (by decide),if_pos (by kernel_rfl)]
theorem TopFrames_pure (x y:Int) (d e:ByteArray) (a3:Int) (h1:d.size≤140737488351232) (h2:e.size≤140737488351232):∃k,descanttop_TopFrames.f k x y d e a3=some true:=by
 obtain ⟨t,ht,hf⟩:=fmay2_f x y
 cases t with
 | false=>
  refine ⟨0,?_⟩
  unfold descanttop_TopFrames.f descanttop_awake.f
  rw [Option.bind_some,if_pos rfl,ht,Option.bind_some,if_neg (by decide)]
 | true=>
  obtain ⟨ch,bi,rfl,rfl,hc,hb⟩:=hf rfl
  obtain ⟨ks,k1,k2,hk⟩:=up64 a3
  refine ⟨20000,?_⟩
  obtain ⟨r1,x1,r2,x2,e1,e2,hj⟩:=fr_go 20000 ch bi ks d e (Nat.le_refl _) hc hb k1 k2
  have hw1:descanttop_wav.f 20000 (ch:Int) (bi:Int) d=some (gW ch bi d):=wav_f 20000 ch bi d hc hb (Nat.le_trans h1 (by decide)) (by decide)
  have hs:(d++e).size≤1000000000000000:=by rw [ByteArray.size_append];omega
  have hw2:descanttop_wav.f 20000 (ch:Int) (bi:Int) (d++e)=some (gW ch bi (d++e)):=wav_f 20000 ch bi (d++e) hc hb hs (by decide)
  unfold descanttop_TopFrames.f descanttop_awake.f
  rw [Option.bind_some,if_pos rfl,ht,Option.bind_some,if_pos rfl,hw1,Option.bind_some,hk,e1,Option.bind_some,if_pos (by omega),hw2,Option.bind_some,e2,Option.bind_some]
  unfold descantlaw0_Num.f
  dsimp only
  rw [Option.bind_some]
  rcases hj with ⟨rfl,rfl,hj⟩ | ⟨hx,hj⟩ | ⟨rfl,hx,hj⟩
  ·rw [if_pos rfl,Option.bind_some]
   exact hj
  ·rw [if_neg hx]
   exact hj
  ·rw [if_pos rfl,Option.bind_some,show (x2 !=0)=true from bne_iff_ne.2 hx]
   exact hj
theorem topFrames_call (x y:Int) (d e:ByteArray) (a3:Int) (w:World) (hT:Tabs w) (h1:d.size≤140737488351232) (h2:e.size≤140737488351232):Calls Tryz.prog 7 #[.agg #[.int .i64 x,.int .i64 y],.string d,.string e,.int .i64 a3] w fun e w'=>e= .returned (.bool true)∧Below w.heap.size w w':=by
 obtain ⟨k,h⟩:=TopFrames_pure x y d e a3 h1 h2
 exact descanttop_TopFrames.calls k x y d e a3 true w rfl h hT
end Go.Proofs.YtfghldonnffldaaGreatDoor
namespace Go.Proofs.YtfghldonnffldaaGreatDoor
open Go.RowKit YtfghldonnffldaaGreatDoorW.PrintWords YtfghldonnffldaaGreatDoorW.PrintLast YtfghldonnffldaaGreatDoorW.PrintMore TBase
open Go.RowKit
theorem gDeb:Tryz.prog.globalNamed "math/bits.deBruijn64tab" =some 2:=by kernel_rfl
theorem gDebT:(Tryz.prog.globals[2]?).map (·.type)=some 225:=by kernel_rfl
theorem gStr:Tryz.prog.globalNamed "descant/stretch.table" =some 3:=by kernel_rfl
theorem gStrT:(Tryz.prog.globals[3]?).map (·.type)=some 228:=by kernel_rfl
theorem cells225:Tryz.prog.cellsOf 225=64:=by kernel_rfl
theorem cells228:Tryz.prog.cellsOf 228=33:=by kernel_rfl
theorem cells5_:Tryz.prog.cellsOf 5=1:=by kernel_rfl
theorem cells3_:Tryz.prog.cellsOf 3=1:=by kernel_rfl
def laidL:List (String×DataW Unit):= [("math/bits.deBruijn32tab",Rows.laid_math_bits_deBruijn32tab),("math/bits.deBruijn64tab",Rows.laid_math_bits_deBruijn64tab),("descant/stretch.table",Rows.laid_descant_stretch_table)]
theorem laidTabs {W:World} (h0:laidMetH Tryz.prog laidL W):Tabs W:=by
 have h:laidMet Tryz.prog laidL W:=h0
 have h1:=laidMet.tail h
 have h2:=laidMet.tail h1
 have t1:Lib.TabIs Tryz.prog W "math/bits.deBruijn64tab" .u8 Sq.deb:=Lib.tabIs_of_head gDeb gDebT Tryz.underlying225 Tryz.underlying5 cells5_ cells225 h1
 have t2:Lib.TabIs Tryz.prog W "descant/stretch.table" .i64 Sq.tab:=Lib.tabIs_of_head gStr gStrT Tryz.underlying228 Tryz.underlying3 cells3_ cells228 h2
 exact ⟨fun j hj=>t2.cell gStr j hj,fun j hj=>t1.cell gDeb j hj⟩
def dataCells:DataW Unit→Array Value
 | .agg l=>(l.map fun | .lit (.int k z)=>Value.int k z | _=>Value.bool false).toArray
 | _=> #[]
def layCells (cs:Array Value):Obj→Obj
 | .cells _ t frozen=> .cells cs t frozen
 | o=>o
noncomputable def laidWorld (os:Os):World:=
 { World.holding Tryz.prog os ⟨#[],#[],[]⟩ with heap:=(((World.holding Tryz.prog os ⟨#[],#[],[]⟩).heap.modify 1 (layCells (dataCells Rows.laid_math_bits_deBruijn32tab))).modify 2 (layCells (dataCells Rows.laid_math_bits_deBruijn64tab))).modify 3 (layCells (dataCells Rows.laid_descant_stretch_table)) }
end Go.Proofs.YtfghldonnffldaaGreatDoor
namespace Go.Proofs.YtfghldonnffldaaGreatDoor.topFrames
open Go.ChangeShapes Go.WideShapes Go.ChangeAt Go.RowKit Go.Joins
open Go.ChangeMaps (open_string shut_string)
theorem own:ownKnob Tryz.prog.godebug=none:=by kernel_rfl
theorem laidOut:laidOutB Tryz.prog=true:=by kernel_rfl
theorem two {α:Type} (l:List α) (h:l.length=2):∃a b,l= [a,b]:=by
 rcases l with _ | ⟨a,_ | ⟨b,l⟩⟩<;>simp at h
 subst h
 exact ⟨a,b,rfl⟩
theorem opened {H:Type} {enc:TypeId×Value→H} {W:World} {b0 b1:Nat} {r:Reach} {spare:Nat→Bool} {held:Bool} {v:Value} {d:DataW H} {p:List MemPlace} (hv:Value.okWide Tryz.prog W r b0 23 v) (h:DataW.Trod enc Tryz.prog W b1 spare held 23 v d p):
  ∃(x y:Int),v= .agg #[.int .i64 x,.int .i64 y]:=by
 obtain ⟨cs,rfl,hsz⟩:=okWide_struct Tryz.underlying23 hv
 have h5:cs.toList.length=2:=by rw [Array.length_toList];exact hsz.trans (by kernel_rfl)
 obtain ⟨c0,c1,hl⟩:=two _ h5
 obtain ⟨fuel,hf⟩:=h
 obtain ⟨xs,n,_,_,_,hlen,hg⟩:=DataW.trod_struct Tryz.underlying23 hf
 obtain ⟨y0,y1,rfl⟩:=two xs hlen
 have k3:Tryz.prog.cellsOf 3=1:=by kernel_rfl
 have g0:=hg 0 _ rfl
 have g1:=hg 1 _ rfl
 simp [Value.cells,hl,k3] at g0 g1
 obtain ⟨a0,e0,_,_⟩:=DataW.trod_int Tryz.underlying3 g0
 obtain ⟨a1,e1,_,_⟩:=DataW.trod_int Tryz.underlying3 g1
 simp at e0 e1
 subst e0 e1
 refine ⟨a0,a1,?_⟩
 congr 1
 exact Array.ext' hl
theorem laid_met (os:Os):laidMet Tryz.prog Rows.topFramesRow.laid ((laidWorld os).forCall (fun _ _=>0) ⟨#[],#[.agg #[.int .i64 0,.int .i64 0],.string ByteArray.empty,.string ByteArray.empty,.int .i64 0],[]⟩).memory:=
 laidMet_of_run' 8 (by kernel_rfl) (by kernel_rfl)
theorem reads (os:Os) {H:Type} (enc:TypeId×Value→H):∃dgp,DataW.whole enc Tryz.prog ((laidWorld os).forCall (fun _ _=>0) ⟨#[],#[.agg #[.int .i64 0,.int .i64 0],.string ByteArray.empty,.string ByteArray.empty,.int .i64 0],[]⟩).memory Tryz.f7.params.toList (OpenSpec.ofChange Rows.topFramesSpec).vars false (#[.agg #[.int .i64 0,.int .i64 0],.string ByteArray.empty,.string ByteArray.empty,.int .i64 0]:Array Value).toList 8=some ([.agg [.lit (.int .i64 0),.lit (.int .i64 0)],.lit (.string []),.lit (.string []),.lit (.int .i64 0)],[],dgp):=
 ⟨[],by kernel_rfl⟩
theorem lifted (os:Os) (started:os.Started) (H:Type) (enc:TypeId×Value→H) (F:Stop.Interp):
  ReturnsInHanded {} Tryz.checked os 7 .any ((OpenSpec.ofChange Rows.topFramesSpec).preRow enc Tryz.prog Tryz.f7 Rows.topFramesRow.domain false Rows.topFramesRow.laid) (((OpenSpec.ofChange Rows.topFramesSpec).at F).post enc Tryz.prog Tryz.f7 false true false false):=by
 obtain ⟨places,hx⟩:=reads os enc
 refine returnsInHanded_of_row (C:=Tryz.checked) (s:=OpenSpec.ofChange Rows.topFramesSpec) own started (by kernel_rfl) Tryz.func7
  (witness_row_at (enc:=enc) (C:=Tryz.checked) false (laidWorld os) #[.agg #[.int .i64 0,.int .i64 0],.string ByteArray.empty,.string ByteArray.empty,.int .i64 0] rfl (by kernel_rfl) (by kernel_rfl) (by kernel_rfl)
   (OpenSpec.preRow_of_cond 8 hx (by kernel_rfl) (fun k hk=>by cases hk) (by kernel_rfl) (laid_met os))) ?_
 intro W base args ds gs before hval0 hW hcnd _ hsz0 hL _ _
 have hsz:(DataW.weightsEach Tryz.prog (Tryz.f7.params.toList++Rows.topFramesSpec.plain.varTypes Tryz.prog) (ds++gs)).all (· ≤reachBytes)=true:=hsz0
 have hval:∀(j:Nat) t v,Tryz.f7.params[j]?=some t→args[j]?=some v→Value.okWide Tryz.prog W .any base t v:=hval0
 have hW':=hW
 obtain ⟨p,q,hA0,hV,rfl,hfz,hnd⟩:=hW
 have hA:DataW.TrodAll enc Tryz.prog W 0 (fun _=>true) true Tryz.f7.params.toList args.toList ds p:=hA0
 rw [Tryz.params7] at hA hval hsz
 obtain ⟨v0,vs0,d0,ds0,p0,q0,hargs,rfl,rfl,h0,r0⟩:=trodAll_cons hA
 obtain ⟨v1,vs1,d1,ds1,p1,q1,rfl,rfl,rfl,h1,r1⟩:=trodAll_cons r0
 obtain ⟨v2,vs2,d2,ds2,p2,q2,rfl,rfl,rfl,h2,r2⟩:=trodAll_cons r1
 obtain ⟨v3,vs3,d3,ds3,p3,q3,rfl,rfl,rfl,h3,r3⟩:=trodAll_cons r2
 obtain ⟨rfl,rfl,rfl⟩:=trodAll_nil r3
 obtain rfl:args= #[v0,v1,v2,v3]:=by cases args;simp_all
 obtain ⟨rfl,rfl⟩:=trodVars_none hV
 have k0:=h0
 have lt0:∀x∈p0,x.block<W.heap.size:=by obtain ⟨m,hm⟩:=k0;exact DataW.trod_lt m _ _ _ hm
 obtain ⟨x0,y0,ev0⟩:=opened (hval 0 23 v0 rfl rfl) h0
 subst ev0
 obtain ⟨a1,rfl,rfl,rfl,y1⟩:=open_string Tryz.underlying9 (hval 1 9 v1 rfl rfl) h1
 have w1:a1.size≤140737488351232:=by
  have z:=sized_string hsz (j:=1) (t:=9) rfl rfl
  rw [Array.length_toList] at z
  exact z
 obtain ⟨a2,rfl,rfl,rfl,y2⟩:=open_string Tryz.underlying9 (hval 2 9 v2 rfl rfl) h2
 have w2:a2.size≤140737488351232:=by
  have z:=sized_string hsz (j:=2) (t:=9) rfl rfl
  rw [Array.length_toList] at z
  exact z
 obtain ⟨a3,rfl,rfl,rfl,w3⟩:=open_int Tryz.underlying3 (hval 3 3 v3 rfl rfl) h3
 clear hA0 hval0 hsz0 hsz
 refine (topFrames_call x0 y0 a1 a2 a3 W (laidTabs hL) w1 w2).mono fun e W' ⟨he,bel⟩=>?_
 subst he
 exact ⟨_,rfl,_,_,_,[],_,[],hW',trodAll_mk1 (shut_bool Tryz.underlying4 _),(trodAll_cons_mk (Below.trod laidOut (by kernel_rfl) (of_decide_eq_true (by kernel_rfl)) k0 bel lt0) (trodAll_cons_mk (shut_string Tryz.underlying9 y1) (trodAll_cons_mk (shut_string Tryz.underlying9 y2) (trodAll_cons_mk (shut_int Tryz.underlying3 w3) trodAll_mk0)))),rfl,bel.frame _,fun h=>by cases h⟩
theorem over:Rows.TopFramesSaid:=
 OpenClaim.holds_of_cond 7 Tryz.f7 rfl rfl rfl rfl rfl rfl rfl ⟨rfl,rfl,rfl,rfl,rfl⟩ rfl rfl rfl rfl rfl (by kernel_rfl) Tryz.func7 (by kernel_rfl)
  (of_decide_eq_true (by kernel_rfl)) (by unfold Func.isWrapper;first | (rw [if_pos (by decide+kernel)];kernel_rfl) | (rw [if_neg (by decide+kernel)];exact ⟨rfl,rfl⟩))
  (fun os started H enc _ F=>by rw [OpenClaim.pre_eq_preRow];exact lifted os started H enc F)
theorem plain (f:FuncId) (fn:Func) (hf:Tryz.pinned.checked.prog.funcNamed "descant/descanttop.TopFrames" =some f) (hfn:Tryz.pinned.checked.prog.funcs[f]?=some fn):
  false=Tryz.pinned.checked.prog.looks []∧∀(j:Nat) t,fn.params[j]?=some t→Tryz.pinned.checked.prog.wantsStandIn t=false:=by
 obtain rfl:f=7:=Option.some.inj ((show Tryz.prog.funcNamed "descant/descanttop.TopFrames" =some 7 by kernel_rfl).symm.trans hf) |>.symm
 obtain rfl:fn=Tryz.f7:=(Option.some.inj (Tryz.func7.symm.trans hfn)).symm
 refine ⟨by kernel_rfl,fun j t ht=>?_⟩
 rw [Tryz.params7] at ht
 have hm:=Array.mem_of_getElem? ht
 simp at hm
 rcases hm with rfl | rfl | rfl
 ·exact (show Tryz.prog.wantsStandIn 23=false by kernel_rfl)
 ·exact (show Tryz.prog.wantsStandIn 9=false by kernel_rfl)
 ·exact (show Tryz.prog.wantsStandIn 3=false by kernel_rfl)
theorem card:Rows.TopFramesCardSaid:=
 Claim7.holds_tied_plain_at .later [] _ _ _ _ over (fun _ h=>by cases h) (by kernel_rfl) (fun _ h=>by cases h) topFrames_row_tie rfl ⟨rfl,rfl⟩ (by kernel_rfl) rfl plain (by kernel_rfl)
#print axioms card
end Go.Proofs.YtfghldonnffldaaGreatDoor.topFrames
namespace Go.Proofs.YtfghldonnffldaaGreatDoor
theorem topFrames_holds:Rows.TopFramesCardSaid:=topFrames.card
end Go.Proofs.YtfghldonnffldaaGreatDoor
