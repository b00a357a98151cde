/- Walks of the program's functions, and the laws of what they compute, for TopMoved: one file of several. -/
import Derived.Lib.ItoaNum
import Derived.Test.YtfghldonnffldaaGreatDoorProg
import Derived.Below
import Derived.Deep.Draws
import Derived.Deep.AppendLies
import Derived.Maps.AppendAt
import Derived.OwnWalk
import Derived.Laws.BytesArg
import Derived.Laws.MakeOwn
import Derived.Laws.OwnMore
import Derived.Deep.OwnRows
import Derived.Tactics
import Derived.Lib.ConvBytes
import Derived.Laws.Slices
import Derived.WalkKit
import Derived.KernelRfl
import Derived.RowKit3
import Derived.Deep.LoopGhost
import Derived.Deep.QuietTactic
import Derived.BigQuiet
import Derived.WideLaws
import Derived.Deep.DeepCutAuto
import Derived.Deep.CutBlock
import Derived.Deep.RegionHeld3
import Derived.Laws.Rows
import Derived.Lib.AppendStr
import Derived.ArgAppend
import Derived.Laws.IdiomCopy
import Derived.OrdersHeld
import Derived.Laws.BitsLemmas
import Derived.RowKit
import Derived.Test.YtfghldonnffldaaGreatDoorMvd3
set_option linter.unusedVariables false
set_option linter.unusedSimpArgs false
set_option maxRecDepth 100000
set_option maxHeartbeats 8000000
namespace Go.Proofs.YtfghldonnffldaaGreatDoor.XThr
open Go.RowKit TBase YtfghldonnffldaaGreatDoorW.PrintWords YtfghldonnffldaaGreatDoorW.PrintLast YtfghldonnffldaaGreatDoorW.PrintMore
attribute [local go_sem] max2_int min2_int max_two min_two max_three min_three max_four min_four
mutual
def gamma_Bits.j0:Nat→Int→Bool→Option (List Int×Int)
 |0,_,_=>none
 |k+1,x0,yV=>if yV=true then(some (([]:List Int),1100)) else((bits_Len.f (IntKind.u64.wrap (wrap64 (x0+1)))).bind fun bv=>((slices_Repeat.f (([1]:List Int)) (wrap64 (bv - 1))).bind fun t105=>(if t105.length<17592186044416 then(gamma_Bits.l0 k (wrap64 (x0+1)) (t105++ [0]) (wrap64 ((wrap64 (bv - 1)) - 1))) else(none))))
def gamma_Bits.l0:Nat→Int→List Int→Int→Option (List Int×Int)
 |0,_,_,_=>none
 |k+1,x4,x6,x7=>if x7≥0 then(if 0≤x7 then(if x6.length<17592186044416 then(gamma_Bits.l0 k x4 (x6++ [Go.bits .and .i64 (shr .i64 x4 x7) 1]) (wrap64 (x7 - 1))) else(none)) else(none)) else(some (x6,0))
end
def gamma_Bits.f(k:Nat)(a0:Int):Option (List Int×Int):=if a0<0 then(gamma_Bits.j0 k a0 true) else(gamma_Bits.j0 k a0 (decide (a0>33554432)))
theorem gamma_Bits.calls(k:Nat)(a0:Int)(r1:List Int)(r2:Int)(w:World)(h:gamma_Bits.f k a0=some (r1,r2)):
  Calls Tryz.prog 75 #[.int .i64 a0] w fun e w'=>∃eB:Value,e= .returned (.tuple #[eB,.int .i64 r2])∧Kd.R (Kd.int .i64) 3 w' w.heap.size (fun _=>True) eB r1∧Below w.heap.size w w':=by
 have HB:=Z_ (Below.refl w.heap.size w);have H:(if a0<0 then(gamma_Bits.j0 k a0 true) else(gamma_Bits.j0 k a0 (decide (a0>33554432))))=some (r1,r2):=h;clear h;have l8:=Z_ H;clear H
 go_enter Tryz.func75,Tryz.ntmps75
 go_upto_region 1 with (fail)
 go_cut [13] (fun v13 wc=>∃(kq:Nat) (bT:Bool),v13= .bool bT∧Aside0 (gamma_Bits.j0 kq a0 bT=some (r1,r2))∧Aside0 (kq≤k)∧Aside0 (Below w.heap.size w wc))
 case first=>
  have H:=l8.out;clear l8
  by_cases c3:a0<0
  ·rw[if_pos c3] at H;have c3b0:=dt_ c3;clear c3;(first|rw[c3b0]|(simp only[i64_w,i32_w];rw[c3b0])|skip);have H':=Z_ H;clear H;go_wp2;go_meet
   case rel=>exact⟨_,(true),(E1_),H',⟨L_⟩,⟨B_⟩⟩
  ·rw[if_neg c3] at H;have c3b0:=df_ c3;clear c3;(first|rw[c3b0]|(simp only[i64_w,i32_w];rw[c3b0])|skip);have H':=Z_ H;clear H;go_wp2;go_meet
   case rel=>exact⟨_,(decide (a0>33554432)),(E1_),H',⟨L_⟩,⟨B_⟩⟩
 case rest=>
  clear l8
  try clear p2
  try clear c3
  try clear c3b0
  obtain⟨kq,bT,rfl,HA,qR,HB⟩:=hcut
  cases kq with
  |zero=>exact absurd HA.out (by simp[gamma_Bits.j0])
  |succ oZ=>
   have H:=HA.out;clear HA;simp only[gamma_Bits.j0] at H
   by_cases c4:bT=true
   ·subst c4;rw[if_pos rfl] at H;simp only[Option.some.injEq,Prod.mk.injEq] at H;obtain⟨rfl,rfl⟩:=H;go_wp2;go_ret2;exact⟨_,E_,by first|exact Kd.R_nil _ _ _ _ _|exact Kd.N_nil _ _ _ _ _|exact Kd.V_nil _ _ _ _ _|exact Kd.Q_nil _ _ _ _ _|exact Kd.S_nil _ _ _ _ _,B_⟩
   ·replace c4:=Bool.eq_false_iff.mpr c4;subst c4;rw[if_neg (show ¬(false=true) by decide)] at H;replace H:=Ob_ H;obtain⟨bv,jR,H⟩:=H;(try dsimp only at H);have A5:=Z_ jR;clear jR;obtain⟨y102,hy102⟩:∃y_:List Int,y_=(([1]:List Int)):=⟨_,rfl⟩;replace H:((slices_Repeat.f y102 (wrap64 (bv - 1))).bind fun t105=>(if t105.length<17592186044416 then(gamma_Bits.l0 oZ (wrap64 (a0+1)) (t105++ [0]) (wrap64 ((wrap64 (bv - 1)) - 1))) else(none)))=some (r1,r2):=by first|(rw[hy102];with_reducible exact H)|(have bS:=(bs_ _ _).symm.trans H;rw[hy102];with_reducible exact bS)|(have bS:=(bs_ _ _).symm.trans H;with_reducible exact bS)|with_reducible exact H|(rw[hy102];exact H)|exact H
    have BK:=Z_ hy102;clear hy102;replace H:=Ob_ H;obtain⟨t105,pI,H⟩:=H;(try dsimp only at H);have A6:=Z_ pI;clear pI
    by_cases c7:t105.length<17592186044416
    ·rw[if_pos c7] at H;have QP:=Z_ c7;clear c7;obtain⟨ww,iX⟩:∃y_:List Int,y_=(t105++ [0]):=⟨_,rfl⟩;replace H:(gamma_Bits.l0 oZ (wrap64 (a0+1)) ww (wrap64 ((wrap64 (bv - 1)) - 1)))=some (r1,r2):=by first|(rw[iX];with_reducible exact H)|(have bS:=(bs_ _ _).symm.trans H;rw[iX];with_reducible exact bS)|(have bS:=(bs_ _ _).symm.trans H;with_reducible exact bS)|with_reducible exact H|(rw[iX];exact H)|exact H
     have r9:=Z_ iX;clear iX;have H':=Z_ H;clear H
     go_wp2_with (first|(refine G_ 18 Tryz.func105 #[.int .u64 (IntKind.u64.wrap (wrap64 (a0+1)))] ?_;refine(bits_Len.calls (IntKind.u64.wrap (wrap64 (a0+1))) bv _ A5.out).mono ?_;rintro e w' ⟨rfl,⟨nd,rfl⟩⟩;refine⟨_,rfl,?_⟩)|((with_reducible refine gate_dst (N:=20) rfl ?_);refine Kd.R_lit (Kd.int .i64) _ 3 ?hg (N:=20) ?hd (xs:=([1]:List Int)) (inner:= [.int .i64 1]) (ok:=fun _=>True) (okp:=fun _=>True) ?hr ?hp (fun _ hk=>hk) trivial (Below.refl _ _) (Nat.le_refl _) (by simp) ?_;(case hd=>rfl);(case hg=>rfl);(case hr=>first|(go_simp;done)|(go_simp;rfl));(case hp=>exact(Reps.one (show Kd.M (Kd.int .i64) _ _ _ 1 [.int .i64 1] from rfl) (Reps.none _ _)));intro QQ w8 Hf hb hg_ hnew_;clear hg_ hnew_;(first|rw[←BK.out] at Hf|(simp only[Int.reduceToNat] at Hf;rw[←BK.out] at Hf));have iT:=Z_ (Kd.R_lower Hf (below_size B_));replace HB:=Hb_ hb;clear hb Hf;obtain⟨rR,rT,DR⟩:=Kd.R_slice iT.out;subst DR)|(refine G_ 22 Tryz.func106 #[.slice rR y102.length rT,.int .i64 (wrap64 (bv - 1))] ?_;refine(slices_Repeat.calls _ _ y102 (wrap64 (bv - 1)) t105 _ (C_ (Kd.R_reads' iT.out).2.2) ((Kd.R_reads' iT.out).2.1) A6.out).mono ?_;rintro e zg ⟨QR,rfl,ho0,hb⟩;refine⟨_,rfl,?_⟩;have BL:=Z_ (Kd.R_lower (Kd.R_new' ho0 (Kd.R_lt (R_ iT))) (below_size B_));replace iT:=Z_ (Kd.R_elder' (R_ iT) (Kd.R_base ho0) hb);replace HB:=Hb_ hb;(try clear hb);(try clear ho0))|((with_reducible refine gate_builtin (b:= .append) (xs:= #[.tmp 22,.tmp 23]) rfl ?_);at_builtin;refine Kd.R_append (Kd.int .i64) (w0:=w) w.heap.size rfl (.tmp 22) (.tmp 23) 36 3 (.int .i64 0) 8 rfl Tryz.underlying36 info3 rfl (by decide) (by omega) QR t105 0 [.int .i64 0] (fun k_=>some k_≠(.slice rR y102.length rT:Value).ownBlock) (fun _=>False) rfl rfl ?aP (fun _ hk=>hk.elim) ?aF ?aO ?aB ?aS ?aL ?_;(case aP=>exact rfl);(case aB=>exact B_);(case aF=>exact(fun k_ hk=>Kd.fresh' (Kd.R_lt (R_ iT)) k_ hk));(case aO=>exact(by(with_reducible repeat (first|apply Kd.R_alloc|apply Kd.R_drewN|apply Kd.R_drew));exact Kd.R_mono BL.out (fun _ hk=>hk.2)));(case aS=>exact(below_size B_));(case aL=>have:=QP.out;omega);intro v109 w12 ho hb hg hat;rw[←r9.out] at ho;replace iT:=Z_ (Kd.R_after (ok:=(fun _=>True)) (R_ iT) hg hat);replace HB:=Z_ (hb);have wC:=Z_ (ho);clear BL;clear ho hb hg hat))
     go_loopg [6,7] oZ (fun kq v6 v7 w'=>∃(dn:List Int) (eY:Int),v7= .int .i64 eY∧Aside0 (gamma_Bits.l0 kq (wrap64 (a0+1)) dn eY=some (r1,r2))∧Aside0 (kq≤oZ)∧Aside0 (Kd.R (Kd.int .i64) 3 w' w.heap.size (fun _=>True) v6 dn)∧Aside0 (Below w.heap.size w w'))
     case atStart=>exact⟨(ww),(wrap64 ((wrap64 (bv - 1)) - 1)),(E1_),H',⟨Nat.le_refl _⟩,⟨by(with_reducible repeat (first|apply Kd.R_alloc|apply Kd.R_drewN|apply Kd.R_drew));exact Kd.R_mono wC.out (fun _ hk=>trivial)⟩,⟨B_⟩⟩
     case round=>
      clear H'
      try clear c1
      try clear p2
      try clear c3
      try clear c3b0
      try clear c4
      try clear p6
      try clear c7
      try clear c10
      try clear p2
      obtain⟨dn,eY,rfl,HA,iq,HO_6,HB⟩:=hrel
      cases gk with
      |zero=>exact absurd HA.out (by simp[gamma_Bits.l0])
      |succ k2=>
       have H:=HA.out;clear HA;simp only[gamma_Bits.l0] at H
       by_cases c13:eY≥0
       ·rw[if_pos c13] at H;have c13b0:decide (0≤eY)=true:=dt_ c13;clear c13
        by_cases c14:0≤eY
        ·rw[if_pos c14] at H;have c14b0:=eq_true c14;have c14b1:=dt_ c14;clear c14;obtain⟨jK,jg⟩:∃j_:Int,(shr .i64 (wrap64 (a0+1)) eY)=j_:=⟨_,rfl⟩;(first|rw[jg] at H|simp only[jg] at H);have QS:((wrap64 (a0+1)) / 2 ^ min eY.toNat 64)=jK:=jg;have hji15z:eY≤64→((wrap64 (a0+1)) / 2 ^ eY.toNat)=jK:=shr_small jg
         by_cases c16:dn.length<17592186044416
         ·rw[if_pos c16] at H;have Hg:=Z_ c16;clear c16;obtain⟨Hl,qa⟩:∃y_:List Int,y_=(dn++ [Go.bits .and .i64 (jK) 1]):=⟨_,rfl⟩;replace H:(gamma_Bits.l0 k2 (wrap64 (a0+1)) Hl (wrap64 (eY - 1)))=some (r1,r2):=by first|(rw[qa];with_reducible exact H)|(have bS:=(bs_ _ _).symm.trans H;rw[qa];with_reducible exact bS)|(have bS:=(bs_ _ _).symm.trans H;with_reducible exact bS)|with_reducible exact H|(rw[qa];exact H)|exact H
          have Hm:=Z_ qa;clear qa;have H':=Z_ H;clear H
          go_wp2_with (first|((with_reducible refine gate_builtin (b:= .append) (xs:= #[.tmp 31,.tmp 36]) rfl ?_);at_builtin;refine Kd.R_append (Kd.int .i64) (w0:=w) w.heap.size rfl (.tmp 31) (.tmp 36) 36 3 (.int .i64 0) 8 rfl Tryz.underlying36 info3 rfl (by decide) (by omega) u6 dn (Go.bits .and .i64 (jK) 1) [.int .i64 (Go.bits .and .i64 (jK) 1)] (fun _=>True) (fun _=>False) rfl rfl ?aP (fun _ hk=>hk.elim) ?aF ?aO ?aB ?aS ?aL ?_;(case aP=>exact rfl);(case aB=>exact B_);(case aF=>exact(fun _ _=>trivial));(case aO=>exact(R_ HO_6));(case aS=>exact(below_size B_));(case aL=>have:=Hg.out;omega);intro Ho Db ho hb hg hat;rw[←Hm.out] at ho;replace HB:=Z_ (hb);have ky:=Z_ (ho);clear HO_6;clear ho hb hg hat))
          go_roundg k2
          case measure=>have:=qR.out;have:=iq.out;omega
          case rel=>exact⟨(Hl),(wrap64 (eY - 1)),(E1_),H',⟨by have:=qR.out;have:=iq.out;omega⟩,⟨R_ ky⟩,⟨B_⟩⟩
         ·rw[if_neg c16] at H;exact absurd H (by simp)
        ·rw[if_neg c14] at H;exact absurd H (by simp)
       ·rw[if_neg c13] at H;have c13b0:decide (0≤eY)=false:=df_ c13;clear c13;simp only[Option.some.injEq,Prod.mk.injEq] at H;obtain⟨rfl,rfl⟩:=H;go_wp2;go_ret2;exact⟨_,E_,R_ HO_6,B_⟩
    ·rw[if_neg c7] at H;exact absurd H (by simp)
end Go.Proofs.YtfghldonnffldaaGreatDoor.XThr
namespace Go.Proofs.YtfghldonnffldaaGreatDoor
open Go.RowKit YtfghldonnffldaaGreatDoorW.PrintWords YtfghldonnffldaaGreatDoorW.PrintLast YtfghldonnffldaaGreatDoorW.PrintMore TBase
open XThr
namespace Gm
def low:Nat→Nat→List Int
 |0,_=> []
 |n+1,v=>((v / 2 ^ n%2:Nat):Int)::low n v
def len(u:Nat):Nat:=Lib.bitLen (u+1) - 1
def gb(u:Nat):List Int:=List.replicate (len u) 1++0::low (len u) (u+1)
theorem low_len(n v:Nat):(low n v).length=n:=by
 induction n with
 |zero=>rfl
 |succ n ih=>rw[low,List.length_cons,ih]
theorem len_spec(u:Nat)(h:u≤33554432):2 ^ len u≤u+1∧u+1<2 ^ (len u+1)∧(Lib.bitLen (u+1):Int)=(len u:Int)+1:=by
 have:=Lib.bitLenAux_bounds 64 (u+1) (by omega) (by omega);unfold len Lib.bitLen;generalize Lib.bitLenAux 64 (u+1)=n at this ⊢;obtain⟨m,rfl⟩:∃m,n=m+1:=⟨n - 1,by omega⟩;rw[Nat.add_sub_cancel] at this ⊢;exact⟨this.2.1,this.2.2,by omega⟩
theorem len_le(u:Nat)(h:u≤33554432):len u≤25:=by
 have h1:=(len_spec u h).1;apply Classical.byContradiction;intro hn;have:2 ^ 26≤2 ^ len u:=Nat.pow_le_pow_right (by omega) (by omega);omega
theorem gb_len(u:Nat):(gb u).length=2*len u+1:=by
 unfold gb;rw[List.length_append,List.length_replicate,List.length_cons,low_len];omega
theorem low_bit(n v:Nat):∀x∈low n v,x=0∨x=1:=by
 induction n with
 |zero=>intro x hx;cases hx
 |succ n ih=>
  intro x hx;rw[low] at hx
  rcases List.mem_cons.1 hx with rfl|hx
  ·omega
  ·exact ih x hx
theorem gb_bit(u:Nat):∀x∈gb u,x=0∨x=1:=by
 intro x hx;unfold gb at hx
 rcases List.mem_append.1 hx with hx|hx
 ·exact Or.inr (List.eq_of_mem_replicate hx)
 ·rcases List.mem_cons.1 hx with rfl|hx
  ·exact Or.inl rfl
  ·exact low_bit _ _ x hx
theorem shr_bit(v i:Nat)(hi:i≤62):Go.bits .and .i64 (shr .i64 (v:Int) (i:Int)) 1=((v / 2 ^ i%2:Nat):Int):=by
 have h1:=and_low (shr .i64 (v:Int) (i:Int)) 1 (by omega);have e:((2 ^ 1 - 1:Nat):Int)=1:=rfl;rw[e] at h1;rw[h1];unfold shr;rw[nC_,Nat.min_eq_left (by show i≤64;omega)]
 have h2:(v:Int) / 2 ^ i=((v / 2 ^ i:Nat):Int):=by
  rw[Int.natCast_ediv]
  congr 1
  first|done|exact(Int.natCast_pow 2 i).symm
 rw[h2];omega
theorem bits_l0(v:Nat):∀n acc k,n≤60→n<k→acc.length+n≤1000→gamma_Bits.l0 k (v:Int) acc ((n:Int) - 1)=some (acc++low n v,0):=by
 intro n
 induction n with
 |zero=>
  intro acc k h1 h2 h3;obtain⟨k,rfl⟩:∃m,k=m+1:=⟨k - 1,by omega⟩;rw[gamma_Bits.l0,if_neg (by omega)];simp[low]
 |succ n ih=>
  intro acc k h1 h2 h3;obtain⟨k,rfl⟩:∃m,k=m+1:=⟨k - 1,by omega⟩;have e:(((n+1:Nat):Int) - 1)=(n:Int):=by omega
  have hw:wrap64 ((n:Int) - 1)=(n:Int) - 1:=by unfold wrap64;omega
  rw[e,gamma_Bits.l0,if_pos (by omega),if_pos (by omega),if_pos (by omega),shr_bit v n (by omega),hw];rw[ih _ k (by omega) (by omega) (by rw[List.length_append,List.length_singleton];omega),List.append_assoc]
  first|done|rfl
theorem bits_f(u:Nat)(h:u≤33554432):gamma_Bits.f 100 (u:Int)=some (gb u,0):=by
 obtain⟨h1,h2,h3⟩:=len_spec u h;have hl:=len_le u h;unfold gamma_Bits.f;rw[if_neg (by omega),df_ (by omega),gamma_Bits.j0,if_neg (by decide)];have w1:wrap64 ((u:Int)+1)=((u+1:Nat):Int):=by unfold wrap64;omega
 have w2:IntKind.u64.wrap ((u+1:Nat):Int)=((u+1:Nat):Int):=by rw[IntKind.wrap_u64];omega
 rw[w1,w2];unfold bits_Len.f;rw[if_pos (by omega),bs_,nC_,h3];have w3:wrap64 ((len u:Int)+1 - 1)=(len u:Int):=by unfold wrap64;omega
 have w4:wrap64 ((len u:Int) - 1)=(len u:Int) - 1:=by unfold wrap64;omega
 rw[w3,w4];unfold slices_Repeat.f;rw[if_pos ⟨rfl,by omega,by omega⟩,bs_,nC_];have hr:(List.replicate (len u) (rd [1] 0)).length=len u:=List.length_replicate;rw[if_pos (by rw[hr];omega),bits_l0 (u+1) (len u) _ 99 (by omega) (by omega) (by rw[List.length_append,hr];simp;omega)];unfold gb;rw[List.append_assoc];rfl
theorem gb_ok(u:Nat)(n:Nat):((gb u).take n).any ctxOdd=false:=by
 rw[List.any_eq_false];intro x hx
 rcases gb_bit u x (List.mem_of_mem_take hx) with rfl|rfl<;>decide
theorem ones_gb(n:Nat)(r:List Int):onesL (List.replicate n 1++0::r)=n:=by
 induction n with
 |zero=>exact onesL_not (by decide)
 |succ n ih=>
  rw[List.replicate_succ,List.cons_append,onesL_one rfl,ih]
theorem onesL_gb(u:Nat):onesL (gb u)=len u:=ones_gb _ _
end Gm
def foldN(x:Int):Nat:=if x<0 then(-2*x - 1).toNat else(2*x).toNat
theorem foldN_le{x:Int}(h: -16777216≤x∧x≤16777216):foldN x≤33554432:=by unfold foldN;split<;>omega
theorem fold_f{x:Int}(h: -16777216≤x∧x≤16777216):fold_Put.f x=some ((foldN x:Int),0):=by
 have h1:fold_Number.f x=some true:=by
  unfold fold_Number.f;rw[if_pos h.1,dt_ h.2]
 unfold fold_Put.f foldN;rw[h1,bs_,if_pos rfl]
 by_cases hx:x<0
 ·have w:wrap64 (wrap64 (-2*x) - 1)=((-2*x - 1).toNat:Int):=by unfold wrap64;omega
  rw[if_pos hx,if_pos hx,w]
 ·have w:wrap64 (2*x)=((2*x).toNat:Int):=by unfold wrap64;omega
  rw[if_neg hx,if_neg hx,w]
theorem foldPut_calls(x:Int)(w:World)(h: -16777216≤x∧x≤16777216):Calls Tryz.prog 74 #[.int .i64 x] w fun e w'=>e= .returned (.tuple #[.int .i64 (foldN x),.int .i64 0])∧∃n,w'=w.drewN n:=
 (fold_Put.calls x _ _ w (fold_f h)).mono fun e w' hh=>⟨hh.1,hh.2.out⟩
structure WS where
 m:List Int
 l:List Int
 lo:Int
 hi:Int
 out:ByteArray
def WS.p(before:Nat)(s:WS):Int:=mP s.m (cx0 s.l) (cx1 before s.l) (cx2 s.l)
def WS.bit(before:Nat)(s:WS)(b:Int):WS:=
 ⟨mLearn s.m (cx0 s.l) (cx1 before s.l) (cx2 s.l) b,s.l++ [b],(Cd.bit s.lo s.hi s.out b (s.p before)).1,(Cd.bit s.lo s.hi s.out b (s.p before)).2.1,(Cd.bit s.lo s.hi s.out b (s.p before)).2.2.1⟩
def WS.ends(s:WS):Prop:=0≤s.lo∧s.hi≤4294967295∧s.lo / 16777216<s.hi / 16777216
def WS.ok(s:WS):Prop:=MOk s.m∧s.ends
theorem WS.may{s:WS}(h:s.ends)(ho:s.out.size≤65536):Cd.may s.lo s.hi s.out=true:=dt_ ⟨h.1,h.2.1,h.2.2,ho⟩
theorem WS.bit_ok{s:WS}{before:Nat}{b:Int}(h:s.ok)(hb:b=0∨b=1)(ho:s.out.size+4≤65536):
  (s.bit before b).ok∧(s.bit before b).out.size≤s.out.size+4∧Cd.bit s.lo s.hi s.out b (s.p before)=((s.bit before b).lo,(s.bit before b).hi,(s.bit before b).out,0):=by
 have hp:=mP_bd s.m (cx0 s.l) (cx1 before s.l) (cx2 s.l);obtain⟨lo',hi',t,q1,q2,q3,-⟩:=Dd.bits s.lo s.hi s.out (s.p before) (WS.may h.2 (by omega)) hp.1 hp.2 ho ⟨#[]⟩ (by decide) b hb;have hm:=od_ q3;have hs:(s.out++t).size≤s.out.size+4:=by rw[ByteArray.size_append];omega
 unfold WS.bit;rw[q1];exact⟨⟨mLearn_ok h.1 (cx0_lt _) (cx1_lt _ _) (cx2_lt _),hm.1,hm.2.1,hm.2.2.1⟩,hs,rfl⟩
def WS.bits(before:Nat):WS→List Int→WS
 |s,[]=>s
 |s,b::r=>WS.bits before (s.bit before b) r
theorem WS.bits_l(before:Nat)(r:List Int):∀s:WS,(WS.bits before s r).l=s.l++r:=by
 induction r with
 |nil=>intro s;exact(List.append_nil _).symm
 |cons b r ih=>intro s;rw[WS.bits,ih];show s.l++ [b]++r=_;rw[List.append_assoc];rfl
theorem WS.bits_ok(before:Nat)(r:List Int):∀s:WS,s.ok→(∀x∈r,x=0∨x=1)→s.out.size+4*r.length≤65536→(WS.bits before s r).ok∧(WS.bits before s r).out.size≤s.out.size+4*r.length:=by
 induction r with
 |nil=>intro s h _ _;exact⟨h,Nat.le_refl _⟩
 |cons b r ih=>
  intro s h hb ho;rw[List.length_cons] at ho ⊢;obtain⟨h1,h2,-⟩:=WS.bit_ok (before:=before) h (hb b List.mem_cons_self) (by omega);obtain⟨h3,h4⟩:=ih _ h1 (fun x hx=>hb x (List.mem_cons_of_mem _ hx)) (by omega);exact⟨h3,by show(WS.bits before (s.bit before b) r).out.size≤_;omega⟩
structure WN where
 m:List Int
 before:Nat
 lo:Int
 hi:Int
 out:ByteArray
def WN.ws(s:WN):WS:=⟨s.m,[],s.lo,s.hi,s.out⟩
def WN.num(s:WN)(x:Int):WN:=
 ⟨(WS.bits s.before s.ws (Gm.gb (foldN x))).m,Gm.len (foldN x),(WS.bits s.before s.ws (Gm.gb (foldN x))).lo,(WS.bits s.before s.ws (Gm.gb (foldN x))).hi,(WS.bits s.before s.ws (Gm.gb (foldN x))).out⟩
def WN.nums:WN→List Int→WN
 |s,[]=>s
 |s,x::r=>WN.nums (s.num x) r
def WN.ok(s:WN):Prop:=s.ws.ok∧s.before≤25
def numOk(x:Int):Prop:= -16777216≤x∧x≤16777216
theorem WN.num_ok{s:WN}{x:Int}(h:s.ok)(hx:numOk x)(ho:s.out.size+204≤65536):(s.num x).ok∧(s.num x).out.size≤s.out.size+204:=by
 have hl:=Gm.len_le _ (foldN_le hx);have hg:=Gm.gb_len (foldN x);obtain⟨h1,h2⟩:=WS.bits_ok s.before (Gm.gb (foldN x)) s.ws h.1 (Gm.gb_bit _) (by show s.out.size+_≤_;omega);refine⟨⟨h1,hl⟩,?_⟩;have h3:(WS.bits s.before s.ws (Gm.gb (foldN x))).out.size≤s.out.size+4*(Gm.gb (foldN x)).length:=h2;show(WS.bits s.before s.ws (Gm.gb (foldN x))).out.size≤_;omega
theorem WN.nums_ok(r:List Int):∀s:WN,s.ok→(∀x∈r,numOk x)→s.out.size+204*r.length≤65536→(s.nums r).ok∧(s.nums r).out.size≤s.out.size+204*r.length:=by
 induction r with
 |nil=>intro s h _ _;exact⟨h,Nat.le_refl _⟩
 |cons x r ih=>
  intro s h hb ho;rw[List.length_cons] at ho ⊢;obtain⟨h1,h2⟩:=WN.num_ok h (hb x List.mem_cons_self) (by omega);obtain⟨h3,h4⟩:=ih _ h1 (fun x hx=>hb x (List.mem_cons_of_mem _ hx)) (by omega);exact⟨h3,by show(WN.nums (s.num x) r).out.size≤_;omega⟩
def WN.new:WN:=⟨mNew,0,0,4294967295,⟨#[]⟩⟩
theorem WN.new_ok:WN.new.ok:=⟨⟨mNew_ok,by show(0:Int)≤0;decide,by show(4294967295:Int)≤4294967295;decide,by show(0:Int) / 16777216<4294967295 / 16777216;decide⟩,by decide⟩
def resPut(rs:List Int):ByteArray:=(WN.new.nums rs).out++strOfNums (Cd.four (WN.new.nums rs).lo)
structure WAx(w0:World)(g gx:Nat)(o:Option Obj)(before:Nat)(s:WS)(w:World):Prop where
 out:∃v,w.heap[g]?=some (.cells (stc s.m before v [.int .i64 s.lo,.int .i64 s.hi,.string s.out]).toArray 91 (0,0))∧Kd.R (Kd.int .i64) 3 w w0.heap.size (fun k=>k≠g∧k≠gx) v s.l∧Below w0.heap.size w0 w∧Fr gx g o w
def WAt(w0:World)(g before:Nat)(s:WS)(w:World):Prop:=WAx w0 g g none before s w
theorem WAx.below{w0:World}{g gx:Nat}{o:Option Obj}{before:Nat}{s:WS}{w w':World}(h:WAx w0 g gx o before s w)(hb:Below w.heap.size w w'):WAx w0 g gx o before s w':=by
 obtain⟨v,h1,h2,h3,h4⟩:=h.out;exact⟨v,blk_below h1 hb,Kd.R_below h2 hb,below_step h3 hb,h4.below hb⟩
theorem WAt.below{w0:World}{g before:Nat}{s:WS}{w w':World}(h:WAt w0 g before s w)(hb:Below w.heap.size w w'):WAt w0 g before s w':=WAx.below h hb
theorem WAt.keep{w0:World}{g before:Nat}{s:WS}{w w':World}(h:WAt w0 g before s w)(hb:Below w.heap.size w w'){gx:Nat}(h0:w.heap.size≤gx)(h1:gx<w'.heap.size):WAx w0 g gx w'.heap[gx]? before s w':=by
 obtain⟨v,q1,q2,q3,_⟩:=h.out;exact⟨v,blk_below q1 hb,Kd.R_mono (Kd.R_below (Kd.R_elderB q2 gx h0) hb) (fun k hk=>⟨hk.1.1,hk.2⟩),below_step q3 hb,⟨h1,fun _=>rfl⟩⟩
theorem WAx.leave{w0:World}{g gx:Nat}{o:Option Obj}{before:Nat}{s:WS}{w:World}(h:WAx w0 g gx o before s w):WAt w0 g before s w:=by
 obtain⟨v,q1,q2,q3,_⟩:=h.out;exact⟨v,q1,Kd.R_mono q2 (fun k hk=>⟨hk.1,hk.1⟩),q3,⟨blk_lt q1,fun hn=>absurd rfl hn⟩⟩
theorem wsbit_calls(w0:World)(g gx:Nat)(o:Option Obj)(before:Nat)(s:WS)(b:Int)(w:World)(hT:Tabs w0)(h:s.ok)(hb0:before≤63)(hl:s.l.length≤63)(hbits:s.l.any ctxOdd=false)(hb:b=0∨b=1)(ho:s.out.size+4≤65536)(hg0:w0.heap.size≤g)(ha:WAx w0 g gx o before s w):
  Calls Tryz.prog 76 #[.pointer (some ⟨g,0,none⟩),.int .i64 b] w fun e w'=>e= .returned (.int .i64 0)∧WAx w0 g gx o before (s.bit before b) w':=by
 obtain⟨v,h1,h2,h3,h4⟩:=ha.out;obtain⟨k1,k2,k3⟩:=WS.bit_ok (before:=before) h hb ho;refine(wbit_calls w0 g gx s.m before v s.l s.lo s.hi s.out b _ _ _ w hT h.1 hb0 hl hbits hb (WS.may h.2 (by omega)) k3 h1 h2 h4.lt hg0 h3).mono ?_;rintro e w' ⟨rfl,hp⟩;obtain⟨v',q1,q2,q3,q4⟩:=hp.out;exact⟨rfl,⟨v',q1,q2,q3,⟨q4.lt,fun hn=>(q4.eq hn).trans (h4.eq hn)⟩⟩⟩
theorem wsnext_calls(w0:World)(g gx:Nat)(o:Option Obj)(before:Nat)(s:WS)(w:World)(hm:s.m.length=195)(hl:s.l.length≤100)(hg0:w0.heap.size≤g)(ha:WAx w0 g gx o before s w):
  Calls Tryz.prog 77 #[.pointer (some ⟨g,0,none⟩)] w fun e w'=>e= .returned (.tuple #[])∧WAt w0 g (onesL s.l) ⟨s.m,[],s.lo,s.hi,s.out⟩ w':=by
 obtain⟨v,h1,h2,h3,h4⟩:=ha.out;refine(stNext_calls w0 g gx 91 s.m before v s.l _ w hm hl h1 h2 h4.lt hg0 h3).mono ?_;rintro e w' ⟨rfl,hp⟩;obtain⟨v',q1,q2,q3,q4⟩:=hp.out;exact⟨rfl,WAx.leave (gx:=gx) (o:=o) ⟨v',q1,q2,q3,⟨q4.lt,fun hn=>(q4.eq hn).trans (h4.eq hn)⟩⟩⟩
theorem row_there{w w1:World}{base gB n c:Nat}{xs:List Int}(h:Kd.R (Kd.int .i64) 3 w base (fun _=>True) (.slice (some ⟨gB,0,none⟩) n c) xs)(he:w1.heap[gB]?=w.heap[gB]?):Kd.C (Kd.int .i64) w1 (some ⟨gB,0,none⟩) xs.length xs∧xs.length=n∧n≤c:=by
 have h1:Kd.R (Kd.int .i64) 3 w base (fun k=>k=gB) (.slice (some ⟨gB,0,none⟩) n c) xs:=⟨fun k hk=>by simpa [Value.ownBlock,eq_comm] using hk,h.2⟩;obtain⟨A,c',e,hl,hc⟩:=Kd.R_reads (Kd.R_move h1 (w1:=w1) (fun k hk=>by rw[hk];exact he));injection e with e1 e2 e3
 subst e1 e2 e3;exact⟨hc,rfl,hl⟩
theorem gammaBits_calls(u:Nat)(w:World)(h:u≤33554432):Calls Tryz.prog 75 #[.int .i64 u] w fun e w'=>∃eB:Value,e= .returned (.tuple #[eB,.int .i64 0])∧Kd.R (Kd.int .i64) 3 w' w.heap.size (fun _=>True) eB (Gm.gb u)∧Below w.heap.size w w':=
 gamma_Bits.calls 100 u _ _ w (Gm.bits_f u h)
theorem bits_take(before:Nat)(s:WS)(r:List Int):∀i,i<r.length→WS.bits before s (r.take (i+1))=(WS.bits before s (r.take i)).bit before (r.getD i 0):=by
 induction r generalizing s with
 |nil=>intro i hi;exact absurd hi (by simp)
 |cons b r ih=>
  intro i hi
  cases i with
  |zero=>rfl
  |succ i=>
   rw[List.take_succ_cons,List.take_succ_cons,WS.bits,WS.bits,ih (s.bit before b) i (by simpa using hi)];rfl
theorem wnum_calls(w0:World)(g:Nat)(s:WN)(x:Int)(w:World)(hT:Tabs w0)(h:s.ok)(hx:numOk x)(ho:s.out.size+204≤65536)(hg0:w0.heap.size≤g)(ha:WAt w0 g s.before s.ws w):
  Calls Tryz.prog 40 #[.pointer (some ⟨g,0,none⟩),.int .i64 x] w fun e w'=>e= .returned (.bool true)∧WAt w0 g (s.num x).before (s.num x).ws w':=by
 have hgl:=Gm.gb_len (foldN x);have hle:=Gm.len_le _ (foldN_le hx);have T0:=Z_ hT;have HO:=Z_ h;have HX:=Z_ hx;have HA:=Z_ ha;have GB:=Z_ (Gm.gb_bit (foldN x));have GO:=Z_ (Gm.gb_ok (foldN x));have RES:Aside0 (∀w',WAt w0 g (Gm.len (foldN x)) ⟨(WS.bits s.before s.ws (Gm.gb (foldN x))).m,[],(WS.bits s.before s.ws (Gm.gb (foldN x))).lo,(WS.bits s.before s.ws (Gm.gb (foldN x))).hi,(WS.bits s.before s.ws (Gm.gb (foldN x))).out⟩ w'→WAt w0 g (s.num x).before (s.num x).ws w'):=⟨fun _ h=>h⟩;have ON:=Z_ (Gm.onesL_gb (foldN x));have BC:=Z_ (gammaBits_calls (foldN x));have FL:=foldN_le hx;obtain⟨bs,hbs⟩:∃l,Gm.gb (foldN x)=l:=⟨_,rfl⟩;rw[hbs] at hgl GB GO RES ON;have HBS:=Lib.hid hbs;obtain⟨n,hn⟩:∃n,Gm.len (foldN x)=n:=⟨_,rfl⟩;rw[hn] at hgl hle RES ON;clear hT h hx ha hbs hn
 go_enter Tryz.func40,Tryz.ntmps40
 go_wp2_with fail
 refine(foldPut_calls x _ HX.out).mono ?_;rintro e w1 ⟨rfl,⟨nd,rfl⟩⟩;replace HA:=Z_ (HA.out.below (pw_below_drewN (Below.refl _ _) nd));generalize World.drewN _ _=w1 at HA ⊢
 go_wp2_with fail
 refine(BC.out _ FL).mono ?_;rintro e w2 ⟨v,rfl,hr,hb⟩;rw[HBS.out] at hr;have VH:0<bs.length:=by omega
 rcases (Kd.own_of_R hr).2 with ⟨_,hz⟩|⟨gB,cap,cur,rfl,hge,hheap,-⟩
 ·exact absurd hz (by omega)
 have hgB:gB<w2.heap.size:=blk_lt hheap;have HA2:=Z_ (WAt.keep HA.out hb hge hgB)
 have hgg:gB≠g:=by
  obtain⟨_,q1,_⟩:=HA.out.out;have:=blk_lt q1;omega
 have HRR:=Z_ hr;clear HA hr hb hheap FL BC HBS;have HG:=Z_ hgg;clear hgg;go_wp2
 go_loopg [25] bs.length (fun d v25 wr=>∃i:Nat,v25= .int .i64 i∧i+d=bs.length∧Aside0 (WAx w0 g gB w2.heap[gB]? s.before (WS.bits s.before s.ws (bs.take i)) wr))
 case atStart=>exact⟨0,rfl,by omega,⟨HA2.out⟩⟩
 case round=>
  clear HA2;obtain⟨i,rfl,hi,HA⟩:=hrel;obtain⟨w3,hw3⟩:∃x,x=wr:=⟨_,rfl⟩
  cases gk with
  |zero=>
   obtain rfl:i=bs.length:=by omega
   have e1:bs.take bs.length=bs:=List.take_of_length_le (Nat.le_refl _);rw[e1] at HA;have hend:=(WS.bits_ok s.before bs s.ws HO.out.1 GB.out (by show s.out.size+_≤_;omega)).1;have hll:(WS.bits s.before s.ws bs).l=bs:=(WS.bits_l s.before bs s.ws).trans (List.nil_append _);have HLL:=Lib.hid hll;have HEND:=Z_ hend;clear e1 hll hend hw3
   go_wp2_with fail
   refine(wsnext_calls w0 g gB _ s.before _ _ HEND.out.1.1 (by rw[HLL.out];omega) hg0 HA.out).mono ?_;rintro e w4 ⟨rfl,ha⟩;rw[HLL.out,ON.out] at ha;have HF:=Z_ (RES.out _ ha);clear ha;go_wp2;go_ret;exact⟨rfl,HF.out⟩
  |succ d=>
   have hlt:i<bs.length:=by omega
   have hlt':(i:Int)<bs.length:=by omega
   have hi0:(0:Int)≤i:=by omega
   obtain⟨_,_,_,_,hfr⟩:=HA.out.out;obtain⟨hC,-,hcap⟩:=row_there HRR.out (hfr.eq HG.out);obtain⟨ad,e_,hx_⟩:=Kd.at_int hC (i:Int) hi0 hlt'
   cases e_
   rw[nC_,add_plain] at hx_;have hrd:rd bs (i:Int)=bs.getD i 0:=by unfold rd;rw[nC_]
   rw[hrd] at hx_;have hbx:bs.getD i 0=0∨bs.getD i 0=1:=GB.out _ (by rw[gD_,gE_ hlt];exact List.getElem_mem _);have hst:=bits_take s.before s.ws bs i hlt;have hok:=WS.bits_ok s.before (bs.take i) s.ws HO.out.1 (fun x hx=>GB.out x (List.mem_of_mem_take hx)) (by rw[List.length_take];show s.out.size+_≤_;omega);have hll:(WS.bits s.before s.ws (bs.take i)).l=bs.take i:=(WS.bits_l s.before _ s.ws).trans (List.nil_append _)
   have hsz:(WS.bits s.before s.ws (bs.take i)).out.size+4≤65536:=by
    have h1:=hok.2;rw[List.length_take] at h1;have h2:(WS.bits s.before s.ws (bs.take i)).out.size≤s.out.size+4*min i bs.length:=h1;omega
   obtain⟨y,hy⟩:∃y,bs.getD i 0=y:=⟨_,rfl⟩;rw[hy] at hx_ hbx hst;have hod:=GO.out i;have CALL:=Lib.hid (fun W (ha:WAx w0 g gB w2.heap[gB]? s.before (WS.bits s.before s.ws (bs.take i)) W)=>wsbit_calls w0 g gB _ s.before _ y W T0.out hok.1 (by have:=HO.out.2;omega) (by rw[hll,List.length_take];omega) (by rw[hll];exact hod) hbx hsz hg0 ha);have HST:=Lib.hid hst;clear hfr hC hrd hbx hst hok hll hsz hy hod hw3
   go_wp2_with fail
   refine(CALL.out _ HA.out).mono ?_;rintro e w4 ⟨rfl,ha⟩;have EX:=Z_ ha;clear ha hx_ HA;go_wp2
   go_roundg d
   case measure=>omega
   case rel=>exact⟨i+1,by go_num,by omega,⟨by rw[HST.out];exact EX.out⟩⟩
end Go.Proofs.YtfghldonnffldaaGreatDoor
namespace Go.Proofs.YtfghldonnffldaaGreatDoor
open Go.RowKit YtfghldonnffldaaGreatDoorW.PrintWords YtfghldonnffldaaGreatDoorW.PrintLast YtfghldonnffldaaGreatDoorW.PrintMore TBase
theorem bld86:List.foldl (fun(cs:Array Value) (x:Value×Nat)=>cs.setIfInBounds x.snd x.fst) Tryz.zeroCells86 (ints mNew).zipIdx=(stc mNew 0 (.slice none 0 0) []).toArray:=by kernel_rfl
theorem bld91:((((List.foldl (fun(cs:Array Value) (x:Value×Nat)=>cs.setIfInBounds x.snd x.fst) Tryz.zeroCells91 (stc mNew 0 (Value.slice none 0 0) []).zipIdx).setIfInBounds 197 (Value.int IntKind.i64 0)).setIfInBounds 198 (Value.int IntKind.i64 4294967295)).setIfInBounds 199 (Value.string { data:= #[] }))=(stc mNew 0 (.slice none 0 0) [.int .i64 0,.int .i64 4294967295,.string ⟨#[]⟩]).toArray:=by kernel_rfl
theorem nums_take(r:List Int):∀(s:WN) (i:Nat),i<r.length→s.nums (r.take (i+1))=(s.nums (r.take i)).num (r.getD i 0):=by
 induction r with
 |nil=>intro s i hi;exact absurd hi (by simp)
 |cons b r ih=>
  intro s i hi
  cases i with
  |zero=>rfl
  |succ i=>
   rw[List.take_succ_cons,List.take_succ_cons,WN.nums,WN.nums,ih (s.num b) i (by simpa using hi)];rfl
theorem coderEnd_f(lo hi:Int)(out:ByteArray)(h:Cd.may lo hi out=true):coder_End.f lo hi out=some (out++strOfNums (Cd.four lo),0):=by
 unfold coder_End.f;rw[may_some,h,bs_,if_pos rfl,bs_,strOfNums_size];have:=od_ h;rw[if_pos (by show out.size+4≤_;omega)];have e:lo%256=lo%256:=rfl;rfl
theorem resPut_calls(A0:Option Addr)(c0:Nat)(rs:List Int)(w:World)(hT:Tabs w)(hr0:Kd.C (Kd.int .i64) w A0 rs.length rs)(hl:rs.length≤256)(hx:∀x∈rs,numOk x):
  Calls Tryz.prog 17 #[.slice A0 rs.length c0] w fun e w'=>e= .returned (.tuple #[.string (resPut rs),.int .i64 0])∧Below w.heap.size w w':=by
 have T0:=Z_ hT;have cO:=Z_ hr0;have HX:=Z_ hx;have QT:=Tryz.underlying86;have VI:=Tryz.underlying91;have wX:=Tryz.underlying88;have hl':¬(256:Int)<rs.length:=by omega
 clear hT hr0 hx
 go_enter Tryz.func17,Tryz.ntmps17
 go_wp2_with fail
 refine(modNew_calls _).mono ?_;rintro e w1 ⟨rfl,hb⟩;have YW:=Z_ hb;clear hb
 go_wp2_with fail
 rw[bld86];refine(coder_New.calls 0 4294967295 ⟨#[]⟩ _ rfl).mono ?_;rintro e w2 ⟨rfl,hb⟩;have vP:=Z_ (below_step YW.out hb);clear YW hb
 go_wp2_with ((with_reducible refine gate_dst (N:=17) rfl ?_);rw[bld91];refine box_event ?hg (N:=17) ?hd (cs:=(stc mNew 0 (.slice none 0 0) [.int .i64 0,.int .i64 4294967295,.string ⟨#[]⟩]).toArray) (t:=91) ?hr ?_;(case hd=>rfl);(case hg=>rfl);(case hr=>first|(go_simp;done)|(go_simp;rfl));intro g hg w3 hbox hb;have DL:Aside0 (w.heap.size≤g):=⟨by rw[hg];exact below_size vP.out⟩;have YW:=Z_ (below_step vP.out hb);have YG:=Z_ hbox;clear hbox hb hg vP)
 have hg0:=DL.out;have HA:Aside0 (WAt w g 0 WN.new.ws w3):=⟨⟨.slice none 0 0,YG.out,Kd.R_nil _ _ _ _ _,YW.out,⟨blk_lt YG.out,fun hn=>absurd rfl hn⟩⟩⟩;clear YG YW DL
 go_loopg [22] rs.length (fun d v22 wr=>∃i:Nat,v22= .int .i64 i∧i+d=rs.length∧Aside0 (WAt w g (WN.new.nums (rs.take i)).before (WN.new.nums (rs.take i)).ws wr))
 case atStart=>exact⟨0,rfl,by omega,HA⟩
 case round=>
  clear HA;obtain⟨i,rfl,hi,HA⟩:=hrel
  cases gk with
  |zero=>
   obtain rfl:i=rs.length:=by omega
   rw[List.take_of_length_le (Nat.le_refl _)] at HA;have hok:=WN.nums_ok rs WN.new WN.new_ok HX.out (by show 0+_≤_;omega);have hend:=coderEnd_f _ _ _ (WS.may hok.1.1.2 (by have:=hok.2;have h0:WN.new.out.size=0:=rfl;rw[h0] at this;show(WN.new.nums rs).out.size≤_;omega));have RES:Hid (resPut rs=(WN.new.nums rs).out++strOfNums (Cd.four (WN.new.nums rs).lo)):=rfl;have HEND:=Lib.hid hend;have HM:=Z_ hok.1.1.1;obtain⟨v,YG,_,YW,_⟩:=HA.out.out;replace YG:=Z_ YG;replace YW:=Z_ YW;clear hok hend HA;show Code.wp _ _ _ _ _;generalize (WN.new.nums rs).before=bf at YG;obtain⟨s,hs⟩:∃s,WN.new.nums rs=s:=⟨_,rfl⟩;rw[hs] at HEND RES YG HM;clear hs;have VJ:Aside0 (s.m.length=195):=⟨HM.out.1⟩;replace YG:Aside0 (wr.heap[g]?=some (.cells (stc s.m bf v [.int .i64 s.lo,.int .i64 s.hi,.string s.out]).toArray 91 (0,0))):=YG
   go_wp2_with (first|((with_reducible refine gate_dst (N:=35) rfl ?_);refine wpList_load_mid rfl 88 _ rfl g 197 rfl [.int .i64 s.lo,.int .i64 s.hi,.string s.out] _ (range_str YG.out VJ.out) Tryz.underlying88 rfl (by kernel_rfl) ?_)|(go_at_call 41;refine(coder_End.calls _ _ _ _ _ _ HEND.out).mono ?_;rintro e w4 ⟨rfl,hb⟩;have YF:=Z_ (below_step YW.out hb);clear hb))
   go_ret2;exact⟨by rw[RES.out];rfl,YF.out⟩
  |succ d=>
   have hlt:i<rs.length:=by omega
   have hlt':(i:Int)<rs.length:=by omega
   have hi0:(0:Int)≤i:=by omega
   obtain⟨_,_,_,hbel,_⟩:=HA.out.out;obtain⟨ad,e_,hx_⟩:=Kd.at_int (Kd.C_below cO.out hbel) (i:Int) hi0 hlt'
   cases e_
   rw[nC_] at hx_;have hrd:rd rs (i:Int)=rs.getD i 0:=by unfold rd;rw[nC_]
   rw[hrd] at hx_;have hst:=nums_take rs WN.new i hlt;have hxx:numOk (rs.getD i 0):=HX.out _ (by rw[gD_,gE_ hlt];exact List.getElem_mem _);have hok:=WN.nums_ok (rs.take i) WN.new WN.new_ok (fun x hx=>HX.out x (List.mem_of_mem_take hx)) (by rw[List.length_take];show 0+_≤_;omega);obtain⟨y,hy⟩:∃y,rs.getD i 0=y:=⟨_,rfl⟩;rw[hy] at hx_ hst hxx
   have hsz:(WN.new.nums (rs.take i)).out.size+204≤65536:=by
    have h1:=hok.2;rw[List.length_take] at h1;have h0:WN.new.out.size=0:=rfl;omega
   have HST:=Lib.hid hst;obtain⟨s,hs⟩:∃s,WN.new.nums (rs.take i)=s:=⟨_,rfl⟩;rw[hs] at HA HST hsz hok;have CALL:=Lib.hid (wnum_calls w g s y wr T0.out hok.1 hxx hsz hg0 HA.out);clear hbel hrd hst hxx hok hy hsz hs HA
   go_wp2_with fail
   refine CALL.out.mono ?_;rintro e w4 ⟨rfl,ha⟩;have EX:=Z_ ha;clear ha hx_ CALL;go_wp2
   go_roundg d
   case measure=>omega
   case rel=>exact⟨i+1,by go_num,by omega,⟨by rw[HST.out];exact EX.out⟩⟩
def WS.good(s:ByteArray)(t:WS):Prop:=Dd.Has s 0 t.out∧t.lo≤Dd.val s t.out.size∧Dd.val s t.out.size≤t.hi
theorem WS.good_back{s:ByteArray}{t:WS}{before:Nat}{b:Int}(h:t.ok)(hb:b=0∨b=1)(ho:t.out.size+4≤65536)(hs:s.size≤65536)(g:WS.good s (t.bit before b)):
  WS.good s t∧Dd.bit t.lo t.hi (Dd.val s t.out.size) s ((t.out.size:Int)+4) (t.p before)=((t.bit before b).lo,(t.bit before b).hi,Dd.val s (t.bit before b).out.size,s,((t.bit before b).out.size:Int)+4,b,0):=by
 have hp:=mP_bd t.m (cx0 t.l) (cx1 before t.l) (cx2 t.l);obtain⟨lo',hi',u,q1,q2,q3,q4,-⟩:=Dd.bits t.lo t.hi t.out (t.p before) (WS.may h.2 (by omega)) hp.1 hp.2 ho s hs b hb;have e1:(t.bit before b).lo=lo':=by show(Cd.bit t.lo t.hi t.out b (t.p before)).1=lo';rw[q1]
 have e2:(t.bit before b).hi=hi':=by show(Cd.bit t.lo t.hi t.out b (t.p before)).2.1=hi';rw[q1]
 have e3:(t.bit before b).out=t.out++u:=by show(Cd.bit t.lo t.hi t.out b (t.p before)).2.2.1=t.out++u;rw[q1]
 obtain⟨g1,g2,g3⟩:=g;rw[e1,e3] at g2;rw[e2,e3] at g3;rw[e3] at g1;rw[e1,e2,e3];have gr:=g1.right;rw[Int.zero_add] at gr;obtain⟨k1,k2,k3⟩:=q4 gr g2 g3;exact⟨⟨g1.left,k1,k2⟩,k3⟩
theorem WS.good_bits{s:ByteArray}(before:Nat)(hs:s.size≤65536)(r:List Int):∀t:WS,t.ok→(∀x∈r,x=0∨x=1)→t.out.size+4*r.length≤65536→WS.good s (WS.bits before t r)→∀i,i≤r.length→WS.good s (WS.bits before t (r.take i)):=by
 induction r with
 |nil=>intro t _ _ _ g i _;rw[List.take_nil];exact g
 |cons b r ih=>
  intro t h hb ho g i hi;rw[List.length_cons] at ho hi;have hb0:=hb b List.mem_cons_self;obtain⟨h1,h2,-⟩:=WS.bit_ok (before:=before) h hb0 (by omega);have hall:=ih (t.bit before b) h1 (fun x hx=>hb x (List.mem_cons_of_mem _ hx)) (by omega) g
  cases i with
  |zero=>
   have g0:=hall 0 (Nat.zero_le _);exact(WS.good_back h hb0 (by omega) hs g0).1
  |succ i=>exact hall i (by omega)
theorem WN.good_nums{s:ByteArray}(hs:s.size≤65536)(r:List Int):∀t:WN,t.ok→(∀x∈r,numOk x)→t.out.size+204*r.length≤65536→WS.good s (t.nums r).ws→∀i,i≤r.length→WS.good s (t.nums (r.take i)).ws:=by
 induction r with
 |nil=>intro t _ _ _ g i _;rw[List.take_nil];exact g
 |cons x r ih=>
  intro t h hx ho g i hi;rw[List.length_cons] at ho hi;have hx0:=hx x List.mem_cons_self;obtain⟨h1,h2⟩:=WN.num_ok h hx0 (by omega);have hall:=ih (t.num x) h1 (fun y hy=>hx y (List.mem_cons_of_mem _ hy)) (by omega) g
  cases i with
  |zero=>
   have g0:=hall 0 (Nat.zero_le _);rw[List.take_zero] at g0;have hl:=Gm.len_le _ (foldN_le hx0);have hg:=Gm.gb_len (foldN x);have g1:WS.good s (WS.bits t.before t.ws (Gm.gb (foldN x))):=g0;exact WS.good_bits t.before hs (Gm.gb (foldN x)) t.ws h.1 (Gm.gb_bit _) (by show t.out.size+_≤_;omega) g1 0 (Nat.zero_le _)
  |succ i=>exact hall i (by omega)
theorem resPut_le(rs:List Int)(hl:rs.length≤256)(hx:∀x∈rs,numOk x):(resPut rs).size≤65536:=by
 have h:=(WN.nums_ok rs WN.new WN.new_ok hx (by show 0+_≤_;omega)).2;have h0:WN.new.out.size=0:=rfl;rw[h0] at h;unfold resPut;rw[ByteArray.size_append,strOfNums_size];have:(Cd.four (WN.new.nums rs).lo).length=4:=rfl;omega
theorem res_good(rs:List Int)(hl:rs.length≤256)(hx:∀x∈rs,numOk x):WS.good (resPut rs) (WN.new.nums rs).ws:=by
 have h:=(WN.nums_ok rs WN.new WN.new_ok hx (by show 0+_≤_;omega)).1.1.2;obtain⟨h1,h2,h3⟩:=h;have h1':0≤(WN.new.nums rs).lo:=h1;have h2':(WN.new.nums rs).hi≤4294967295:=h2;have h3':(WN.new.nums rs).lo / 16777216<(WN.new.nums rs).hi / 16777216:=h3
 have hv:Dd.val (resPut rs) (WN.new.nums rs).out.size=(WN.new.nums rs).lo:=by
  unfold resPut;rw[Dd.val_app,Dd.four_bytes _ h1' (by omega)]
 refine⟨Dd.Has.self _ _,?_,?_⟩
 ·show(WN.new.nums rs).lo≤Dd.val (resPut rs) (WN.new.nums rs).out.size;rw[hv];exact Int.le_refl _
 ·show Dd.val (resPut rs) (WN.new.nums rs).out.size≤(WN.new.nums rs).hi;rw[hv];omega
namespace Gm
theorem zero_gb(n:Nat)(r:List Int):zeroL (List.replicate n 1++0::r)=true:=by
 induction n with
 |zero=>rw[List.replicate_zero,List.nil_append,zeroL_not (by decide)];rfl
 |succ n ih=>rw[List.replicate_succ,List.cons_append,zeroL_one rfl,ih]
theorem ones_only(n:Nat):onesL (List.replicate n 1)=n∧zeroL (List.replicate n 1)=false:=by
 induction n with
 |zero=>exact⟨rfl,rfl⟩
 |succ n ih=>rw[List.replicate_succ,onesL_one rfl,zeroL_one rfl,ih.1];exact⟨rfl,ih.2⟩
theorem take_gb(u i:Nat)(hi:i≤(gb u).length):(onesL ((gb u).take i)≤len u)∧(zeroL ((gb u).take i)=true→onesL ((gb u).take i)=len u)∧(i=(gb u).length→zeroL ((gb u).take i)=true):=by
 have hg:=gb_len u
 rcases Nat.lt_or_ge (len u) i with h|h
 ·obtain⟨j,rfl⟩:∃j,i=len u+(j+1):=⟨i - len u - 1,by omega⟩
  have e:(gb u).take (len u+(j+1))=List.replicate (len u) 1++0::(low (len u) (u+1)).take j:=by
   unfold gb;rw[List.take_append,List.length_replicate,List.take_of_length_le (by rw[List.length_replicate];omega),show len u+(j+1) - len u=j+1 by omega,List.take_succ_cons]
  rw[e];have h1:=ones_gb (len u) ((low (len u) (u+1)).take j);exact⟨Nat.le_of_eq h1,fun _=>h1,fun _=>zero_gb _ _⟩
 ·have e:(gb u).take i=List.replicate i 1:=by
   unfold gb;rw[List.take_append,List.length_replicate,show i - len u=0 by omega,List.take_zero,List.append_nil,List.take_replicate,Nat.min_eq_left h]
  obtain⟨h1,h2⟩:=ones_only i;rw[e,h1,h2];exact⟨h,fun h=>absurd h (by decide),fun h=>by omega⟩
theorem whole_f(u i:Nat)(hu:u≤33554432)(hi:i≤(gb u).length):gamma_Whole.f (((gb u).take i).length+1) ((gb u).take i)=some (decide (i=(gb u).length)):=by
 obtain⟨h1,h2,h3⟩:=take_gb u i hi;have hg:=gb_len u;have hl:=len_le u hu;have hlen:((gb u).take i).length=i:=by rw[List.length_take];omega
 unfold gamma_Whole.f;rw[ones_f _ (by omega),bs_,hlen];dsimp only
 cases hz:zeroL ((gb u).take i) with
 |true=>
  have h4:=h2 hz;rw[if_pos rfl,h4];have w:wrap64 (wrap64 (2*(len u:Int))+1)=((gb u).length:Int):=by rw[hg];unfold wrap64;omega
  rw[w]
  congr 1
  by_cases he:i=(gb u).length
  ·rw[dt_ he,he];exact beq_self_eq_true _
  ·rw[df_ he];exact beq_false_of_ne (by omega)
 |false=>
  rw[if_neg (by decide)]
  by_cases he:i=(gb u).length
  ·rw[h3 he] at hz;exact absurd hz (by decide)
  ·rw[df_ he]
end Gm
theorem whole_calls(A0:Option Addr)(c0:Nat)(u i:Nat)(w:World)(hu:u≤33554432)(hi:i≤(Gm.gb u).length)(hr:Kd.C (Kd.int .i64) w A0 ((Gm.gb u).take i).length ((Gm.gb u).take i))(hc:((Gm.gb u).take i).length≤c0):
  Calls Tryz.prog 160 #[.slice A0 ((Gm.gb u).take i).length c0] w fun e w'=>e= .returned (.bool (decide (i=(Gm.gb u).length)))∧∃n,w'=w.drewN n:=
 (gamma_Whole.calls _ _ _ _ _ w hr hc (Gm.whole_f u i hu hi)).mono fun e w' hh=>⟨hh.1,hh.2.out⟩
theorem eq_same_l0(xs:List Int)(hx:xs.length≤4096):∀d i,i+d=xs.length→slices_Equal_int_int.l0 (d+1) xs xs (xs.length:Int) (i:Int)=some true:=by
 intro d
 induction d with
 |zero=>intro i hi;rw[slices_Equal_int_int.l0,if_neg (by omega)]
 |succ d ih=>
  intro i hi;have w:wrap64 ((i:Int)+1)=((i+1:Nat):Int):=by unfold wrap64;omega
  rw[slices_Equal_int_int.l0,if_pos (by omega),if_pos (by omega),if_pos (by omega),if_pos (by omega),if_pos rfl,w];exact ih (i+1) (by omega)
theorem eq_same_f(xs:List Int)(hx:xs.length≤4096):slices_Equal_int_int.f (xs.length+1) xs xs=some true:=by
 unfold slices_Equal_int_int.f;rw[if_pos rfl];exact eq_same_l0 xs hx xs.length 0 (by omega)
theorem Gm.low_get(v:Nat):∀n i,i<n→(Gm.low n v).getD i 0=((v / 2 ^ (n - 1 - i)%2:Nat):Int):=by
 intro n
 induction n with
 |zero=>intro i h;exact absurd h (Nat.not_lt_zero _)
 |succ n ih=>
  intro i h
  cases i with
  |zero=>rfl
  |succ i=>
   rw[Gm.low,List.getD_cons_succ,ih i (by omega)]
   congr 4
   omega
theorem gnum_step(v d:Nat)(hv:v≤33554433):Go.bits .or .i64 (wrap64 (((v / 2 ^ (d+1):Nat):Int)*2)) (Go.bits .and .i64 ((v / 2 ^ d%2:Nat):Int) 1)=((v / 2 ^ d:Nat):Int):=by
 have h1:=and_low ((v / 2 ^ d%2:Nat):Int) 1 (by omega);have e:((2 ^ 1 - 1:Nat):Int)=1:=rfl;rw[e] at h1;rw[h1];have hs:v / 2 ^ (d+1)=v / 2 ^ d / 2:=by rw[Nat.pow_succ,Nat.div_div_eq_div_mul]
 have hle:v / 2 ^ d≤v:=Nat.div_le_self _ _;rw[hs];generalize v / 2 ^ d=x at hle ⊢;have e1:wrap64 (((x / 2:Nat):Int)*2)=((2 ^ 1*(x / 2):Nat):Int):=by unfold wrap64;omega
 have e2:((x%2:Nat):Int)%((2 ^ 1:Nat):Int)=((x%2:Nat):Int):=by omega
 rw[e1,e2,or64 _ _ (by omega) (by omega),←Nat.two_pow_add_eq_or_of_lt (by omega)]
 congr 1
 omega
theorem gnum_calls(u:Nat)(A0:Option Addr)(c0:Nat)(w:World)(hu:u≤33554432)(hr0:Kd.C (Kd.int .i64) w A0 (Gm.gb u).length (Gm.gb u))(hc0:(Gm.gb u).length≤c0):
  Calls Tryz.prog 162 #[.slice A0 (Gm.gb u).length c0] w fun e w'=>e= .returned (.tuple #[.int .i64 (u:Int),.int .i64 0])∧Below w.heap.size w w':=by
 have hl:=Gm.len_le u hu;have hg:=Gm.gb_len u;obtain⟨s1,s2,-⟩:=Gm.len_spec u hu
 have hd:(Gm.gb u).drop (Gm.len u+1)=Gm.low (Gm.len u) (u+1):=by
  unfold Gm.gb;rw[List.drop_append,List.length_replicate,List.drop_of_length_le (by rw[List.length_replicate];omega),List.nil_append,show Gm.len u+1 - Gm.len u=1 by omega,List.drop_succ_cons,List.drop_zero]
 have o1:=Gm.onesL_gb u;have z1:zeroL (Gm.gb u)=true:=Gm.zero_gb _ _;have wh:=fun W=>whole_calls A0 c0 u (Gm.gb u).length W hu (Nat.le_refl _)
 rw[List.take_of_length_le (Nat.le_refl _),dt_ rfl] at wh;have bc:=fun W=>gammaBits_calls u W hu
 have lg:=Gm.low_get (u+1) (Gm.len u);have ll:=Gm.low_len (Gm.len u) (u+1);obtain⟨bs,hbs⟩:∃l,Gm.gb u=l:=⟨_,rfl⟩;obtain⟨n,hn⟩:∃n,Gm.len u=n:=⟨_,rfl⟩;rw[hbs,hn] at hd;rw[hbs] at hr0 hc0 o1 z1 wh bc hg ⊢;rw[hn] at hl hg s1 s2 o1 lg ll;obtain⟨L,hL⟩:∃L,Gm.low n (u+1)=L:=⟨_,rfl⟩;rw[hL] at hd lg ll;have eqf:=eq_same_f bs (by omega);obtain⟨m,hm⟩:∃m,n+1=m:=⟨_,rfl⟩;rw[hm] at hd;obtain⟨i,hi,-,hsz,-⟩:=info_parts info3;obtain⟨A1,hcut,hA,Tt⟩:=print_drop_of (P:=Tryz.prog) (Value.int .i64) 0 36 3 .i64 Tryz.underlying36 hi hsz A0 c0 bs (m:Int) (by omega) (by omega) hc0;rw[nC_,hd] at hcut hA Tt;have HL:=Z_ (Kd.C_of_reads (h1:=fun _=>rfl) (hA _ (Kd.reads_of_C hr0)));have hbl:bs.length≤9223372036854775806:=by omega
 have c2:(L.length:Int)=(n:Int):=by omega
 have c1:decide ((25:Int)<(n:Int))=false:=df_ (by omega);have w1:wrap64 ((n:Int)+1)=(m:Int):=by unfold wrap64;omega
 have w1w:IntKind.i64.wrap ((n:Int)+1)=(m:Int):=(i64_w _).trans w1;have cO:=Z_ hr0;have mY:=Z_ hc0;have WH:=Lib.hid wh;have BC:=Lib.hid bc;have EQ:=Lib.hid eqf;have LG:=Lib.hid lg
 have S1:Hid ((u+1) / 2 ^ n=1):=by
  show(u+1) / 2 ^ n=1;rw[Nat.pow_succ] at s2;exact Nat.div_eq_of_lt_le (by omega) (by omega)
 have S0:Hid (wrap64 (((((u+1) / 2 ^ 0:Nat)):Int) - 1)=(u:Int)):=by
  show _=_;rw[Nat.pow_zero,Nat.div_one];unfold wrap64;omega
 have O1:=Lib.hid o1;have Z1:=Lib.hid z1;have LL:=Lib.hid ll;clear hr0 hc0 wh bc eqf lg s1 s2 o1 z1 hA hd hi hsz ll hbs hn hL hg Tt
 go_enter Tryz.func162,Tryz.ntmps162
 go_wp2_with fail
 refine(ones_calls A0 c0 bs w cO.out mY.out hbl).mono ?_;rintro e Xm ⟨rfl,nd,rfl⟩;rw[O1.out,Z1.out]
 go_wp2_with fail
 refine(WH.out _ (Kd.C_drewN cO.out nd) mY.out).mono ?_;rintro e Xn ⟨rfl,lN,rfl⟩;have YW:=Z_ (pw_below_drewN (pw_below_drewN (Below.refl w.heap.size w) nd) lN);generalize World.drewN _ lN=wk_ at YW ⊢;go_wp2
 go_loopg [6,28] n (fun d v6 v28 wr=>∃i:Nat,v6= .int .i64 (((u+1) / 2 ^ d:Nat):Int)∧v28= .int .i64 (i:Int)∧i+d=n∧Aside0 (Below w.heap.size w wr))
 case atStart=>exact⟨0,by rw[S1.out];rfl,rfl,by omega,YW⟩
 case round=>
  clear YW;obtain⟨i,rfl,rfl,hi,YW⟩:=hrel
  cases gk with
  |zero=>
   obtain rfl:i=n:=by omega
   have S:=S0.out;generalize (((u+1) / 2 ^ 0:Nat):Int)=v at S ⊢;have Sw:IntKind.i64.wrap (v - 1)=(u:Int):=(i64_w _).trans S
   go_wp2_with fail
   refine(BC.out _).mono ?_;rintro e w3 ⟨v0,rfl,hr,hb⟩;have vP:=Z_ (below_step YW.out hb);obtain⟨Ao,co,hco,hcl,hCo⟩:=Kd.R_reads hr;subst hco;have HCL:=Z_ hcl;have HCO:=Z_ hCo;clear hcl hCo hr YW hb
   go_wp2_with fail
   refine(slices_Equal_int_int.calls _ Ao co bs A0 c0 bs true _ HCO.out HCL.out (Kd.C_below cO.out vP.out) mY.out EQ.out).mono ?_;rintro e w4 ⟨rfl,nd,rfl⟩;go_wp2;go_ret2;exact⟨rfl,pw_below_drewN vP.out _⟩
  |succ d=>
   have hlt:i<L.length:=by have:=LL.out;omega
   have hlt':(i:Int)<L.length:=by omega
   have hi0:(0:Int)≤i:=by omega
   obtain⟨ad,e_,hx_⟩:=Kd.at_int (Kd.C_below HL.out YW.out) (i:Int) hi0 hlt'
   cases e_
   rw[nC_] at hx_
   have hrd:rd L (i:Int)=(((u+1) / 2 ^ d%2:Nat):Int):=by
    unfold rd;rw[nC_,LG.out i (by omega),show n - 1 - i=d by omega]
   rw[hrd] at hx_;have hst:=gnum_step (u+1) d (by omega);have HST:=Lib.hid hst;have hlt2:(i:Int)<(n:Int):=by omega
   clear hrd hst;go_wp2
   go_roundg d
   case measure=>omega
   case rel=>exact⟨i+1,by first|exact congrArg (Value.int .i64) HST.out|(simp only[i64_w];exact congrArg (Value.int .i64) HST.out),by go_num,by omega,YW⟩
theorem foldGet_f{x:Int}(h:numOk x):fold_Get.f 2 (foldN x:Int)=some (x,0):=by
 have hle:=foldN_le h;obtain⟨h1,h2⟩:=h;unfold fold_Get.f;rw[if_neg (by omega),df_ (by omega),fold_Get.j0,if_neg (by decide)];unfold foldN at hle ⊢
 by_cases hx:x<0
 ·rw[if_pos hx] at hle ⊢;obtain⟨y,hy⟩:∃y:Nat,(-2*x - 1).toNat=y:=⟨_,rfl⟩;rw[hy];have e1:Int.tmod (y:Int) 2=((y%2:Nat):Int):=rfl;have e2:Int.tdiv (y:Int) 2=((y / 2:Nat):Int):=rfl;rw[e1,e2,if_pos (by omega)];have w:wrap64 (wrap64 (-(wrap64 ((y / 2:Nat):Int))) - 1)=x:=by unfold wrap64;omega
  rw[w]
 ·rw[if_neg hx] at hle ⊢;obtain⟨y,hy⟩:∃y:Nat,(2*x).toNat=y:=⟨_,rfl⟩;rw[hy];have e1:Int.tmod (y:Int) 2=((y%2:Nat):Int):=rfl;have e2:Int.tdiv (y:Int) 2=((y / 2:Nat):Int):=rfl;rw[e1,e2,if_neg (by omega)];have w:wrap64 ((y / 2:Nat):Int)=x:=by unfold wrap64;omega
  rw[w]
def rst(s:WS)(tx:ByteArray):List Value:= [.int .i64 s.lo,.int .i64 s.hi,.int .i64 (Dd.val tx s.out.size),.string tx,.int .i64 ((s.out.size:Int)+4)]
structure RAx(w0:World)(g gx:Nat)(o:Option Obj)(before:Nat)(s:WS)(tx:ByteArray)(w:World):Prop where
 out:∃v,w.heap[g]?=some (.cells (stc s.m before v (rst s tx)).toArray 209 (0,0))∧Kd.R (Kd.int .i64) 3 w w0.heap.size (fun k=>k≠g∧k≠gx) v s.l∧Below w0.heap.size w0 w∧Fr gx g o w
theorem RAx.below{w0:World}{g gx:Nat}{o:Option Obj}{before:Nat}{s:WS}{tx:ByteArray}{w w':World}(h:RAx w0 g gx o before s tx w)(hb:Below w.heap.size w w'):RAx w0 g gx o before s tx w':=by
 obtain⟨v,h1,h2,h3,h4⟩:=h.out;exact⟨v,blk_below h1 hb,Kd.R_below h2 hb,below_step h3 hb,h4.below hb⟩
theorem rsbit_calls(w0:World)(g gx:Nat)(o:Option Obj)(before:Nat)(s:WS)(tx:ByteArray)(b:Int)(w:World)(hT:Tabs w0)(h:s.ok)(hb0:before≤63)(hl:s.l.length≤63)(hbits:s.l.any ctxOdd=false)(hb:b=0∨b=1)(ho:s.out.size+4≤65536)(htx:tx.size≤65536)(hgd:WS.good tx (s.bit before b))(hg0:w0.heap.size≤g)(ha:RAx w0 g gx o before s tx w):
  Calls Tryz.prog 161 #[.pointer (some ⟨g,0,none⟩)] w fun e w'=>e= .returned (.bool true)∧RAx w0 g gx o before (s.bit before b) tx w':=by
 obtain⟨v,h1,h2,h3,h4⟩:=ha.out;obtain⟨-,k1⟩:=WS.good_back h hb ho htx hgd;refine(rbit_calls w0 g gx s.m before v s.l s.lo s.hi _ tx _ b _ _ _ _ w hT h.1 hb0 hl hbits hb k1 h1 h2 h4.lt hg0 h3).mono ?_;rintro e w' ⟨rfl,hp⟩;obtain⟨v',q1,q2,q3,q4⟩:=hp.out;exact⟨rfl,⟨v',q1,q2,q3,⟨q4.lt,fun hn=>(q4.eq hn).trans (h4.eq hn)⟩⟩⟩
theorem stRest_calls(w0:World)(g gx t:Nat)(o:Option Obj)(m:List Int)(before:Int)(v:Value)(l:List Int)(rest:List Value)(w:World)(hm:m.length=195)(hl:l.length≤100)
  (hg:w.heap[g]?=some (.cells (stc m before v rest).toArray t (0,0))) (hr:Kd.R (Kd.int .i64) 3 w w0.heap.size (fun k=>k≠g∧k≠gx) v l) (hx:Fr gx g o w) (hg0:w0.heap.size≤g) (hW:Below w0.heap.size w0 w):
  Calls Tryz.prog 77 #[.pointer (some ⟨g,0,none⟩)] w fun e w'=>e= .returned (.tuple #[])∧w'.heap[g]?=some (.cells (stc m (onesL l) (.slice none 0 0) rest).toArray t (0,0))∧Below w0.heap.size w0 w'∧Fr gx g o w':=by
 obtain⟨A,c,rfl,hlc,hC⟩:=Kd.R_reads hr;have HM:=Lib.hid hm;have YG:=Z_ hg;have HC:=Z_ hC;have YW:=Z_ hW;have YX:=Z_ hx;have cv:=cell_st 1 hg hm;simp at cv;have lv:=blk_lt hg;clear hr hg hC hW hm hx
 go_enter Tryz.func77,Tryz.ntmps77
 go_wp2_with fail
 refine(ones_calls A c l _ HC.out hlc (by omega)).mono ?_;rintro e w1 ⟨rfl,⟨nd,rfl⟩⟩;replace YG:=Z_ (blk_drewN YG.out nd);replace YW:=Z_ (pw_below_drewN YW.out nd);replace YX:=Z_ (Fr.below YX.out (pw_below_drewN (Below.refl _ _) nd));clear cv lv;generalize World.drewN _ _=w1 at YG YW YX ⊢;have lv:=blk_lt YG.out;have cv:=cell_st 1 YG.out HM.out;have cb:=cell_st 0 YG.out HM.out;simp at cv cb;have cf:=blk_frozen YG.out;go_wp2;refine bodyPost_end (results_none rfl _ _ _) rfl ⟨rfl,set_stv (set_stb YG.out HM.out _) HM.out _,below_set (below_set YW.out hg0) hg0,Fr.setCell (Fr.setCell YX.out 195 _) 196 _⟩
theorem rnum_calls(w0:World)(g gx:Nat)(s:WN)(x:Int)(tx:ByteArray)(w:World)(hT:Tabs w0)(h:s.ok)(hx:numOk x)(ho:s.out.size+204≤65536)(htx:tx.size≤65536)(hgd:WS.good tx (s.num x).ws)(hg0:w0.heap.size≤g)(hgx:gx<w.heap.size)
  (hg:w.heap[g]?=some (.cells (stc s.m s.before (.slice none 0 0) (rst s.ws tx)).toArray 209 (0,0))) (hW:Below w0.heap.size w0 w):
  Calls Tryz.prog 145 #[.pointer (some ⟨g,0,none⟩)] w fun e w'=>e= .returned (.tuple #[.int .i64 x,.bool true])∧w'.heap[g]?=some (.cells (stc (s.num x).m (s.num x).before (.slice none 0 0) (rst (s.num x).ws tx)).toArray 209 (0,0))∧Below w0.heap.size w0 w'∧Fr gx g w.heap[gx]? w':=by
 have hfl:=foldN_le hx;have hgl:=Gm.gb_len (foldN x);have hle:=Gm.len_le _ hfl;have T0:=Z_ hT;have HO:=Z_ h;have HA:Aside0 (RAx w0 g gx w.heap[gx]? s.before s.ws tx w):=⟨⟨_,hg,Kd.R_nil _ _ _ _ _,hW,⟨hgx,fun _=>rfl⟩⟩⟩;obtain⟨ox,hox⟩:∃o,w.heap[gx]?=o:=⟨_,rfl⟩;rw[hox] at HA ⊢;have GB:=Z_ (Gm.gb_bit (foldN x));have GO:=Z_ (Gm.gb_ok (foldN x));have TG:=Z_ (Gm.take_gb (foldN x));have ON:=Z_ (Gm.onesL_gb (foldN x));have WH:=Z_ (fun A c i W=>whole_calls A c (foldN x) i W hfl);have GN:=Z_ (fun A c W=>gnum_calls (foldN x) A c W hfl);have FG:=Lib.hid (foldGet_f hx);have GD:=Z_ (WS.good_bits s.before htx (Gm.gb (foldN x)) s.ws h.1 (Gm.gb_bit _) (by show s.out.size+_≤_;omega) hgd);have RES:Aside0 (∀w':World,w'.heap[g]?=some (.cells (stc (WS.bits s.before s.ws (Gm.gb (foldN x))).m (Gm.len (foldN x)) (.slice none 0 0) (rst (WS.bits s.before s.ws (Gm.gb (foldN x))) tx)).toArray 209 (0,0))→w'.heap[g]?=some (.cells (stc (s.num x).m (s.num x).before (.slice none 0 0) (rst (s.num x).ws tx)).toArray 209 (0,0))):=⟨fun _ h=>h⟩;obtain⟨bs,hbs⟩:∃l,Gm.gb (foldN x)=l:=⟨_,rfl⟩;rw[hbs] at hgl GB GO TG ON WH GN GD RES;obtain⟨n,hn⟩:∃n,Gm.len (foldN x)=n:=⟨_,rfl⟩;rw[hn] at hgl hle ON TG RES;obtain⟨u,hu⟩:∃u,foldN x=u:=⟨_,rfl⟩;rw[hu] at GN FG hfl;have HLE:=Z_ hle;have hbl:bs.length≤51:=by omega
 clear hT h hx hg hW hbs hn hu hgd hox hgl hle
 go_enter Tryz.func145,Tryz.ntmps145
 go_wp2
 go_loopg [] bs.length (fun d wr=>∃i:Nat,i+d=bs.length∧Aside0 (RAx w0 g gx ox s.before (WS.bits s.before s.ws (bs.take i)) tx wr))
 case atStart=>exact⟨0,by omega,HA⟩
 case round=>
  clear HA;obtain⟨i,hi,HA⟩:=hrel;have hile:i≤bs.length:=by omega
  have hok:=WS.bits_ok s.before (bs.take i) s.ws HO.out.1 (fun x hx=>GB.out x (List.mem_of_mem_take hx)) (by rw[List.length_take];show s.out.size+_≤_;omega);have hll:(WS.bits s.before s.ws (bs.take i)).l=bs.take i:=(WS.bits_l s.before _ s.ws).trans (List.nil_append _);have hlen:(bs.take i).length=i:=by rw[List.length_take];omega
  have hst:=fun h=>bits_take s.before s.ws bs i h
  have hod:=GO.out i;have t1:=(TG.out i hile).1;have wh:=fun A c W=>WH.out A c i W hile
  have hsz:(WS.bits s.before s.ws (bs.take i)).out.size≤s.out.size+4*i:=by
   have h1:=hok.2;rw[hlen] at h1;exact h1
  have hlast:i=bs.length→bs.take i=bs:=fun h=>by rw[h];exact List.take_of_length_le (Nat.le_refl _)
  obtain⟨st,hse⟩:∃st,WS.bits s.before s.ws (bs.take i)=st:=⟨_,rfl⟩;rw[hse] at hok hll HA hst hsz;obtain⟨L,hL⟩:∃L,bs.take i=L:=⟨_,rfl⟩;rw[hL] at hok hll hlen hod t1 wh hlast hse;obtain⟨v,YG,HV,YW,YX⟩:=HA.out.out;rw[hll] at HV;obtain⟨A,c,rfl,hlc,hC⟩:=Kd.R_reads HV;have HM:=Lib.hid hok.1.1.1;have HOK:=Z_ hok.1;have WHI:=Lib.hid (wh A c);have lv:=blk_lt YG;have cv:=cell_st 1 YG hok.1.1.1;simp at cv;have cf:=blk_frozen YG;replace YG:=Z_ YG;replace HV:=Z_ HV;replace YW:=Z_ YW;replace YX:=Z_ YX;have HC:=Z_ hC;have HLC:=Z_ hlc;have HLEN:=Lib.hid hlen;clear hC hL hok wh hlc hlen
  go_wp2_with fail
  refine(WHI.out _ HC.out HLC.out).mono ?_;rintro e w3 ⟨rfl,nd,rfl⟩;replace YG:=Z_ (blk_drewN YG.out nd);replace YW:=Z_ (pw_below_drewN YW.out nd);replace YX:=Z_ (Fr.below YX.out (pw_below_drewN (Below.refl _ _) nd));replace HV:=Z_ (Kd.R_drewN HV.out nd);replace HC:=Z_ (Kd.C_drewN HC.out nd);clear cv lv cf HA;generalize World.drewN _ _=w3 at YG YW YX HV HC ⊢;have lv:=blk_lt YG.out;have cv:=cell_st 1 YG.out HM.out;simp at cv;have cf:=blk_frozen YG.out
  cases gk with
  |zero=>
   obtain rfl:i=bs.length:=hi;rw[dt_ rfl];obtain rfl:L=bs:=hlast rfl;rw[hse] at RES;clear hse hst hlast hod t1 hsz
   go_wp2_with fail
   refine(GN.out A c _ HC.out HLC.out).mono ?_;rintro e w4 ⟨rfl,hb⟩;replace YG:=Z_ (blk_below YG.out hb);replace YW:=Z_ (below_step YW.out hb);replace YX:=Z_ (Fr.below YX.out hb);replace HV:=Z_ (Kd.R_below HV.out hb);clear HC cv lv cf hb
   go_wp2_with fail
   refine(fold_Get.calls _ _ _ _ _ FG.out).mono ?_;rintro e w5 ⟨rfl,⟨nd,rfl⟩⟩;replace YG:=Z_ (blk_drewN YG.out nd);replace YW:=Z_ (pw_below_drewN YW.out nd);replace YX:=Z_ (Fr.below YX.out (pw_below_drewN (Below.refl _ _) nd));replace HV:=Z_ (Kd.R_drewN HV.out nd);generalize World.drewN _ _=w5 at YG YW YX HV ⊢
   go_wp2_with fail
   refine(stRest_calls w0 g gx 209 ox _ _ _ L _ _ HM.out (by have:=HLEN.out;omega) YG.out HV.out YX.out hg0 YW.out).mono ?_;rintro e w6 ⟨rfl,q1,q2,q3⟩;rw[ON.out] at q1;have Q1:=Z_ (RES.out _ q1);have Q2:=Z_ q2;have Q3:=Z_ q3;clear q1 q2 q3 YG YW YX HV;go_wp2;go_ret2;exact⟨rfl,Q1.out,Q2.out,Q3.out⟩
  |succ d=>
   have hlt:i<bs.length:=by omega
   rw[df_ (show ¬i=bs.length by omega)];have hbx:bs.getD i 0=0∨bs.getD i 0=1:=GB.out _ (by rw[gD_,gE_ hlt];exact List.getElem_mem _);replace hst:=hst hlt;have hgd:=GD.out (i+1) (by omega);rw[hst] at hgd;have hsz2:st.out.size+4≤65536:=by omega
   have QU:s.before≤63:=by have:=HO.out.2;omega
   have QV:L.length≤63:=by have:=HLEN.out;omega
   have hLb:L.length≤9223372036854775806:=by omega
   have qK:decide ((25:Int)<(onesL L:Int))=false:=df_ (by have:=HLE.out;omega);obtain⟨nn,hnn⟩:∃nn,onesL L=nn:=⟨_,rfl⟩;rw[hnn] at qK;have NN:=Lib.hid hnn;have CALL:=Lib.hid (fun W (ha:RAx w0 g gx ox s.before st tx W)=>rsbit_calls w0 g gx ox s.before st tx (bs.getD i 0) W T0.out HOK.out QU (by rw[hll];exact QV) (by rw[hll];exact hod) hbx hsz2 htx hgd hg0 ha);have HST:=Lib.hid hst;have HLL:=Lib.hid hll;clear hbx hst hll hsz hsz2 hod hgd hnn t1 hse hlast
   go_wp2_with fail
   refine(ones_calls A c L _ HC.out HLC.out hLb).mono ?_;rintro e w4 ⟨rfl,nd,rfl⟩;rw[NN.out];have EX:Aside0 (RAx w0 g gx ox s.before st tx (w3.drewN nd)):=⟨(RAx.mk ⟨_,YG.out,by rw[HLL.out];exact HV.out,YW.out,YX.out⟩).below (pw_below_drewN (Below.refl _ _) nd)⟩;clear YG YW YX HV HC cv lv cf;generalize World.drewN _ _=w4 at EX ⊢;generalize zeroL L=zz
   cases zz
   all_goals
    go_wp2_with fail
    refine(CALL.out _ EX.out).mono ?_;rintro e w5 ⟨rfl,ha⟩;have VK:=Z_ ha;clear ha;go_wp2
    go_roundg d
    case measure=>omega
    case rel=>exact⟨i+1,by omega,⟨by rw[HST.out];exact VK.out⟩⟩
theorem new_l0(s:ByteArray)(hi:Int)(t:ByteArray)(a:Int):decoder_New.l0 5 s 0 0 hi 0 t a=some (0,hi,Dd.first s,t,a,0):=by
 have b:=fun i=>Dd.at_bd s i
 have b0:=b 0;have b1:=b 1;have b2:=b 2;have b3:=b 3
 have u:∀x y:Int,0≤x→x≤4294967295→0≤y→y≤255→coder_Up.f x y=some (x*256%4294967296+y):=fun x y h0 h1 g0 g1=>by
  unfold coder_Up.f;rw[up_any x y h0 h1 g0 g1]
 have w1:wrap64 (0+1)=1:=by decide+kernel
 have w2:wrap64 (1+1)=2:=by decide+kernel
 have w3:wrap64 (2+1)=3:=by decide+kernel
 have w4:wrap64 (3+1)=4:=by decide+kernel
 simp only[decoder_New.l0];rw[if_pos (by decide),at_some s 0 (by decide),bs_,u 0 _ (by omega) (by omega) (by omega) (by omega),bs_,w1];rw[if_pos (by decide),at_some s 1 (by decide),bs_,u _ _ (by omega) (by omega) (by omega) (by omega),bs_,w2];rw[if_pos (by decide),at_some s 2 (by decide),bs_,u _ _ (by omega) (by omega) (by omega) (by omega),bs_,w3];rw[if_pos (by decide),at_some s 3 (by decide),bs_,u _ _ (by omega) (by omega) (by omega) (by omega),bs_,w4];rw[if_neg (by decide)]
 have e:(((0*256%4294967296+Dd.at_ s 0)*256%4294967296+Dd.at_ s 1)*256%4294967296+Dd.at_ s 2)*256%4294967296+Dd.at_ s 3=Dd.first s:=by
  unfold Dd.first;omega
 rw[e]
theorem new_some(s:ByteArray):decoder_New.f 5 s=some (Dd.new s):=by
 unfold decoder_New.f Dd.new
 by_cases h:s.size≤65536
 ·rw[if_neg (by omega),if_pos h,show coder_New.f=some (0,4294967295,(⟨#[]⟩:ByteArray)) from rfl,bs_,new_l0]
 ·rw[if_pos (by omega),if_neg h]
theorem keep_row{w:World}{base g:Nat}{v:Value}{xs:List Int}(h:Kd.R (Kd.int .i64) 3 w base (fun k=>k≠g) v xs)(hg:g<w.heap.size):∃gx,gx<w.heap.size∧∀w',Fr gx g w.heap[gx]? w'→Kd.R (Kd.int .i64) 3 w' base (fun k=>k≠g) v xs:=by
 have h1:Kd.R (Kd.int .i64) 3 w base (fun k=>v.ownBlock=some k) v xs:=⟨fun k hk=>hk,h.2⟩
 cases hv:v.ownBlock with
 |none=>exact⟨g,hg,fun w' hf=>⟨h.1,(Kd.R_move h1 (w1:=w') (fun k hk=>by rw[hv] at hk;cases hk)).2⟩⟩
 |some gx=>
  refine⟨gx,own_lt (Kd.own_of_R h) gx hv,fun w' hf=>⟨h.1,(Kd.R_move h1 (w1:=w') (fun k hk=>?_)).2⟩⟩;rw[hv] at hk;obtain rfl:=Option.some.inj hk;exact hf.eq (h.1 _ hv)
def rgt.T4:Bool×List (List Nat×List Nat):=(true,[([],[]),([0],[0]),([],[]),([1,2],[1,2]),([3],[3]),([4,0,0,1,2,3,4],[4])])
def rgt.B4:List Nat:= [0,1,0,7,15,31]
theorem rgt.tab4:rtab .any (opsOf Tryz.f120 4)=rgt.T4:=by kernel_rfl
theorem rgt.bits4:waitsOk rgt.T4.2 rgt.B4=true:=by kernel_rfl
theorem resGet_calls(rs:List Int)(w:World)(hT:Tabs w)(hl:rs.length≤256)(hx:∀x∈rs,numOk x):
  Calls Tryz.prog 120 #[.string (resPut rs),.int .i64 rs.length] w fun e w'=>∃eB:Value,e= .returned (.tuple #[eB,.int .i64 0])∧Kd.R (Kd.int .i64) 3 w' w.heap.size (fun _=>True) eB rs∧Below w.heap.size w w':=by
 have nC:=Tryz.underlying204;have Tu:=Tryz.underlying209;have QT:=Tryz.underlying86;have htx:=resPut_le rs hl hx;have GD:=Z_ (WN.good_nums htx rs WN.new WN.new_ok hx (by show 0+_≤_;omega) (res_good rs hl hx));have PC:=Z_ (fun A c W hT hC=>resPut_calls A c rs W hT hC hl hx);have NW:=new_some (resPut rs);unfold Dd.new at NW;rw[if_pos htx,Dd.first_val] at NW;obtain⟨tx,hte⟩:∃t,resPut rs=t:=⟨_,rfl⟩;rw[hte] at GD PC NW htx ⊢;have IN:Hid (rst WN.new.ws tx= [.int .i64 0,.int .i64 4294967295,.int .i64 (Dd.val tx 0),.string tx,.int .i64 4]):=by show _=_;rfl
 obtain⟨va,hva⟩:∃v,Dd.val tx 0=v:=⟨_,rfl⟩;rw[hva] at NW IN;have HNW:=Lib.hid NW;have T0:=Z_ hT;have HX:=Z_ hx;have l1:¬((rs.length:Int)<0):=by omega
 have l2:¬((256:Int)<rs.length):=by omega
 clear hT hx NW hte hva
 go_enter Tryz.func120,Tryz.ntmps120
 go_wp2_with fail
 refine(decoder_New.calls _ _ _ _ _ _ _ _ _ HNW.out).mono ?_;rintro e wk_ ⟨rfl,hb⟩;have YW:=Z_ hb;clear hb
 go_wp2_with (first|(refine X_ 6 #[.int .i64 0,.int .i64 0,.int .i64 0,.string ⟨#[]⟩,.int .i64 0] 204 ?_;intro gd hg wk_ hbox hb;have HG_:=Z_ hg;have HB_:=Z_ hb;have YD:=Z_ hbox;clear hbox hb hg)|((with_reducible refine gate_store (t:=204) (p:=6) rfl ?_);refine wpList_store_mid rfl 204 _ _ rfl gd 0 #[.int .i64 0,.int .i64 4294967295,.int .i64 va,.string tx,.int .i64 4] rfl rfl (there_blk (vs:= [.int .i64 0,.int .i64 0,.int .i64 0,.string ⟨#[]⟩,.int .i64 0]) YD.out 0 5 (by decide)) (by kernel_rfl) (by simp[Value.oneCell']) ?_;have nc_:=Z_ (setCells_all (vs:= [.int .i64 0,.int .i64 4294967295,.int .i64 va,.string tx,.int .i64 4]) (old:= [.int .i64 0,.int .i64 0,.int .i64 0,.string ⟨#[]⟩,.int .i64 0]) YD.out rfl);have hb:=below_setCells HB_.out (Nat.le_of_eq HG_.out.symm) [.int .i64 0,.int .i64 4294967295,.int .i64 va,.string tx,.int .i64 4] 0;replace YW:=Z_ (below_step YW.out hb);clear hb HB_ HG_ YD;have YD:=nc_;clear nc_;generalize World.setCells _ _ _ _=wk_ at YW YD ⊢))
 replace YD:=Z_ (blk_drew YD.out);replace YW:=Z_ (below_drew1 YW.out);refine start_ (n:=6) (S:=fun w'=>w'.heap[gd]?=some (.cells #[.int .i64 0,.int .i64 4294967295,.int .i64 va,.string tx,.int .i64 4] 204 (0,0))) (ds:= []) #[false,false,false,false,false,false] (by kernel_rfl) rfl rfl YD.out (fun hHeld=>?_);refine with_tabW rgt.tab4 rgt.bits4 (fun HT_ HW_=>?_);generalize World.drew _=wk_ at YD YW hHeld ⊢;refine take_ (i:=2) (N:=some 32) (v:= .agg #[.int .i64 0,.int .i64 4294967295,.int .i64 va,.string tx,.int .i64 4]) (a':=?_) #[false,false,true,false,false,false] rfl rfl (take_ofW HT_.out HW_.out (by kernel_rfl)) (fun _ _ _ h=>h) (yieldsIf_load_mid (by rfl) 204 _ rfl gd 0 rfl [.int .i64 0,.int .i64 4294967295,.int .i64 va,.string tx,.int .i64 4] _ (fun w' s0=>range_all s0) Tryz.underlying204 rfl (by kernel_rfl)) hHeld ?_ ?_;rotate_left
 ·simp only[Act.put,List.setIfInBounds_toArray,List.set_cons_zero,List.set_cons_succ,i64_w,i32_w];rfl
 refine O_ 0 30 fun K hK=>?_
 refine g_ Tryz.func38 #[] ?_;refine(modNew_calls _).mono ?_;rintro e wk_ ⟨rfl,hb⟩;refine⟨_,rfl,?_⟩;replace YD:=Z_ (blk_below YD.out hb);replace YW:=Z_ (below_step YW.out hb);clear hb;refine hK.out _ _ YD.out (fun hHeld=>?_);clear hK K;refine Nm_ 30 ?_;refine pure_ (i:=1) (N:=some 31) (v:= .agg (stc mNew 0 (.slice none 0 0) []).toArray) (a':=?_) #[true,true,true,false,false,false] rfl rfl (any_of HT_.out (by kernel_rfl)) (fun _ _ _ h=>h) (Or.inl ⟨by rfl,fun w'=>by kernel_rfl⟩) ?_ ?_;rotate_left
 ·simp only[Act.put,List.setIfInBounds_toArray,List.set_cons_zero,List.set_cons_succ,i64_w,i32_w];rfl
 refine pure_ (i:=3) (N:=some 33) (v:= .agg (stc mNew 0 (.slice none 0 0) [.int .i64 0,.int .i64 4294967295,.int .i64 va,.string tx,.int .i64 4]).toArray) (a':=?_) #[true,true,true,true,false,false] rfl rfl (any_of HT_.out (by kernel_rfl)) (fun _ _ _ h=>h) (Or.inl ⟨by rfl,fun w'=>by kernel_rfl⟩) ?_ ?_;rotate_left
 ·simp only[Act.put,List.setIfInBounds_toArray,List.set_cons_zero,List.set_cons_succ,i64_w,i32_w];rfl
 refine O_ 4 34 fun K hK=>?_
 refine box_step ?hg (N:=34) ?hd (cs:=(stc mNew 0 (.slice none 0 0) [.int .i64 0,.int .i64 4294967295,.int .i64 va,.string tx,.int .i64 4]).toArray) (t:=209) ?hr ?_;(case hd=>rfl);(case hg=>rfl);(case hr=>first|(go_simp;done)|(go_simp;rfl));intro g hg wk_ hbox hb;have DL:Aside0 (w.heap.size≤g):=⟨by rw[hg];exact below_size YW.out⟩;clear hg;replace YD:=Z_ (blk_below YD.out hb);replace YW:=Z_ (below_step YW.out hb);have YG:=Z_ hbox;clear hbox hb;refine hK.out _ _ YD.out (fun hHeld=>?_);clear hK K;refine Nm_ 34 ?_;refine P_ 5 8 ?_;refine done_ (done_of HT_.out (by kernel_rfl)) ?_;have hg0:=DL.out;rw[←IN.out] at YG;go_wp2
 go_loopg [10,38] rs.length (fun d v10 v38 wr=>∃i:Nat,v38= .int .i64 (i:Int)∧i+d=rs.length∧Aside0 (wr.heap[g]?=some (.cells (stc (WN.new.nums (rs.take i)).m (WN.new.nums (rs.take i)).before (.slice none 0 0) (rst (WN.new.nums (rs.take i)).ws tx)).toArray 209 (0,0)))∧Aside0 (Below w.heap.size w wr)∧Aside0 (Kd.R (Kd.int .i64) 3 wr w.heap.size (fun k=>k≠g) v10 (rs.take i)))
 case atStart=>exact⟨0,rfl,by omega,YG,YW,⟨Kd.R_nil _ _ _ _ _⟩⟩
 case round=>
  clear YG YW;obtain⟨i,rfl,hi,YG,YW,HV⟩:=hrel
  cases gk with
  |zero=>
   obtain rfl:i=rs.length:=by omega
   rw[List.take_of_length_le (Nat.le_refl _)] at HV;obtain⟨A,c,he,hlc,hC⟩:=Kd.R_reads HV.out;subst he;have HC:=Z_ hC;clear hC YG
   go_wp2_with fail
   refine(PC.out A c _ (T0.out.below YW.out) HC.out).mono ?_;rintro e w5 ⟨rfl,hb⟩;replace HV:=Z_ (Kd.R_below HV.out hb);replace YW:=Z_ (below_step YW.out hb);clear HC hb;go_wp2;go_ret2;exact⟨_,rfl,Kd.R_mono HV.out (fun _ _=>trivial),YW.out⟩
  |succ d=>
   have hlt:i<rs.length:=by omega
   have hlt':(i:Int)<rs.length:=by omega
   have hst:=nums_take rs WN.new i hlt;have hxx:numOk (rs.getD i 0):=HX.out _ (by rw[gD_,gE_ hlt];exact List.getElem_mem _);have hok:=WN.nums_ok (rs.take i) WN.new WN.new_ok (fun x hx=>HX.out x (List.mem_of_mem_take hx)) (by rw[List.length_take];show 0+_≤_;omega);have hgd:=GD.out (i+1) (by omega);have htk:rs.take (i+1)=rs.take i++ [rs.getD i 0]:=by rw[List.take_succ_eq_append_getElem hlt,gD_,gE_ hlt];rfl
   rw[hst] at hgd
   have hsz:(WN.new.nums (rs.take i)).out.size+204≤65536:=by
    have h1:=hok.2;rw[List.length_take] at h1;have h0:WN.new.out.size=0:=rfl;omega
   have hLl:(rs.take i).length≤256:=by rw[List.length_take];omega
   obtain⟨st,hse⟩:∃st,WN.new.nums (rs.take i)=st:=⟨_,rfl⟩;rw[hse] at hst hok hgd hsz YG;obtain⟨L,hL⟩:∃L,rs.take i=L:=⟨_,rfl⟩;rw[hL] at htk hLl HV;obtain⟨x,hxe⟩:∃x,rs.getD i 0=x:=⟨_,rfl⟩;rw[hxe] at hst hxx hgd htk;have hgl:=blk_lt YG.out;obtain⟨gx,hgx,hkeep⟩:=keep_row HV.out hgl;have CALL:=Lib.hid (rnum_calls w g gx st x tx wr T0.out hok.1 hxx hsz htx hgd hg0 hgx YG.out YW.out);have KEEP:=Z_ hkeep;have HST:=Lib.hid hst;have HTK:=Lib.hid htk;clear hst hxx hok hgd htk hsz hse hL hxe hgx hkeep YG HV
   go_wp2_with fail
   refine CALL.out.mono ?_;rintro e w4 ⟨rfl,q1,q2,q3⟩;have HV:=Z_ (KEEP.out _ q3);have YG:=Z_ q1;have vP:=Z_ q2;clear q1 q2 q3 KEEP CALL YW hgl;have hgl:=blk_lt YG.out;obtain⟨Av,cv,he,_⟩:=Kd.R_reads HV.out;subst he
   go_wp2_with ((with_reducible refine gate_builtin (b:= .append) (xs:= #[.tmp 47,.tmp 49]) rfl ?_);at_builtin;refine Kd.R_append (Kd.int .i64) (w0:=w) w.heap.size rfl (.tmp 47) (.tmp 49) 36 3 (.int .i64 0) 8 rfl Tryz.underlying36 TBase.info3 rfl (by decide) (by omega) _ L x [.int .i64 x] (fun k=>k≠g) (fun _=>False) rfl rfl rfl (fun _ hk=>hk.elim) (fun k hk=>by omega) HV.out vP.out (below_size vP.out) (by omega) ?_;intro v8 w9 ho hb hgr hat;replace YG:=Z_ (blk_grown YG.out hgr (fun e_=>(HV.out.1 _ e_.symm) rfl));clear HV vP hat hgr;have HV:=Z_ ho;have YW:=Z_ hb;clear ho hb hgl)
   go_roundg d
   case measure=>omega
   case rel=>exact⟨i+1,by go_num,by omega,⟨by rw[HST.out];exact YG.out⟩,YW,⟨by rw[HTK.out];exact HV.out⟩⟩
end Go.Proofs.YtfghldonnffldaaGreatDoor
namespace Go.Proofs.YtfghldonnffldaaGreatDoor.UOne
open Go.RowKit TBase YtfghldonnffldaaGreatDoorW.PrintWords YtfghldonnffldaaGreatDoorW.PrintLast YtfghldonnffldaaGreatDoorW.PrintMore
attribute [local go_sem] max2_int min2_int max_two min_two max_three min_three max_four min_four
theorem info36:(Tryz.prog.info? 36).map (fun i=>(i.zero,i.size,i.bytes))=some (some (.slice none 0 0),1,24):=by kernel_rfl
def rd_L1(xs:List (List Int))(i:Int):(List Int):=xs.getD i.toNat ([]:List Int)
theorem at_L1{w:World}{A:Option Addr}{n:Nat}{xs:List (List Int)}(h:Kd.C (Kd.slice 3 (Kd.int .i64)) w A n xs)(i:Int)(h0:0≤i)(h1:i<n):∃ad A0 c0,A=some ad∧w.cell? (ad.add i.toNat)=some (.slice A0 (rd_L1 xs i).length c0)∧(rd_L1 xs i).length≤c0∧(Kd.int .i64).C w A0 (rd_L1 xs i).length (rd_L1 xs i):=by
 obtain⟨ad,c,e,_,hK,hc0⟩:=Kd.C_get h ([]:List Int) i h0 h1;have hc:∀j u,c[j]?=some u→w.cell? (ad.add (i.toNat*1+j))=some u:=hc0;obtain⟨A0,c0,rfl,l0,g0⟩:=hK;exact⟨ad,A0,c0,e,by have hq:=hc 0 _ rfl;rwa [Nat.mul_one,Nat.add_zero] at hq,l0,g0⟩
def shift_Up.l0:Nat→Int→List Int→Int→Int→Option (List Int×Int)
 |0,_,_,_,_=>none
 |k+1,x1,x6,nR,oG=>if oG<nR then(if 0≤oG then(if oG<(x6.length:Int) then(if 0≤x1 then(shift_Up.l0 k x1 (x6.set (oG:Int).toNat (shl .i64 (rd x6 oG) x1)) nR (wrap64 (oG+1))) else(none)) else(none)) else(none)) else((shift_may.f x6 x1).bind fun t107=>(if t107=true then(some (x6,0)) else(some (([]:List Int),1800))))
def shift_Up.f(k:Nat)(l0:List Int)(a1:Int):Option (List Int×Int):=(shift_may.f l0 a1).bind fun bv=>(if bv=true then((slices_Clone_int_int.f l0).bind fun ah=>(shift_Up.l0 k a1 ah (ah.length:Int) 0)) else(some (([]:List Int),1800)))
theorem shift_Up.mono_l:∀k,(∀y0 y1 y2 y3,LeO (shift_Up.l0 k y0 y1 y2 y3) (shift_Up.l0 (k+1) y0 y1 y2 y3))
 |0=>fun _ _ _ _ r h=>by simp[shift_Up.l0] at h
 |k+1=>by
  have fD:=shift_Up.mono_l k
  ·intro y0 y1 y2 y3;unfold shift_Up.l0
   repeat' first
   |(with_reducible exact fD _ _ _ _)
   |(with_reducible exact LeO.refl _)
   |(with_reducible exact LeO.none _)
   |(with_reducible refine LeO.ite ?_ ?_)
   |(with_reducible refine LeO.bind ?_ (fun _=>?_))
   |exact fD _ _ _ _
   |exact LeO.none _
   |refine LeO.ite ?_ ?_
   |refine LeO.bind ?_ (fun _=>?_)
theorem shift_Up.calls(k:Nat)(A0:Option Addr)(c0:Nat)(l0:List Int)(a1:Int)(r1:List Int)(r2:Int)(w:World)(hr0:Kd.C (Kd.int .i64) w A0 l0.length l0)(hc0:l0.length≤c0)(h:shift_Up.f k l0 a1=some (r1,r2)):
  Calls Tryz.prog 123 #[.slice A0 l0.length c0,.int .i64 a1] w fun e w'=>∃eB:Value,e= .returned (.tuple #[eB,.int .i64 r2])∧Kd.R (Kd.int .i64) 3 w' w.heap.size (fun _=>True) eB r1∧Below w.heap.size w w':=by
 have cO:=Z_ hr0;have mY:=Z_ hc0;clear hr0 hc0;have HB:=Z_ (Below.refl w.heap.size w);have H:((shift_may.f l0 a1).bind fun bv=>(if bv=true then((slices_Clone_int_int.f l0).bind fun ah=>(shift_Up.l0 k a1 ah (ah.length:Int) 0)) else(some (([]:List Int),1800))))=some (r1,r2):=h;clear h;replace H:=Ob_ H;obtain⟨bv,jw,H⟩:=H;(try dsimp only at H);have A3:=Z_ jw;clear jw
 by_cases c4:bv=true
 ·subst c4;rw[if_pos rfl] at H;replace H:=Ob_ H;obtain⟨ah,jR,H⟩:=H;(try dsimp only at H);have A5:=Z_ jR;clear jR;have H':=Z_ H;clear H
  go_enter Tryz.func123,Tryz.ntmps123
  go_wp2_with (first|(refine G_ 10 Tryz.func116 #[.slice A0 l0.length c0,.int .i64 a1] ?_;refine(shift_may.calls _ _ l0 a1 true _ (C_ cO.out) mY.out A3.out).mono ?_;rintro e w' ⟨rfl,⟨nd,rfl⟩⟩;refine⟨_,rfl,?_⟩)|(refine G_ 13 Tryz.func69 #[.slice A0 l0.length c0] ?_;refine(slices_Clone_int_int.calls _ _ l0 ah _ (C_ cO.out) mY.out A5.out).mono ?_;rintro e w6 ⟨QQ,rfl,ho0,hb⟩;refine⟨_,rfl,?_⟩;have iT:=Z_ (Kd.R_lower ho0 (below_size B_));replace HB:=Hb_ hb;(try clear hb);(try clear ho0);obtain⟨DT,vX,QW⟩:=Kd.R_slice iT.out;subst QW))
  go_loopg [16] k (fun kq v16 w'=>∃(cu:List Int) (bD:Int),v16= .int .i64 bD∧Aside0 (shift_Up.l0 kq a1 cu (ah.length:Int) bD=some (r1,r2))∧Aside0 (kq≤k)∧Aside0 (Kd.R (Kd.int .i64) 3 w' w.heap.size (fun _=>True) (.slice DT ah.length vX) cu)∧Aside0 (Below w.heap.size w w'))
  case atStart=>exact⟨(ah),(0),(E1_),H',⟨Nat.le_refl _⟩,⟨R_ iT⟩,⟨B_⟩⟩
  case round=>
   clear H'
   try clear c1
   try clear p2
   try clear c4
   try clear c6
   obtain⟨cu,bD,rfl,HA,jb,HO_6,HB⟩:=hrel;have jC:=(Kd.R_reads' HO_6.out).1;rw[jC] at HO_6;(try simp only[jC])
   cases gk with
   |zero=>exact absurd HA.out (by simp[shift_Up.l0])
   |succ k1=>
    have H:=HA.out;clear HA;simp only[shift_Up.l0] at H
    by_cases c8:bD<(ah.length:Int)
    ·rw[if_pos c8] at H;have c8b0:=dt_ c8;(first|(have c8b0x_:=c8b0;rw[jC] at c8b0x_)|(have c8b0x_:=c8b0;rw[←jC] at c8b0x_)|skip);clear c8
     by_cases c9:0≤bD
     ·rw[if_pos c9] at H;have c9b0:=dt_ c9;clear c9
      by_cases c10:bD<(cu.length:Int)
      ·rw[if_pos c10] at H;have c10b0:=dt_ c10;(first|(have c10b0x_:=c10b0;rw[jC] at c10b0x_)|(have c10b0x_:=c10b0;rw[←jC] at c10b0x_)|skip);clear c10
       by_cases c11:0≤a1
       ·rw[if_pos c11] at H;have c11b0:=eq_true c11;have c11b1:=dt_ c11;clear c11;obtain⟨gy,lG⟩:∃j_:Int,(shl .i64 (rd cu bD) a1)=j_:=⟨_,rfl⟩;(first|rw[lG] at H|simp only[lG] at H);have DU:(IntKind.i64.wrap ((rd cu bD)*2 ^ min a1.toNat 64))=gy:=lG;have hji12z:a1≤64→(IntKind.i64.wrap ((rd cu bD)*2 ^ a1.toNat))=gy:=shl_small lG;have hji12y:(wrap64 ((rd cu bD)*2 ^ min a1.toNat 64))=gy:=(i64_w _).symm.trans DU;have hji12x:a1≤64→(wrap64 ((rd cu bD)*2 ^ a1.toNat))=gy:=fun h_=>(i64_w _).symm.trans (hji12z h_)
        obtain⟨kz,ji⟩:∃y_:List Int,y_=(cu.set (bD:Int).toNat (gy)):=⟨_,rfl⟩;replace H:(shift_Up.l0 k1 a1 kz (ah.length:Int) (wrap64 (bD+1)))=some (r1,r2):=by first|(rw[ji];with_reducible exact H)|(have bS:=(bs_ _ _).symm.trans H;rw[ji];with_reducible exact bS)|(have bS:=(bs_ _ _).symm.trans H;with_reducible exact bS)|with_reducible exact H|(rw[ji];exact H)|exact H
        have qb:=Z_ ji;clear ji;have H':=Z_ H;clear H;have DV:0≤(bD:Int):=od_ A_;have DW:bD<(cu.length:Int):=od_ A_;obtain⟨Tv,QX,Ak⟩:=Kd.at_int (Kd.R_reads' HO_6.out).2.2 bD DV DW
        cases QX
        replace DV:=eq_true DV;replace DW:=eq_true DW;have Df:0≤(bD:Int):=od_ A_;have Dg:(bD:Int)<((cu.length:Int):Int):=od_ A_;obtain⟨qX,Gy,xA,xB,Dh,Qn,xC⟩:=Kd.R_form HO_6.out (by omega);(first|cases xA|(injection xA with ea_ en_ ec_;(first|subst ea_|(injection ea_ with ea_;subst ea_));subst ec_;clear en_));have Di:=Z_ xB;have Qo:=Z_ xC;clear xB Dh xC;(first|simp only[add_plain] at Ak|skip);obtain⟨Dj,Dk⟩:=Kd.R_celln 0 HO_6.out (bD:Int) Df Dg;replace Df:=eq_true Df;replace Dg:=eq_true Dg;have lK:=Kd.R_putg HO_6.out (bD:Int) gy
        go_wp2_with (first|((with_reducible refine gate_store (t:=3) (p:=25) rfl ?_);refine store_event (t:=3) (p:=25) (v:=?vo_w15) (w1:=(wr.setCell ⟨qX,(bD:Int).toNat,none⟩ (.int .i64 gy))) ?hg ?ho ?hn ?hr ?_;(case ho=>rfl);(case hg=>rfl);(case hn=>rfl);(case hr=>first|(go_simp;done)|(go_simp;rfl));intro nX hw;have hg:wr.grownBy nX (some qX):=(by rw[hw];exact lK.2);have hp_:Kd.R (Kd.int .i64) 3 nX w.heap.size (fun _=>True) (.slice (some ⟨qX,0,none⟩) cu.length vX) kz:=(by rw[hw,qb.out];exact lK.1);clear lK;replace HO_6:=Z_ (hp_);replace HB:=Z_ ((by rw[hw];exact below_set (HB.out) Di.out:Below w.heap.size w nX));clear hg hw hp_))
        (try simp only[←jC])
        go_roundg k1
        case measure=>have:=jb.out;omega
        case rel=>exact⟨(kz),(wrap64 (bD+1)),(E1_),H',⟨by have:=jb.out;omega⟩,⟨by(try simp only[jC]);(with_reducible repeat (first|apply Kd.R_alloc|apply Kd.R_drewN|apply Kd.R_drew));exact HO_6.out⟩,⟨B_⟩⟩
       ·rw[if_neg c11] at H;exact absurd H (by simp)
      ·rw[if_neg c10] at H;exact absurd H (by simp)
     ·rw[if_neg c9] at H;exact absurd H (by simp)
    ·rw[if_neg c8] at H;have c8b0:=df_ c8;(first|(have c8b0x_:=c8b0;rw[jC] at c8b0x_)|(have c8b0x_:=c8b0;rw[←jC] at c8b0x_)|skip);clear c8;replace H:=Ob_ H;obtain⟨t107,jZ,H⟩:=H;(try dsimp only at H);have yL:=Z_ jZ;clear jZ
     by_cases c17:t107=true
     ·subst c17;rw[if_pos rfl] at H;simp only[Option.some.injEq,Prod.mk.injEq] at H;obtain⟨rfl,rfl⟩:=H
      go_wp2_with (first|(refine G_ 29 Tryz.func116 #[.slice DT cu.length vX,.int .i64 a1] ?_;refine(shift_may.calls _ _ cu a1 true _ (C_ (Kd.R_reads' HO_6.out).2.2) ((Kd.R_reads' HO_6.out).2.1) yL.out).mono ?_;rintro e w' ⟨rfl,⟨nd,rfl⟩⟩;refine⟨_,rfl,?_⟩))
      go_ret2;exact⟨_,E_,R_ HO_6,B_⟩
     ·replace c17:=Bool.eq_false_iff.mpr c17;subst c17;rw[if_neg (show ¬(false=true) by decide)] at H;simp only[Option.some.injEq,Prod.mk.injEq] at H;obtain⟨rfl,rfl⟩:=H
      go_wp2_with (first|(refine G_ 29 Tryz.func116 #[.slice DT cu.length vX,.int .i64 a1] ?_;refine(shift_may.calls _ _ cu a1 false _ (C_ (Kd.R_reads' HO_6.out).2.2) ((Kd.R_reads' HO_6.out).2.1) yL.out).mono ?_;rintro e w' ⟨rfl,⟨nd,rfl⟩⟩;refine⟨_,rfl,?_⟩))
      go_ret2;exact⟨_,E_,by first|exact Kd.R_nil _ _ _ _ _|exact Kd.N_nil _ _ _ _ _|exact Kd.V_nil _ _ _ _ _|exact Kd.Q_nil _ _ _ _ _|exact Kd.S_nil _ _ _ _ _,B_⟩
 ·replace c4:=Bool.eq_false_iff.mpr c4;subst c4;rw[if_neg (show ¬(false=true) by decide)] at H;simp only[Option.some.injEq,Prod.mk.injEq] at H;obtain⟨rfl,rfl⟩:=H
  go_enter Tryz.func123,Tryz.ntmps123
  go_wp2_with (first|(refine G_ 10 Tryz.func116 #[.slice A0 l0.length c0,.int .i64 a1] ?_;refine(shift_may.calls _ _ l0 a1 false _ (C_ cO.out) mY.out A3.out).mono ?_;rintro e w' ⟨rfl,⟨nd,rfl⟩⟩;refine⟨_,rfl,?_⟩))
  go_ret2;exact⟨_,E_,by first|exact Kd.R_nil _ _ _ _ _|exact Kd.N_nil _ _ _ _ _|exact Kd.V_nil _ _ _ _ _|exact Kd.Q_nil _ _ _ _ _|exact Kd.S_nil _ _ _ _ _,B_⟩
mutual
def side_turn.l0:Nat→List (List Int)→Int→List (List Int)→List (List Int)→Int→Int→Option ((List (List Int))×Int)
 |0,_,_,_,_,_,_=>none
 |k+1,x0,x1,x6,vV,nR,oG=>if oG<nR then(if 0≤oG then(if oG<(vV.length:Int) then((slices_Clone_int_int.f (rd_L1 vV oG)).bind fun kC=>(side_turn.l1 k x0 x1 x6 oG kC vV nR oG (kC.length:Int) 0)) else(none)) else(none)) else((side_May.f x6).bind fun t109=>(if t109=true then(some (x6,0)) else(some (([]:List (List Int)),1700))))
def side_turn.l1:Nat→List (List Int)→Int→List (List Int)→Int→List Int→List (List Int)→Int→Int→Int→Int→Option ((List (List Int))×Int)
 |0,_,_,_,_,_,_,_,_,_,_=>none
 |k+1,x0,x1,x6,x7,x9,vV,nR,oG,x24,x25=>if x25<x24 then(if 0≤x25 then(if x25<(x9.length:Int) then(if 0<(x0.length:Int) then(if x25<((rd_L1 x0 0).length:Int) then(side_turn.l1 k x0 x1 x6 x7 (x9.set (x25:Int).toNat (wrap64 ((rd x9 x25)+(wrap64 ((wrap64 (x7*x1))*(rd (rd_L1 x0 0) x25)))))) vV nR oG x24 (wrap64 (x25+1))) else(none)) else(none)) else(none)) else(none)) else(if x6.length<5864062014805 then(side_turn.l0 k x0 x1 (x6++ [x9]) vV nR (wrap64 (oG+1))) else(none))
end
def side_turn.f(k:Nat)(l0:List (List Int))(a1:Int):Option ((List (List Int))×Int):=(side_May.f l0).bind fun aM=>(if aM=true then(side_turn.l0 k l0 a1 ([]:List (List Int)) l0 (l0.length:Int) 0) else(some (([]:List (List Int)),1700)))
theorem side_turn.mono_l:∀k,(∀y0 y1 y2 y3 y4 y5,LeO (side_turn.l0 k y0 y1 y2 y3 y4 y5) (side_turn.l0 (k+1) y0 y1 y2 y3 y4 y5))∧(∀y0 y1 y2 y3 y4 y5 y6 y7 y8 y9,LeO (side_turn.l1 k y0 y1 y2 y3 y4 y5 y6 y7 y8 y9) (side_turn.l1 (k+1) y0 y1 y2 y3 y4 y5 y6 y7 y8 y9))
 |0=>⟨fun _ _ _ _ _ _ r h=>by simp[side_turn.l0] at h,fun _ _ _ _ _ _ _ _ _ _ r h=>by simp[side_turn.l1] at h⟩
 |k+1=>by
  obtain⟨fD,ih1⟩:=side_turn.mono_l k;refine⟨?_,?_⟩
  ·intro y0 y1 y2 y3 y4 y5;unfold side_turn.l0
   repeat' first
   |(with_reducible exact fD _ _ _ _ _ _)
   |(with_reducible exact ih1 _ _ _ _ _ _ _ _ _ _)
   |(with_reducible exact LeO.refl _)
   |(with_reducible exact LeO.none _)
   |(with_reducible refine LeO.ite ?_ ?_)
   |(with_reducible refine LeO.bind ?_ (fun _=>?_))
   |exact fD _ _ _ _ _ _
   |exact ih1 _ _ _ _ _ _ _ _ _ _
   |exact LeO.none _
   |refine LeO.ite ?_ ?_
   |refine LeO.bind ?_ (fun _=>?_)
  ·intro y0 y1 y2 y3 y4 y5 y6 y7 y8 y9;unfold side_turn.l1
   repeat' first
   |(with_reducible exact fD _ _ _ _ _ _)
   |(with_reducible exact ih1 _ _ _ _ _ _ _ _ _ _)
   |(with_reducible exact LeO.refl _)
   |(with_reducible exact LeO.none _)
   |(with_reducible refine LeO.ite ?_ ?_)
   |(with_reducible refine LeO.bind ?_ (fun _=>?_))
   |exact fD _ _ _ _ _ _
   |exact ih1 _ _ _ _ _ _ _ _ _ _
   |exact LeO.none _
   |refine LeO.ite ?_ ?_
   |refine LeO.bind ?_ (fun _=>?_)
theorem side_turn.mono:∀a0 a1 k,LeO (side_turn.f k a0 a1) (side_turn.f (k+1) a0 a1):=by
 intro a0 a1 k;obtain⟨fD,ih1⟩:=side_turn.mono_l k;unfold side_turn.f
 repeat' first
   |(with_reducible exact fD _ _ _ _ _ _)
   |(with_reducible exact ih1 _ _ _ _ _ _ _ _ _ _)
   |(with_reducible exact LeO.refl _)
   |(with_reducible exact LeO.none _)
   |(with_reducible refine LeO.ite ?_ ?_)
   |(with_reducible refine LeO.bind ?_ (fun _=>?_))
   |exact fD _ _ _ _ _ _
   |exact ih1 _ _ _ _ _ _ _ _ _ _
   |exact LeO.none _
   |refine LeO.ite ?_ ?_
   |refine LeO.bind ?_ (fun _=>?_)
def side_turn.T11:Bool×List (List Nat×List Nat):=(true,[([],[]),([],[]),([0,1],[0,1]),([2],[2]),([],[]),([],[]),([4,5],[4,5]),([],[]),([7],[7]),([8],[8]),([],[]),([9,10],[9,10]),([11],[11]),([6,12],[6,12]),([3,13],[3,13]),([0,1,0,1,2,3,4,5,6,7,8,9,10,11,12,13,14],[0,1]),([15,14,0,1,2,3,4,5,6,7,8,9,10,11,12,13,14],[14,15])])
def side_turn.B11:List Nat:= [0,0,3,7,0,0,48,0,128,384,0,1920,3968,8176,16383,32767,65535]
theorem side_turn.tab11:rtab .any (opsOf Tryz.f35 11)=side_turn.T11:=by kernel_rfl
theorem side_turn.bits11:waitsOk side_turn.T11.2 side_turn.B11=true:=by kernel_rfl
theorem side_turn.calls(k:Nat)(A0:Option Addr)(c0:Nat)(l0:List (List Int))(a1:Int)(r1:List (List Int))(r2:Int)(w:World)(hr0:Kd.C (Kd.slice 3 (Kd.int .i64)) w A0 l0.length l0)(hc0:l0.length≤c0)(h:side_turn.f k l0 a1=some (r1,r2)):
  Calls Tryz.prog 35 #[.slice A0 l0.length c0,.int .i64 a1] w fun e w'=>∃eB:Value,e= .returned (.tuple #[eB,.int .i64 r2])∧Kd.S (Kd.slice 3 (Kd.int .i64)) 36 w' w.heap.size (fun _=>True) eB r1∧Below w.heap.size w w':=by
 have cO:=Z_ hr0;have mY:=Z_ hc0;clear hr0 hc0;have HB:=Z_ (Below.refl w.heap.size w);have H:((side_May.f l0).bind fun aM=>(if aM=true then(side_turn.l0 k l0 a1 ([]:List (List Int)) l0 (l0.length:Int) 0) else(some (([]:List (List Int)),1700))))=some (r1,r2):=h;clear h;replace H:=Ob_ H;obtain⟨aM,jw,H⟩:=H;(try dsimp only at H);have A3:=Z_ jw;clear jw
 by_cases c4:aM=true
 ·subst c4;rw[if_pos rfl] at H;have H':=Z_ H;clear H
  go_enter Tryz.func35,Tryz.ntmps35
  go_wp2_with (first|(refine G_ 12 Tryz.func68 #[.slice A0 l0.length c0] ?_;refine(side_May.calls _ _ l0 true _ (C_ cO.out) mY.out A3.out).mono ?_;rintro e w' ⟨rfl,⟨nd,rfl⟩⟩;refine⟨_,rfl,?_⟩))
  go_loopg [6,16] k (fun kq v6 v16 w'=>∃(cu:List (List Int)) (bD:Int),v16= .int .i64 bD∧Aside0 (side_turn.l0 kq l0 a1 cu l0 (l0.length:Int) bD=some (r1,r2))∧Aside0 (kq≤k)∧Aside0 (Kd.S (Kd.slice 3 (Kd.int .i64)) 36 w' w.heap.size (fun _=>True) v6 cu)∧Aside0 (Below w.heap.size w w'))
  case atStart=>exact⟨(([]:List (List Int))),(0),(E1_),H',⟨Nat.le_refl _⟩,⟨by first|exact Kd.S_nil _ _ _ _ _|exact Kd.N_nil _ _ _ _ _|exact Kd.V_nil _ _ _ _ _|exact Kd.Q_nil _ _ _ _ _|exact Kd.R_nil _ _ _ _ _⟩,⟨B_⟩⟩
  case round=>
   clear H'
   try clear p2
   try clear c3
   try clear c4
   obtain⟨cu,bD,rfl,HA,jb,HO_6,HB⟩:=hrel
   cases gk with
   |zero=>exact absurd HA.out (by simp[side_turn.l0])
   |succ k1=>
    have H:=HA.out;clear HA;simp only[side_turn.l0] at H
    by_cases c5:bD<(l0.length:Int)
    ·rw[if_pos c5] at H;have c5b0:=dt_ c5;clear c5
     by_cases c6:0≤bD
     ·rw[if_pos c6] at H;have c6b0:=dt_ c6;clear c6
      by_cases c7:bD<(l0.length:Int)
      ·rw[if_pos c7] at H;have c7b0:=dt_ c7;clear c7;replace H:=Ob_ H;obtain⟨kC,uo,H⟩:=H;(try dsimp only at H);have A8:=Z_ uo;clear uo;have H':=Z_ H;clear H;have lm:0≤(bD:Int):=od_ A_;have lq:bD<(l0.length:Int):=od_ A_;obtain⟨pV,rJ,rM,xS,eT,bM,kw⟩:=at_L1 cO.out bD lm lq
       cases xS
       replace eT:=Hc_ HB.out eT;have ow:=Z_ kw;have uD:=Z_ bM;clear kw bM;replace lm:=eq_true lm;replace lq:=eq_true lq
       go_wp2_with (first|(refine G_ 22 Tryz.func69 #[.slice rJ (rd_L1 l0 bD).length rM] ?_;refine(slices_Clone_int_int.calls _ _ (rd_L1 l0 bD) kC _ (C_ (Kd.C_below ow.out HB.out)) uD.out A8.out).mono ?_;rintro e w9 ⟨Ho,rfl,ho0,hb⟩;refine⟨_,rfl,?_⟩;replace HO_6:=Z_ (Kd.S_elder' (S_ HO_6) (Kd.R_base ho0) hb);have ky:=Z_ (Kd.R_lower ho0 (below_size B_));replace HB:=Hb_ hb;(try clear hb);(try clear ho0);obtain⟨rR,rT,DR⟩:=Kd.R_slice ky.out;subst DR))
       go_loopg [25] k1 (fun kq v25 w'=>∃(bE:List Int) (cK:Int),v25= .int .i64 cK∧Aside0 (side_turn.l1 kq l0 a1 cu bD bE l0 (l0.length:Int) bD (kC.length:Int) cK=some (r1,r2))∧Aside0 (kq≤k1)∧Aside0 (Kd.S (Kd.slice 3 (Kd.int .i64)) 36 w' w.heap.size (fun k_=>some k_≠((.slice rR kC.length rT):Value).ownBlock) u6 cu)∧Aside0 (Kd.R (Kd.int .i64) 3 w' w.heap.size (fun _=>True) (.slice rR kC.length rT) bE)∧Aside0 (Below w.heap.size w w'))
       case atStart=>exact⟨(kC),(0),(E1_),H',⟨Nat.le_refl _⟩,⟨by(with_reducible repeat (first|apply Kd.S_alloc|apply Kd.S_drewN|apply Kd.S_drew));exact Kd.S_mono HO_6.out (fun _ hk=>hk.2)⟩,⟨R_ ky⟩,⟨B_⟩⟩
       case round=>
        clear H'
        try clear c1
        try clear p1
        try clear q1
        try clear hx1
        try clear p2
        try clear c3
        try clear c4
        try clear c5
        try clear c5b0
        try clear c6
        try clear c6b0
        try clear c7
        try clear c7b0
        try clear eT
        try clear lm
        try clear p2
        try clear lq
        obtain⟨bE,cK,rfl,HA,iq,HO_6,HO_9,HB⟩:=hrel;have fw:=(Kd.R_reads' HO_9.out).1;rw[fw] at HO_9;(try simp only[fw]);(try simp only[fw] at HO_6)
        cases gk with
        |zero=>exact absurd HA.out (by simp[side_turn.l1])
        |succ k2=>
         have H:=HA.out;clear HA;simp only[side_turn.l1] at H
         by_cases c11:cK<(kC.length:Int)
         ·rw[if_pos c11] at H;have c11b0:=dt_ c11;(first|(have c11b0x_:=c11b0;rw[bM] at c11b0x_)|(have c11b0x_:=c11b0;rw[←bM] at c11b0x_)|(have c11b0x_:=c11b0;rw[fw] at c11b0x_)|(have c11b0x_:=c11b0;rw[←fw] at c11b0x_)|skip);clear c11
          by_cases c12:0≤cK
          ·rw[if_pos c12] at H;have c12b0:=dt_ c12;clear c12
           by_cases c13:cK<(bE.length:Int)
           ·rw[if_pos c13] at H;have c13b0:=dt_ c13;(first|(have c13b0x_:=c13b0;rw[bM] at c13b0x_)|(have c13b0x_:=c13b0;rw[←bM] at c13b0x_)|(have c13b0x_:=c13b0;rw[fw] at c13b0x_)|(have c13b0x_:=c13b0;rw[←fw] at c13b0x_)|skip);clear c13
            by_cases c14:0<(l0.length:Int)
            ·rw[if_pos c14] at H;have c14b0:=dt_ c14;(first|(have c14b0x_:=c14b0;rw[bM] at c14b0x_)|(have c14b0x_:=c14b0;rw[←bM] at c14b0x_)|(have c14b0x_:=c14b0;rw[fw] at c14b0x_)|(have c14b0x_:=c14b0;rw[←fw] at c14b0x_)|skip);have c14b1:decide (0<l0.length)=true:=dt_ (by omega);clear c14
             by_cases c15:cK<((rd_L1 l0 0).length:Int)
             ·rw[if_pos c15] at H;have c15b0:=dt_ c15;clear c15;obtain⟨yU,iY⟩:∃y_:List Int,y_=(bE.set (cK:Int).toNat (wrap64 ((rd bE cK)+(wrap64 ((wrap64 (bD*a1))*(rd (rd_L1 l0 0) cK)))))):=⟨_,rfl⟩;replace H:(side_turn.l1 k2 l0 a1 cu bD yU l0 (l0.length:Int) bD (kC.length:Int) (wrap64 (cK+1)))=some (r1,r2):=by first|(rw[iY];with_reducible exact H)|(have bS:=(bs_ _ _).symm.trans H;rw[iY];with_reducible exact bS)|(have bS:=(bs_ _ _).symm.trans H;with_reducible exact bS)|with_reducible exact H|(rw[iY];exact H)|exact H
              have sK:=Z_ iY;clear iY;have H':=Z_ H;clear H
              try go_wp2
              replace HO_6:=Z_ (Kd.S_drew HO_6.out);replace HO_9:=Z_ (Kd.R_drew HO_9.out);replace HB:=Z_ (below_drew1 HB.out);have mJ:0≤(cK:Int):=od_ A_;have mK:cK<(bE.length:Int):=od_ A_;obtain⟨uJ,xY,gm⟩:=Kd.at_int (Kd.R_reads' HO_9.out).2.2 cK mJ mK
              cases xY
              replace mJ:=eq_true mJ;replace mK:=eq_true mK;have lu:0≤(0:Int):=(by omega);have lw:0<(l0.length:Int):=od_ A_;obtain⟨uK,yh,rU,e115,dC,di,kD⟩:=at_L1 cO.out 0 lu lw;have gX:=dC;(try rw[show((0:Int)).toNat=0 from rfl] at gX);(try rw[show 0*1=0 from rfl] at gX);(try rw[Addr.add_zero'] at gX);obtain rfl:pV=uK:=(by injection e115);have Tw:(0<l0.length)=True:=eq_true (by omega);(try rw[show((0:Int)).toNat=0 from rfl] at dC);(try rw[Addr.add_zero'] at dC);replace dC:=Hc_ HB.out dC;have jm:=Z_ kD;have uL:=Z_ di;clear kD di;replace lu:=eq_true lu;replace lw:=eq_true lw;have DX:0≤(cK:Int):=od_ A_;have DY:cK<((rd_L1 l0 0).length:Int):=od_ A_;obtain⟨BM,e116,lS⟩:=Kd.at_int jm.out cK DX DY;have Al:=lS
              cases e116
              replace lS:=Hc_ HB.out lS;replace DX:=eq_true DX;replace DY:=eq_true DY;have p16:0≤(cK:Int):=od_ A_;have q16:(cK:Int)<((bE.length:Int):Int):=od_ A_;obtain⟨DZ,Qe,zT,Hq,QY,VL,Hr⟩:=Kd.R_form HO_9.out (by omega);(first|cases zT|(injection zT with ea_ en_ ec_;(first|subst ea_|(injection ea_ with ea_;subst ea_));subst ec_;clear en_));have VM:=Z_ Hq;have QZ:=Z_ Hr;clear Hq QY Hr;(first|simp only[add_plain] at gm|skip);obtain⟨D5,D6⟩:=Kd.R_celln 0 HO_9.out (cK:Int) p16 q16;replace p16:=eq_true p16;replace q16:=eq_true q16;have D7:=Kd.R_putn HO_9.out (cK:Int) (wrap64 ((rd bE cK)+(wrap64 ((wrap64 (bD*a1))*(rd (rd_L1 l0 0) cK)))));rw[←sK.out] at D7;have Ht:=Z_ D7;clear D7;refine start_ (n:=17) (S:=fun w'=>w'.cell? ⟨DZ,(cK).toNat,none⟩=some (.int .i64 (rd bE cK))∧w'.cell? pV=some (.slice (some BM) (rd_L1 l0 0).length rU)∧w'.cell? (BM.add (cK).toNat)=some (.int .i64 (rd (rd_L1 l0 0) cK))) (ds:= [16]) #[false,false,false,false,false,false,false,false,false,false,false,false,false,false,false,false,false] (by kernel_rfl) rfl rfl ⟨gm,(Hc_ HB.out gX),(Hc_ HB.out Al)⟩ (fun hHeld=>?_);refine with_tabW side_turn.tab11 side_turn.bits11 (fun HT_ HW_=>?_);generalize wr.drew=Db at HO_6 HO_9 HB QZ Ht jm D6 gm dC lS D5 hHeld ⊢;refine P_ 0 28 ?_;refine P_ 1 29 ?_;refine P_ 2 30 ?_;refine P_ 4 32 ?_;refine P_ 5 33 ?_;refine P_ 6 34 ?_;refine P_ 7 35 ?_;refine P_ 8 36 ?_;refine P_ 10 38 ?_;refine T_ 3 31 (y:=by rintro w' ⟨s0,s1,s2⟩;go_simp;with_reducible rfl) (h:=?_);refine T_ 9 37 (y:=by rintro w' ⟨s0,s1,s2⟩;go_simp;with_reducible rfl) (h:=?_);refine P_ 11 39 ?_;refine T_ 12 40 (y:=by rintro w' ⟨s0,s1,s2⟩;go_simp;with_reducible rfl) (h:=?_);refine P_ 13 41 ?_;refine P_ 14 42 ?_;refine P_ 15 43 ?_;refine last_ (i:=16) (N:=none) #[true,true,true,true,true,true,true,true,true,true,true,true,true,true,true,true,true] rfl rfl (one_of HT_.out (by kernel_rfl)) (by decide) (fun K hK=>?_);refine skip_ (w1:=?_) (by rfl) rfl ?_ ?_;rotate_left
              ·go_simp
               rfl
              refine hK.out _ _ ?_;clear hK K;refine done_ (done_of HT_.out (by kernel_rfl)) ?_
              try go_wp2
              (try simp only[←fw])
              go_roundg k2
              case measure=>have:=jb.out;have:=iq.out;omega
              case rel=>exact⟨(yU),(wrap64 (cK+1)),(E1_),H',⟨by have:=jb.out;have:=iq.out;omega⟩,⟨by(try simp only[fw]);(with_reducible repeat (first|apply Kd.S_alloc|apply Kd.S_drewN|apply Kd.S_drew));exact Kd.S_mono (Kd.S_far (p:=⟨DZ,(cK:Int).toNat,none⟩) (Kd.S_mono HO_6.out (fun k_ hk=>(⟨hk,fun e_=>hk (by rw[e_];rfl)⟩:_∧k_≠DZ))) (fun _ hk=>hk.2) (.int .i64 (wrap64 ((rd bE cK)+(wrap64 ((wrap64 (bD*a1))*(rd (rd_L1 l0 0) cK))))))) (fun _ hk=>hk.1)⟩,⟨by(try simp only[fw]);(with_reducible repeat (first|apply Kd.R_alloc|apply Kd.R_drewN|apply Kd.R_drew));exact Ht.out⟩,⟨B_⟩⟩
             ·rw[if_neg c15] at H;exact absurd H (by simp)
            ·rw[if_neg c14] at H;exact absurd H (by simp)
           ·rw[if_neg c13] at H;exact absurd H (by simp)
          ·rw[if_neg c12] at H;exact absurd H (by simp)
         ·rw[if_neg c11] at H;have c11b0:=df_ c11;(first|(have c11b0x_:=c11b0;rw[bM] at c11b0x_)|(have c11b0x_:=c11b0;rw[←bM] at c11b0x_)|(have c11b0x_:=c11b0;rw[fw] at c11b0x_)|(have c11b0x_:=c11b0;rw[←fw] at c11b0x_)|(have c11b0x_:=c11b0;rw[di] at c11b0x_)|(have c11b0x_:=c11b0;rw[←di] at c11b0x_)|skip);clear c11
          by_cases c19:cu.length<5864062014805
          ·rw[if_pos c19] at H;have Hu:=Z_ c19;clear c19;obtain⟨Hw,qc⟩:∃y_:List (List Int),y_=(cu++ [bE]):=⟨_,rfl⟩;replace H:(side_turn.l0 k2 l0 a1 Hw l0 (l0.length:Int) (wrap64 (bD+1)))=some (r1,r2):=by first|(rw[qc];with_reducible exact H)|(have bS:=(bs_ _ _).symm.trans H;rw[qc];with_reducible exact bS)|(have bS:=(bs_ _ _).symm.trans H;with_reducible exact bS)|with_reducible exact H|(rw[qc];exact H)|exact H
           have Hy:=Z_ qc;clear qc;have H':=Z_ H;clear H
           go_wp2_with (first|((with_reducible refine gate_builtin (b:= .append) (xs:= #[.tmp 45,.tmp 47]) rfl ?_);at_builtin;refine Kd.S_append (Kd.slice 3 (Kd.int .i64)) (w0:=w) w.heap.size rfl (.tmp 45) (.tmp 47) 37 36 (.slice none 0 0) 24 rfl Tryz.underlying37 info36 rfl (by decide) (by omega) u6 cu bE [.slice rR bE.length rT] (fun _=>True) (fun k_=>some k_=(.slice rR bE.length rT:Value).ownBlock) rfl rfl ?aP (fun k_ hk_=>((Kd.R_mono (ok':=fun k_=>((fun _=>True)) k_∧some k_≠(u6:Value).ownBlock) (Kd.R_apart' (HO_9.out) (Kd.S_typed HO_6.out) (by decide)) (fun k_ hk=>⟨trivial,hk.2⟩))).1 k_ hk_.symm) ?aF ?aO ?aB ?aS ?aL ?_;(case aP=>exact Kd.M_row (Kd.R_mono (Kd.R_tight rfl (Kd.R_mono (ok':=fun k_=>((fun _=>True)) k_∧some k_≠(u6:Value).ownBlock) (Kd.R_apart' (HO_9.out) (Kd.S_typed HO_6.out) (by decide)) (fun k_ hk=>⟨trivial,hk.2⟩))) (fun _ h_=>h_)));(case aB=>exact B_);(case aF=>exact(fun _ _=>trivial));(case aO=>exact(by(with_reducible repeat (first|apply Kd.S_alloc|apply Kd.S_drewN|apply Kd.S_drew));exact Kd.S_mono HO_6.out (fun k_ hk=>⟨trivial,fun e_=>hk e_⟩)));(case aS=>exact(below_size B_));(case aL=>have:=Hu.out;omega);intro Q0 nY ho hb hg hat;rw[←Hy.out] at ho;replace HB:=Z_ (hb);have uM:=Z_ (ho);clear HO_6 HO_9;clear ho hb hg hat))
           (try simp only[←fw])
           go_roundg k2
           case measure=>have:=jb.out;have:=iq.out;omega
           case rel=>exact⟨(Hw),(wrap64 (bD+1)),(E1_),H',⟨by have:=jb.out;have:=iq.out;omega⟩,⟨by(try simp only[fw]);(with_reducible repeat (first|apply Kd.S_alloc|apply Kd.S_drewN|apply Kd.S_drew));exact uM.out⟩,⟨B_⟩⟩
          ·rw[if_neg c19] at H;exact absurd H (by simp)
      ·rw[if_neg c7] at H;exact absurd H (by simp)
     ·rw[if_neg c6] at H;exact absurd H (by simp)
    ·rw[if_neg c5] at H;have c5b0:=df_ c5;(first|(have c5b0x_:=c5b0;rw[bM] at c5b0x_)|(have c5b0x_:=c5b0;rw[←bM] at c5b0x_)|(have c5b0x_:=c5b0;rw[fw] at c5b0x_)|(have c5b0x_:=c5b0;rw[←fw] at c5b0x_)|(have c5b0x_:=c5b0;rw[di] at c5b0x_)|(have c5b0x_:=c5b0;rw[←di] at c5b0x_)|skip);clear c5;replace H:=Ob_ H;obtain⟨t109,xn,H⟩:=H;(try dsimp only at H);have Da:=Z_ xn;clear xn
     by_cases qF:t109=true
     ·subst qF;rw[if_pos rfl] at H;simp only[Option.some.injEq,Prod.mk.injEq] at H;obtain⟨rfl,rfl⟩:=H;obtain⟨Q4,Q5,Q6⟩:=Kd.S_slice HO_6.out;subst Q6
      go_wp2_with (first|(refine G_ 51 Tryz.func68 #[.slice Q4 cu.length Q5] ?_;refine(side_May.calls _ _ cu true _ (C_ (Kd.S_reads' HO_6.out).2.2) ((Kd.S_reads' HO_6.out).2.1) Da.out).mono ?_;rintro e w' ⟨rfl,⟨nd,rfl⟩⟩;refine⟨_,rfl,?_⟩))
      go_ret2;exact⟨_,E_,S_ HO_6,B_⟩
     ·replace qF:=Bool.eq_false_iff.mpr qF;subst qF;rw[if_neg (show ¬(false=true) by decide)] at H;simp only[Option.some.injEq,Prod.mk.injEq] at H;obtain⟨rfl,rfl⟩:=H;obtain⟨D9,Ea,Eb⟩:=Kd.S_slice HO_6.out;subst Eb
      go_wp2_with (first|(refine G_ 51 Tryz.func68 #[.slice D9 cu.length Ea] ?_;refine(side_May.calls _ _ cu false _ (C_ (Kd.S_reads' HO_6.out).2.2) ((Kd.S_reads' HO_6.out).2.1) Da.out).mono ?_;rintro e w' ⟨rfl,⟨nd,rfl⟩⟩;refine⟨_,rfl,?_⟩))
      go_ret2;exact⟨_,E_,by first|exact Kd.S_nil _ _ _ _ _|exact Kd.N_nil _ _ _ _ _|exact Kd.V_nil _ _ _ _ _|exact Kd.Q_nil _ _ _ _ _|exact Kd.R_nil _ _ _ _ _,B_⟩
 ·replace c4:=Bool.eq_false_iff.mpr c4;subst c4;rw[if_neg (show ¬(false=true) by decide)] at H;simp only[Option.some.injEq,Prod.mk.injEq] at H;obtain⟨rfl,rfl⟩:=H
  go_enter Tryz.func35,Tryz.ntmps35
  go_wp2_with (first|(refine G_ 12 Tryz.func68 #[.slice A0 l0.length c0] ?_;refine(side_May.calls _ _ l0 false _ (C_ cO.out) mY.out A3.out).mono ?_;rintro e w' ⟨rfl,⟨nd,rfl⟩⟩;refine⟨_,rfl,?_⟩))
  go_ret2;exact⟨_,E_,by first|exact Kd.S_nil _ _ _ _ _|exact Kd.N_nil _ _ _ _ _|exact Kd.V_nil _ _ _ _ _|exact Kd.Q_nil _ _ _ _ _|exact Kd.R_nil _ _ _ _ _,B_⟩
def side_Put.f(k:Nat)(l0:List (List Int)):Option ((List (List Int))×Int):=(side_turn.f k l0 (-1)).bind fun fP=>(some (fP.1,fP.2))
theorem side_Put.mono:∀a0 k,LeO (side_Put.f k a0) (side_Put.f (k+1) a0):=by
 intro a0 k;unfold side_Put.f
 repeat' first
   |(with_reducible exact side_turn.mono _ _ _)
   |(with_reducible exact LeO.refl _)
   |(with_reducible exact LeO.none _)
   |(with_reducible refine LeO.ite ?_ ?_)
   |(with_reducible refine LeO.bind ?_ (fun _=>?_))
   |exact side_turn.mono _ _ _
   |exact LeO.none _
   |refine LeO.ite ?_ ?_
   |refine LeO.bind ?_ (fun _=>?_)
theorem side_Put.calls(k:Nat)(A0:Option Addr)(c0:Nat)(l0:List (List Int))(r1:List (List Int))(r2:Int)(w:World)(hr0:Kd.C (Kd.slice 3 (Kd.int .i64)) w A0 l0.length l0)(hc0:l0.length≤c0)(h:side_Put.f k l0=some (r1,r2)):
  Calls Tryz.prog 15 #[.slice A0 l0.length c0] w fun e w'=>∃eB:Value,e= .returned (.tuple #[eB,.int .i64 r2])∧Kd.S (Kd.slice 3 (Kd.int .i64)) 36 w' w.heap.size (fun _=>True) eB r1∧Below w.heap.size w w':=by
 have cO:=Z_ hr0;have mY:=Z_ hc0;clear hr0 hc0;have HB:=Z_ (Below.refl w.heap.size w);have H:((side_turn.f k l0 (-1)).bind fun fP=>(some (fP.1,fP.2)))=some (r1,r2):=h;clear h;replace H:=Ob_ H;obtain⟨⟨fI,iw⟩,fU,H⟩:=H;replace H:(some (fI,iw))=some (r1,r2):=H;have A2:=Z_ fU;clear fU;simp only[Option.some.injEq,Prod.mk.injEq] at H;obtain⟨rfl,rfl⟩:=H
 go_enter Tryz.func15,Tryz.ntmps15
 go_wp2_with (first|(refine G_ 5 Tryz.func35 #[.slice A0 l0.length c0,.int .i64 (-1)] ?_;refine(side_turn.calls k _ _ l0 (-1) fI iw _ (C_ cO.out) mY.out A2.out).mono ?_;rintro e w3 ⟨Q7,rfl,ho0,hb⟩;refine⟨_,rfl,?_⟩;have uN:=Z_ (Kd.S_lower ho0 (below_size B_));replace HB:=Hb_ hb;(try clear hb);(try clear ho0)))
 go_ret2;exact⟨_,E_,S_ uN,B_⟩
def side_Get.f(k:Nat)(l0:List (List Int)):Option ((List (List Int))×Int):=(side_turn.f k l0 1).bind fun qg=>(some (qg.1,qg.2))
theorem side_Get.calls(k:Nat)(A0:Option Addr)(c0:Nat)(l0:List (List Int))(r1:List (List Int))(r2:Int)(w:World)(hr0:Kd.C (Kd.slice 3 (Kd.int .i64)) w A0 l0.length l0)(hc0:l0.length≤c0)(h:side_Get.f k l0=some (r1,r2)):
  Calls Tryz.prog 122 #[.slice A0 l0.length c0] w fun e w'=>∃eB:Value,e= .returned (.tuple #[eB,.int .i64 r2])∧Kd.S (Kd.slice 3 (Kd.int .i64)) 36 w' w.heap.size (fun _=>True) eB r1∧Below w.heap.size w w':=by
 have cO:=Z_ hr0;have mY:=Z_ hc0;clear hr0 hc0;have HB:=Z_ (Below.refl w.heap.size w);have H:((side_turn.f k l0 1).bind fun qg=>(some (qg.1,qg.2)))=some (r1,r2):=h;clear h;replace H:=Ob_ H;obtain⟨⟨bJ,bu⟩,fU,H⟩:=H;replace H:(some (bJ,bu))=some (r1,r2):=H;have A2:=Z_ fU;clear fU;simp only[Option.some.injEq,Prod.mk.injEq] at H;obtain⟨rfl,rfl⟩:=H
 go_enter Tryz.func122,Tryz.ntmps122
 go_wp2_with (first|(refine G_ 5 Tryz.func35 #[.slice A0 l0.length c0,.int .i64 1] ?_;refine(side_turn.calls k _ _ l0 1 bJ bu _ (C_ cO.out) mY.out A2.out).mono ?_;rintro e w3 ⟨v127,rfl,ho0,hb⟩;refine⟨_,rfl,?_⟩;have Hz:=Z_ (Kd.S_lower ho0 (below_size B_));replace HB:=Hb_ hb;(try clear hb);(try clear ho0)))
 go_ret2;exact⟨_,E_,S_ Hz,B_⟩
def segment_sound_constant.f(ae:ByteArray)(af:Int)(ax:Int):Option (Bool):=(segment_sound_frame.f ae af ax).bind fun iL=>(if 0≤iL then(if iL≤(ae.size:Int) then((segment_sound_many.f ae af ax).bind fun jy=>((strings_Repeat.f (ae.extract 0 (iL:Int).toNat) jy).bind fun qh=>(some (ae.toList==qh.toList)))) else(none)) else(none))
def segment_sound_constant.T1:Bool×List (List Nat×List Nat):=(true,[([],[]),([0],[0]),([],[]),([2],[2]),([],[]),([4],[4]),([3,5],[3,5]),([],[]),([7,5],[7]),([6,8,8],[6,8]),([1,9],[1,9]),([10,9,0,1,2,3,4,5,6,7,8,9,10],[10])])
def segment_sound_constant.B1:List Nat:= [0,1,0,4,0,16,60,0,176,508,1023,2047]
theorem segment_sound_constant.tab1:rtab .any (opsOf Tryz.f49 1)=segment_sound_constant.T1:=by kernel_rfl
theorem segment_sound_constant.bits1:waitsOk segment_sound_constant.T1.2 segment_sound_constant.B1=true:=by kernel_rfl
theorem segment_sound_constant.calls(ae:ByteArray)(af:Int)(ax:Int)(r:Bool)(w:World)(h:segment_sound_constant.f ae af ax=some r):
  Calls Tryz.prog 49 #[.agg #[.string ae,.int .i64 af,.int .i64 ax]] w fun e w'=>e= .returned (.bool r)∧Below w.heap.size w w':=by
 have sN:=Tryz.underlying104;have HB:=Z_ (Below.refl w.heap.size w);have H:((segment_sound_frame.f ae af ax).bind fun iL=>(if 0≤iL then(if iL≤(ae.size:Int) then((segment_sound_many.f ae af ax).bind fun jy=>((strings_Repeat.f (ae.extract 0 (iL:Int).toNat) jy).bind fun qh=>(some (ae.toList==qh.toList)))) else(none)) else(none)))=some r:=h;clear h;replace H:=Ob_ H;obtain⟨iL,fU,H⟩:=H;(try dsimp only at H);have A2:=Z_ fU;clear fU
 by_cases c3:0≤iL
 ·rw[if_pos c3] at H;have c3b0:=eq_true c3;have c3b1:=dt_ c3;clear c3
  by_cases c4:iL≤(ae.size:Int)
  ·rw[if_pos c4] at H;have c4b0:=eq_true c4;have c4b1:=dt_ c4;clear c4;replace H:=Ob_ H;obtain⟨jy,jR,H⟩:=H;(try dsimp only at H);have A5:=Z_ jR;clear jR;replace H:=Ob_ H;obtain⟨qh,pI,H⟩:=H;(try dsimp only at H);have A6:=Z_ pI;clear pI;obtain rfl:=Option.some.inj H
   go_enter Tryz.func49,Tryz.ntmps49
   try go_wp2_with (first|(refine X_ 1 #[.string ae,.int .i64 af,.int .i64 ax] 104 ?_;intro yj hg w7 hbox hb;have eH:=Z_ (hbox);have HY:=Z_ (G2_ hg:w.heap.size≤_);have Tx:=HY;replace HB:=Hb_ hb;clear hb hbox hg))
   replace eH:=Z_ (blk_drew eH.out);replace HB:=Z_ (below_drew1 HB.out);refine start_ (n:=12) (S:=fun w'=>w'.cell? ⟨yj,0,none⟩=some (.string ae)∧w'.cell? ⟨yj,1,none⟩=some (.int .i64 af)∧w'.cell? ⟨yj,2,none⟩=some (.int .i64 ax)) (ds:= []) #[false,false,false,false,false,false,false,false,false,false,false,false] (by kernel_rfl) rfl rfl ⟨(blk_cell eH.out 0).trans rfl,(blk_cell eH.out 1).trans rfl,(blk_cell eH.out 2).trans rfl⟩ (fun hHeld=>?_);refine with_tabW segment_sound_constant.tab1 segment_sound_constant.bits1 (fun HT_ HW_=>?_);generalize w7.drew=w8 at eH HB hHeld ⊢;refine P_ 0 3 ?_;refine P_ 2 5 ?_;refine T_ 1 4 (y:=by rintro w' ⟨s0,s1,s2⟩;go_simp;with_reducible rfl) (h:=?_);refine T_ 3 6 (y:=by rintro w' ⟨s0,s1,s2⟩;go_simp;with_reducible rfl) (h:=?_);refine T_ 4 7 (y:=by rintro w' ⟨s0,s1,s2⟩;go_simp;with_reducible rfl) (h:=?_);refine T_ 7 10 (y:=by rintro w' ⟨s0,s1,s2⟩;go_simp;with_reducible rfl) (h:=?_);refine O_ 5 8 fun K hK=>?_
   refine g_ Tryz.func52 #[.agg #[.string ae,.int .i64 af,.int .i64 ax]] ?_
   with_reducible refine(segment_sound_frame.calls ae af ax iL _ A2.out).mono ?_
   rintro e w9 ⟨rfl,hb⟩;refine⟨_,rfl,?_⟩;replace eH:=Z_ (blk_below (K_ eH) hb);replace HB:=Hb_ hb;(try clear hb);(try clear hb2);(try clear hk);(try clear hi);refine hK.out _ _ ⟨(blk_cell eH.out 0).trans rfl,(blk_cell eH.out 1).trans rfl,(blk_cell eH.out 2).trans rfl⟩ (fun hHeld=>?_);clear hK K;refine Nm_ 8 ?_;refine P_ 6 9 ?_;refine O_ 8 11 fun K hK=>?_
   refine g_ Tryz.func51 #[.agg #[.string ae,.int .i64 af,.int .i64 ax]] ?_
   with_reducible refine(segment_sound_many.calls ae af ax jy _ A5.out).mono ?_
   rintro e o5 ⟨rfl,hb⟩;refine⟨_,rfl,?_⟩;replace eH:=Z_ (blk_below (K_ eH) hb);replace HB:=Hb_ hb;(try clear hb);(try clear hb2);(try clear hk);(try clear hi);refine hK.out _ _ ⟨(blk_cell eH.out 0).trans rfl,(blk_cell eH.out 1).trans rfl,(blk_cell eH.out 2).trans rfl⟩ (fun hHeld=>?_);clear hK K;refine Nm_ 11 ?_;refine O_ 9 12 fun K hK=>?_
   refine g_ Tryz.func81 #[.string (ae.extract 0 (iL:Int).toNat),.int .i64 jy] ?_
   with_reducible refine(strings_Repeat.calls (ae.extract 0 (iL:Int).toNat) jy qh _ A6.out).mono ?_
   rintro e zg ⟨rfl,hb⟩;refine⟨_,rfl,?_⟩;replace eH:=Z_ (blk_below (K_ eH) hb);replace HB:=Hb_ hb;(try clear hb);(try clear hb2);(try clear hk);(try clear hi);refine hK.out _ _ ⟨(blk_cell eH.out 0).trans rfl,(blk_cell eH.out 1).trans rfl,(blk_cell eH.out 2).trans rfl⟩ (fun hHeld=>?_);clear hK K;refine Nm_ 12 ?_;refine P_ 10 13 ?_;refine P_ 11 2 ?_;refine done_ (done_of HT_.out (by kernel_rfl)) ?_
   try go_wp2
   go_ret;exact⟨E_,B_⟩
  ·rw[if_neg c4] at H;exact absurd H (by simp)
 ·rw[if_neg c3] at H;exact absurd H (by simp)
end Go.Proofs.YtfghldonnffldaaGreatDoor.UOne
namespace Go.Proofs.YtfghldonnffldaaGreatDoor
open Go.RowKit YtfghldonnffldaaGreatDoorW.PrintWords YtfghldonnffldaaGreatDoorW.PrintLast YtfghldonnffldaaGreatDoorW.PrintMore TBase
def downL(k:Nat)(l:List Int):List Int:=l.map fun x=>x / (2 ^ k:Nat)
def downTo(k:Nat)(l:List Int)(i:Nat):List Int:=downL k (l.take i)++l.drop i
theorem downL_len(k:Nat)(l:List Int):(downL k l).length=l.length:=List.length_map _
theorem downTo_len(k:Nat)(l:List Int)(i:Nat):(downTo k l i).length=l.length:=by
 unfold downTo;rw[List.length_append,downL_len,List.length_take,List.length_drop];omega
theorem downTo_at(k:Nat)(l:List Int)(i:Nat)(h:i<l.length):(downTo k l i).getD i 0=l.getD i 0:=by
 unfold downTo;have e:(downL k (l.take i)).length=i:=by rw[downL_len,List.length_take];omega
 rw[gD_,List.getElem?_append_right (by omega),e,Nat.sub_self,List.getElem?_drop,Nat.add_zero,←gD_]
theorem downTo_set(k:Nat)(l:List Int)(i:Nat)(h:i<l.length):(downTo k l i).set i (l.getD i 0 / (2 ^ k:Nat))=downTo k l (i+1):=by
 have e:(downL k (l.take i)).length=i:=by rw[downL_len,List.length_take];omega
 have hd:l.drop i=l.getD i 0::l.drop (i+1):=by
  rw[List.drop_eq_getElem_cons h,gD_,gE_ h];rfl
 have ht:l.take (i+1)=l.take i++ [l.getD i 0]:=by
  rw[List.take_succ_eq_append_getElem h,gD_,gE_ h];rfl
 unfold downTo;rw[List.set_append_right i _ (by omega),e,Nat.sub_self,hd,List.set_cons_zero,ht];unfold downL;rw[List.map_append,List.append_assoc];rfl
theorem downTo_all(k:Nat)(l:List Int):downTo k l l.length=downL k l:=by unfold downTo;rw[List.take_of_length_le (Nat.le_refl _),List.drop_length,List.append_nil]
theorem pow15{k:Nat}(h:k≤15):1≤2 ^ k∧2 ^ k≤32768:=⟨Nat.one_le_two_pow,Nat.pow_le_pow_right (n:=2) (by omega) h⟩
theorem shiftDown_calls(A0:Option Addr)(c0:Nat)(l:List Int)(k:Nat)(w:World)(hr0:Kd.C (Kd.int .i64) w A0 l.length l)(hc0:l.length≤c0)(hl:l.length≤17592186044416)(hk:k≤15)(hs:l.any smOdd=false)(hd:∀x∈l,x%(2 ^ k:Nat)=0):
  Calls Tryz.prog 83 #[.slice A0 l.length c0,.int .i64 k] w fun e w'=>∃eB:Value,e= .returned (.tuple #[eB,.int .i64 0])∧Kd.R (Kd.int .i64) 3 w' w.heap.size (fun _=>True) eB (downL k l)∧Below w.heap.size w w':=by
 have MAY:=Lib.hid (shift_may.calls A0 c0 l k true w hr0 hc0 (by unfold shift_may.f;rw[hs,dt_ (show(0:Int)≤k by omega),dt_ (show(k:Int)≤15 by omega)];rfl));have cO:=Z_ hr0;have HD:=Z_ hd;have HSM:=Z_ hs;clear hr0 hs hd
 go_enter Tryz.func83,Tryz.ntmps83
 go_wp2_with fail
 refine MAY.out.mono ?_;rintro e w1 ⟨rfl,⟨⟨n0,rfl⟩⟩⟩
 go_wp2_with fail
 refine(slices_Clone_int_int.calls A0 c0 l l _ (Kd.C_below cO.out (pw_below_drewN (Below.refl _ _) n0)) hc0 (by unfold slices_Clone_int_int.f;rw[if_pos hl])).mono ?_;rintro e w2 ⟨v,rfl,hr,hb⟩;have YW:Aside0 (Below w.heap.size w w2):=⟨below_step (pw_below_drewN (Below.refl _ _) n0) hb⟩;obtain⟨A,c,rfl,hlc,_⟩:=Kd.R_reads hr;have HV:Aside0 (Kd.R (Kd.int .i64) 3 w2 w.heap.size (fun _=>True) (.slice A l.length c) (downTo k l 0)):=⟨hr⟩;clear hr hb;go_wp2
 go_loopg [17] l.length (fun d v17 wr=>∃i:Nat,v17= .int .i64 i∧i+d=l.length∧Aside0 (Kd.R (Kd.int .i64) 3 wr w.heap.size (fun _=>True) (.slice A l.length c) (downTo k l i))∧Aside0 (Below w.heap.size w wr))
 case atStart=>exact⟨0,rfl,by omega,HV,YW⟩
 case round=>
  clear HV YW;obtain⟨i,rfl,hi,HV,YW⟩:=hrel
  cases gk with
  |zero=>
   obtain rfl:i=l.length:=by omega
   rw[downTo_all] at HV;go_wp2;go_ret2;exact⟨_,rfl,HV.out,YW.out⟩
  |succ d=>
   have hlt:i<l.length:=by omega
   have hlt':(i:Int)<l.length:=by omega
   have hi0:(0:Int)≤i:=by omega
   obtain⟨g,co,eo,gb,gl,cl,HG⟩:=Kd.R_form HV.out (by rw[downTo_len];omega);injection eo with ea_ en_ ec_
   subst ea_ ec_;clear en_;have hn:(downTo k l i).length=l.length:=downTo_len k l i;obtain⟨hx_,hf_⟩:=Kd.R_celln 0 HV.out (i:Int) hi0 (by omega);rw[nC_] at hx_ hf_;have hrd:rdOf 0 (downTo k l i) (i:Int)=l.getD i 0:=by unfold rdOf;rw[nC_,downTo_at k l i hlt]
   rw[hrd] at hx_;have HPUT:=Kd.R_putg HV.out (i:Int) (l.getD i 0 / (2 ^ k:Nat));rw[nC_,downTo_set k l i hlt] at HPUT;have hdv:=HD.out (l.getD i 0) (by rw[gD_,gE_ hlt];exact List.getElem_mem _)
   have hsm:csB (l.getD i 0)=true:=by
    have:=List.any_eq_false.1 HSM.out (l.getD i 0) (by rw[gD_,gE_ hlt];exact List.getElem_mem _);unfold smOdd at this
    simpa using this
   have H5:=od_ hsm;obtain⟨x,hx⟩:∃x,l.getD i 0=x:=⟨_,rfl⟩;rw[hx] at hx_ HPUT hdv H5;have hp:=pow15 hk;obtain⟨p,hpp⟩:∃p,2 ^ k=p:=⟨_,rfl⟩;rw[hpp] at hp hdv HPUT;have e0:((2:Int) ^ k)=(p:Int):=by rw[←hpp];exact(Int.natCast_pow 2 k).symm
   obtain⟨y,hy⟩:∃y,x / (p:Int)=y:=⟨_,rfl⟩;rw[hy] at HPUT;have e1:x / 2 ^ k=y:=by rw[e0,hy]
   have e2:y*(p:Int)=x:=by rw[←hy];exact Int.ediv_mul_cancel (Int.dvd_of_emod_eq_zero hdv)
   have e3:wrap64 (y*2 ^ k)=x:=by rw[e0,e2];unfold wrap64;omega
   have hkm:min k 64=k:=by omega
   have hne:(x !=x)=false:=by simp
   have HP:=Z_ HPUT;have GB:=Z_ gb;clear hrd HPUT hdv hsm hx hp hpp e0 hy e2 H5 HG hn gl gb;go_wp2
   go_roundg d
   case measure=>omega
   case rel=>exact⟨i+1,by go_num,by omega,⟨HP.out.1⟩,⟨below_set YW.out GB.out⟩⟩
theorem csB_of{x:Int}(h:csB x=true): -131072≤x∧x≤131072:=od_ h
theorem csB_all{l:List Int}(h:l.any smOdd=false):∀x∈l,csB x=true:=by
 intro x hx;have:=List.any_eq_false.1 h x hx;unfold smOdd at this
 simpa using this
theorem turnOk_put(l:List Int):∀a A B,(∀x∈l,csB x=true)→turnOk onePut a A B l:=by
 induction l with
 |nil=>intro a A B _;exact True.intro
 |cons x r ih=>
  intro a A B h;have hx:=csB_of (h x List.mem_cons_self);exact⟨hx,by omega,ih _ _ _ (fun y hy=>h y (List.mem_cons_of_mem _ hy))⟩
def segment_wasted.f(l0:List (List Int)):Option Int:=if l0.all (fun xs=>!(xs.any smOdd))=true then some (wastedL l0:Int) else none
theorem segment_wasted.calls(A0:Option Addr)(c0:Nat)(l0:List (List Int))(r:Int)(w:World)(hr0:Kd.C (Kd.slice 3 (Kd.int .i64)) w A0 l0.length l0)(hc0:l0.length≤c0)(h:segment_wasted.f l0=some r)(hT:Tabs w:=by exact Tabs.below hT B_):
  Calls Tryz.prog 82 #[.slice A0 l0.length c0] w fun e w'=>e= .returned (.int .i64 r)∧Drawn0 w w':=by
 unfold segment_wasted.f at h
 by_cases hx:l0.all (fun xs=>!(xs.any smOdd))=true
 ·rw[if_pos hx] at h;obtain rfl:=Option.some.inj h;exact(wasted_calls A0 c0 l0 w hT hr0 (fun xs hxs=>by have:=List.all_eq_true.1 hx xs hxs;simpa using this)).mono fun e w' hh=>⟨hh.1,⟨hh.2⟩⟩
 ·rw[if_neg hx] at h
  cases h
def shift_Down.f(l0:List Int)(a1:Int):Option (List Int×Int):=if 0≤a1∧a1≤15∧l0.length≤17592186044416∧l0.any smOdd=false∧l0.all (fun x=>x%(2 ^ a1.toNat:Nat)==0)=true then some (downL a1.toNat l0,0) else none
theorem shift_Down.calls(A0:Option Addr)(c0:Nat)(l0:List Int)(a1:Int)(r1:List Int)(r2:Int)(w:World)(hr0:Kd.C (Kd.int .i64) w A0 l0.length l0)(hc0:l0.length≤c0)(h:shift_Down.f l0 a1=some (r1,r2)):
  Calls Tryz.prog 83 #[.slice A0 l0.length c0,.int .i64 a1] w fun e w'=>∃eB:Value,e= .returned (.tuple #[eB,.int .i64 r2])∧Kd.R (Kd.int .i64) 3 w' w.heap.size (fun _=>True) eB r1∧Below w.heap.size w w':=by
 unfold shift_Down.f at h
 by_cases hx:0≤a1∧a1≤15∧l0.length≤17592186044416∧l0.any smOdd=false∧l0.all (fun x=>x%(2 ^ a1.toNat:Nat)==0)=true
 ·rw[if_pos hx] at h;have h2:=Option.some.inj h;obtain⟨rfl,rfl⟩:=Prod.mk.inj h2;obtain⟨k,rfl⟩:=Int.eq_ofNat_of_zero_le hx.1;rw[nC_] at hx ⊢;exact shiftDown_calls A0 c0 l0 k w hr0 hc0 hx.2.2.1 (by omega) hx.2.2.2.1 (fun x hxx=>by have:=List.all_eq_true.1 hx.2.2.2.2 x hxx;simpa using this)
 ·rw[if_neg hx] at h
  cases h
def lineP(l:List Int):List Int:=turnL onePut 0 zero16 zero16 l
def line_Put.f(l0:List Int):Option (List Int×Int):=if l0.length≤256∧l0.any smOdd=false then some (lineP l0,0) else none
theorem line_Put.calls(A0:Option Addr)(c0:Nat)(l0:List Int)(r1:List Int)(r2:Int)(w:World)(hr0:Kd.C (Kd.int .i64) w A0 l0.length l0)(hc0:l0.length≤c0)(h:line_Put.f l0=some (r1,r2)):
  Calls Tryz.prog 16 #[.slice A0 l0.length c0] w fun e w'=>∃eB:Value,e= .returned (.tuple #[eB,.int .i64 r2])∧Kd.R (Kd.int .i64) 3 w' w.heap.size (fun _=>True) eB r1∧Below w.heap.size w w':=by
 unfold line_Put.f at h
 by_cases hx:l0.length≤256∧l0.any smOdd=false
 ·rw[if_pos hx] at h;have h2:=Option.some.inj h;obtain⟨rfl,rfl⟩:=Prod.mk.inj h2;exact linePut_calls A0 c0 l0 w hr0 hx.1 (turnOk_put l0 _ _ _ (csB_all hx.2))
 ·rw[if_neg hx] at h
  cases h
def numB(x:Int):Bool:=decide (-16777216≤x∧x≤16777216)
def residual_Put.f(l0:List Int):Option (ByteArray×Int):=if l0.length≤256∧l0.all numB=true then some (resPut l0,0) else none
theorem residual_Put.calls(A0:Option Addr)(c0:Nat)(l0:List Int)(r1:ByteArray)(r2:Int)(w:World)(hr0:Kd.C (Kd.int .i64) w A0 l0.length l0)(hc0:l0.length≤c0)(h:residual_Put.f l0=some (r1,r2))(hT:Tabs w:=by exact Tabs.below hT B_):
  Calls Tryz.prog 17 #[.slice A0 l0.length c0] w fun e w'=>e= .returned (.tuple #[.string r1,.int .i64 r2])∧Below w.heap.size w w':=by
 unfold residual_Put.f at h
 by_cases hx:l0.length≤256∧l0.all numB=true
 ·rw[if_pos hx] at h;have h2:=Option.some.inj h;obtain⟨rfl,rfl⟩:=Prod.mk.inj h2;exact resPut_calls A0 c0 l0 w hT hr0 hx.1 (fun x hxx=>by have h3:=List.all_eq_true.1 hx.2 x hxx;unfold numB at h3;have h4:=od_ h3;exact h4)
 ·rw[if_neg hx] at h
  cases h
def ResOf(s:ByteArray)(n:Int)(rs:List Int):Prop:=(rs.length:Int)=n∧rs.length≤256∧(∀x∈rs,numOk x)∧resPut rs=s
open Classical in
noncomputable def residual_Get.f(s:ByteArray)(n:Int):Option (List Int×Int):=if h:∃rs,ResOf s n rs then some (Classical.choose h,0) else none
theorem residual_Get.calls(s:ByteArray)(n:Int)(r1:List Int)(r2:Int)(w:World)(h:residual_Get.f s n=some (r1,r2))(hT:Tabs w:=by exact Tabs.below hT B_):
  Calls Tryz.prog 120 #[.string s,.int .i64 n] w fun e w'=>∃eB:Value,e= .returned (.tuple #[eB,.int .i64 r2])∧Kd.R (Kd.int .i64) 3 w' w.heap.size (fun _=>True) eB r1∧Below w.heap.size w w':=by
 unfold residual_Get.f at h
 by_cases hx:∃rs,ResOf s n rs
 ·rw[dif_pos hx] at h;obtain⟨rfl,rfl⟩:=Prod.mk.inj (Option.some.inj h);obtain⟨h1,h2,h3,h4⟩:=Classical.choose_spec hx;have:=resGet_calls (Classical.choose hx) w hT h2 h3;rw[h1,h4] at this;exact this
 ·rw[dif_neg hx] at h
  cases h
def turnB:Int→List Int→List Int→List Int→Bool
 |_,_,_,[]=>true
 |a,A,B,x::r=>decide ((-131072≤x+cGuess a A B∧x+cGuess a A B≤131072)∧(-16777216≤x∧x≤16777216)) && turnB (x+cGuess a A B) (cA a A (x+cGuess a A B)) (cB a A B (x+cGuess a A B)) r
theorem turnB_ok(l:List Int):∀a A B,turnB a A B l=true→turnOk oneGet a A B l:=by
 induction l with
 |nil=>intro a A B _;exact True.intro
 |cons x r ih=>
  intro a A B h;rw[turnB,Bool.and_eq_true,decide_eq_true_iff] at h;exact⟨h.1.1,h.1.2,ih _ _ _ h.2⟩
def lineG(l:List Int):List Int:=turnL oneGet 0 zero16 zero16 l
def line_Get.f(l0:List Int):Option (List Int×Int):=if l0.length≤256∧turnB 0 zero16 zero16 l0=true then some (lineG l0,0) else none
theorem line_Get.calls(A0:Option Addr)(c0:Nat)(l0:List Int)(r1:List Int)(r2:Int)(w:World)(hr0:Kd.C (Kd.int .i64) w A0 l0.length l0)(hc0:l0.length≤c0)(h:line_Get.f l0=some (r1,r2)):
  Calls Tryz.prog 121 #[.slice A0 l0.length c0] w fun e w'=>∃eB:Value,e= .returned (.tuple #[eB,.int .i64 r2])∧Kd.R (Kd.int .i64) 3 w' w.heap.size (fun _=>True) eB r1∧Below w.heap.size w w':=by
 unfold line_Get.f at h
 by_cases hx:l0.length≤256∧turnB 0 zero16 zero16 l0=true
 ·rw[if_pos hx] at h;obtain⟨rfl,rfl⟩:=Prod.mk.inj (Option.some.inj h);exact lineGet_calls A0 c0 l0 w hr0 hx.1 (turnB_ok l0 _ _ _ hx.2)
 ·rw[if_neg hx] at h
  cases h
theorem lineG_P(l:List Int):∀a A B,COk a A B→(∀x∈l,csB x=true)→turnL oneGet a A B (turnL onePut a A B l)=l∧turnB a A B (turnL onePut a A B l)=true:=by
 induction l with
 |nil=>intro a A B _ _;exact⟨rfl,rfl⟩
 |cons x r ih=>
  intro a A B hc h;have hx:=csB_of (h x List.mem_cons_self);have hg:=cGuess_bd hc;have e:x - cGuess a A B+cGuess a A B=x:=by omega
  obtain⟨h1,h2⟩:=ih x (cA a A x) (cB a A B x) (cLearn_ok hc hx) (fun y hy=>h y (List.mem_cons_of_mem _ hy))
  constructor
  ·show(x - cGuess a A B+cGuess a A B)::turnL oneGet (x - cGuess a A B+cGuess a A B) (cA a A (x - cGuess a A B+cGuess a A B)) (cB a A B (x - cGuess a A B+cGuess a A B)) (turnL onePut x (cA a A x) (cB a A B x) r)=x::r;rw[e,h1]
  ·show(decide ((-131072≤x - cGuess a A B+cGuess a A B∧x - cGuess a A B+cGuess a A B≤131072)∧(-16777216≤x - cGuess a A B∧x - cGuess a A B≤16777216)) && turnB (x - cGuess a A B+cGuess a A B) (cA a A (x - cGuess a A B+cGuess a A B)) (cB a A B (x - cGuess a A B+cGuess a A B)) (turnL onePut x (cA a A x) (cB a A B x) r))=true;rw[e,h2,Bool.and_true,decide_eq_true_iff];exact⟨hx,by omega⟩
theorem lineP_len(l:List Int):∀a A B,(turnL onePut a A B l).length=l.length:=by
 induction l with
 |nil=>intro a A B;rfl
 |cons x r ih=>intro a A B;rw[turnL,List.length_cons,ih,List.length_cons]
theorem lineGet_f(l:List Int)(hl:l.length≤256)(h:∀x∈l,csB x=true):line_Get.f (lineP l)=some (l,0):=by
 obtain⟨h1,h2⟩:=lineG_P l 0 zero16 zero16 zero_ok h;unfold line_Get.f lineG lineP;rw[lineP_len,h1,if_pos ⟨hl,h2⟩]
theorem Gm.low_inj(n:Nat):∀v v':Nat,v / 2 ^ n=v' / 2 ^ n→Gm.low n v=Gm.low n v'→v=v':=by
 induction n with
 |zero=>intro v v' h _;rwa [Nat.pow_zero,Nat.div_one,Nat.div_one] at h
 |succ n ih=>
  intro v v' h hl;rw[Gm.low,Gm.low] at hl;injection hl with h1 h2
  refine ih v v' ?_ h2;rw[Nat.pow_succ,←Nat.div_div_eq_div_mul,←Nat.div_div_eq_div_mul] at h;generalize v / 2 ^ n=x at h h1 ⊢;generalize v' / 2 ^ n=y at h h1 ⊢;omega
theorem Gm.top(u:Nat)(h:u≤33554432):(u+1) / 2 ^ Gm.len u=1:=by
 obtain⟨h1,h2,-⟩:=Gm.len_spec u h;rw[Nat.pow_succ] at h2;exact Nat.div_eq_of_lt_le (by omega) (by omega)
theorem Gm.gb_inj(u u':Nat)(h:u≤33554432)(h':u'≤33554432)(e:Gm.gb u=Gm.gb u'):u=u':=by
 have hl:Gm.len u=Gm.len u':=by rw[←Gm.onesL_gb u,←Gm.onesL_gb u',e]
 have t:=Gm.top u h;have t':=Gm.top u' h';unfold Gm.gb at e;rw[←hl] at e t';have e2:=List.append_cancel_left e;injection e2 with _ e3
 have:=Gm.low_inj _ _ _ (t.trans t'.symm) e3;omega
theorem foldN_inj{x y:Int}(h:numOk x)(h':numOk y)(e:foldN x=foldN y):x=y:=by
 have h1:=foldGet_f h;rw[e,foldGet_f h'] at h1;exact(Prod.mk.inj (Option.some.inj h1)).1.symm
theorem WS.same_bits{s:ByteArray}(before:Nat)(hs:s.size≤65536)(t:WS)(r r':List Int)(h:t.ok)(hb:∀x∈r,x=0∨x=1)(hb':∀x∈r',x=0∨x=1)(ho:t.out.size+4*r.length≤65536)(ho':t.out.size+4*r'.length≤65536)(g:WS.good s (WS.bits before t r))(g':WS.good s (WS.bits before t r')):
  ∀i,i≤r.length→i≤r'.length→r.take i=r'.take i:=by
 have G:=WS.good_bits before hs r t h hb ho g;have G':=WS.good_bits before hs r' t h hb' ho' g';intro i
 induction i with
 |zero=>intro _ _;rfl
 |succ i ih=>
  intro hi hi';have e:=ih (by omega) (by omega);have hx:r.getD i 0=0∨r.getD i 0=1:=hb _ (by rw[gD_,gE_ (show i<r.length by omega)];exact List.getElem_mem _);have hx':r'.getD i 0=0∨r'.getD i 0=1:=hb' _ (by rw[gD_,gE_ (show i<r'.length by omega)];exact List.getElem_mem _);obtain⟨h1,h2⟩:=WS.bits_ok before (r.take i) t h (fun x hx=>hb x (List.mem_of_mem_take hx)) (by rw[List.length_take];omega);rw[List.length_take] at h2;have g1:=G (i+1) hi;have g2:=G' (i+1) hi';rw[bits_take _ _ _ _ (by omega)] at g1 g2;rw[←e] at g2;have k1:=(WS.good_back h1 hx (by omega) hs g1).2;have k2:=(WS.good_back h1 hx' (by omega) hs g2).2;have k3:=k1.symm.trans k2;simp only[Prod.mk.injEq] at k3;have hbit:r.getD i 0=r'.getD i 0:=k3.2.2.2.2.2.1;rw[List.take_succ_eq_append_getElem (show i<r.length by omega),List.take_succ_eq_append_getElem (show i<r'.length by omega),e];rw[gD_,gD_,gE_ (show i<r.length by omega),gE_ (show i<r'.length by omega)] at hbit;have hb2:r[i]=r'[i]:=hbit;rw[hb2]
theorem Gm.pre(u u':Nat)(hl:(Gm.gb u).length≤(Gm.gb u').length)(e:Gm.gb u=(Gm.gb u').take (Gm.gb u).length):Gm.gb u=Gm.gb u':=by
 have hz:zeroL (Gm.gb u)=true:=Gm.zero_gb _ _;have h1:=(Gm.take_gb u' (Gm.gb u).length hl).2.1 (by rw[←e];exact hz);rw[←e,Gm.onesL_gb] at h1;have hh:(Gm.gb u).length=(Gm.gb u').length:=by rw[Gm.gb_len,Gm.gb_len,h1]
 rw[e,hh,List.take_of_length_le (Nat.le_refl _)]
theorem WN.same_num{s:ByteArray}(hs:s.size≤65536)(t:WN)(x x':Int)(h:t.ok)(hx:numOk x)(hx':numOk x')(ho:t.out.size+204≤65536)(g:WS.good s (t.num x).ws)(g':WS.good s (t.num x').ws):x=x':=by
 have hl:=Gm.gb_len (foldN x);have hl':=Gm.gb_len (foldN x');have h1:=Gm.len_le _ (foldN_le hx);have h1':=Gm.len_le _ (foldN_le hx');have S:=WS.same_bits t.before hs t.ws (Gm.gb (foldN x)) (Gm.gb (foldN x')) h.1 (Gm.gb_bit _) (Gm.gb_bit _) (by show t.out.size+_≤_;omega) (by show t.out.size+_≤_;omega) g g'
 have e:Gm.gb (foldN x)=Gm.gb (foldN x'):=by
  rcases Nat.le_total (Gm.gb (foldN x)).length (Gm.gb (foldN x')).length with hh|hh
  ·have:=S _ (Nat.le_refl _) hh;rw[List.take_of_length_le (Nat.le_refl _)] at this;exact Gm.pre _ _ hh this
  ·have:=S _ hh (Nat.le_refl _);rw[List.take_of_length_le (Nat.le_refl (Gm.gb (foldN x')).length)] at this;exact(Gm.pre _ _ hh this.symm).symm
 exact foldN_inj hx hx' (Gm.gb_inj _ _ (foldN_le hx) (foldN_le hx') e)
theorem WN.same_nums{s:ByteArray}(hs:s.size≤65536)(r:List Int):∀(r':List Int) (t:WN),r.length=r'.length→t.ok→(∀x∈r,numOk x)→(∀x∈r',numOk x)→t.out.size+204*r.length≤65536→WS.good s (t.nums r).ws→WS.good s (t.nums r').ws→r=r':=by
 induction r with
 |nil=>intro r' t hl _ _ _ _ _ _;exact(List.length_eq_zero_iff.1 hl.symm).symm
 |cons x r ih=>
  intro r' t hl h hx hx' ho g g'
  cases r' with
  |nil=>exact absurd hl (by simp)
  |cons x' r'=>
   have hl2:r.length=r'.length:=by simpa using hl
   have hl3:(x'::r').length=(x::r).length:=hl.symm;have g1:=WN.good_nums hs (x::r) t h hx ho g 1 (by simp);have g2:=WN.good_nums hs (x'::r') t h hx' (by rw[hl3];exact ho) g' 1 (by simp);rw[List.length_cons] at ho;have m1:=hx x List.mem_cons_self;have m2:=hx' x' List.mem_cons_self;have e:=WN.same_num hs t x x' h m1 m2 (by omega) g1 g2;subst e;obtain⟨k1,k2⟩:=WN.num_ok h m1 (by omega);rw[ih r' (t.num x) hl2 k1 (fun y hy=>hx y (List.mem_cons_of_mem _ hy)) (fun y hy=>hx' y (List.mem_cons_of_mem _ hy)) (by omega) g g']
theorem residualGet_f(rs:List Int)(hl:rs.length≤256)(hx:∀x∈rs,numOk x):residual_Get.f (resPut rs) rs.length=some (rs,0):=by
 have hex:∃r,ResOf (resPut rs) rs.length r:=⟨rs,rfl,hl,hx,rfl⟩;unfold residual_Get.f;rw[dif_pos hex];obtain⟨h1,h2,h3,h4⟩:=Classical.choose_spec hex;have g:=res_good (Classical.choose hex) h2 h3;rw[h4] at g;rw[WN.same_nums (resPut_le rs hl hx) (Classical.choose hex) rs WN.new (by omega) WN.new_ok h3 hx (by show 0+_≤_;omega) g (res_good rs hl hx)]
end Go.Proofs.YtfghldonnffldaaGreatDoor
namespace Go.Proofs.YtfghldonnffldaaGreatDoor.YFou
open Go.RowKit TBase UOne VTwo XThr YtfghldonnffldaaGreatDoorW.PrintWords YtfghldonnffldaaGreatDoorW.PrintLast YtfghldonnffldaaGreatDoorW.PrintMore
attribute [local go_sem] max2_int min2_int max_two min_two max_three min_three max_four min_four
theorem info3:(Tryz.prog.info? 3).map (fun i=>(i.zero,i.size,i.bytes))=some (some (.int .i64 0),1,8):=by kernel_rfl
def rd_L2(xs:List (List Int))(i:Int):(List Int):=xs.getD i.toNat ([]:List Int)
theorem at_L2{w:World}{A:Option Addr}{n:Nat}{xs:List (List Int)}(h:Kd.C (Kd.slice 3 (Kd.int .i64)) w A n xs)(i:Int)(h0:0≤i)(h1:i<n):∃ad A0 c0,A=some ad∧w.cell? (ad.add i.toNat)=some (.slice A0 (rd_L2 xs i).length c0)∧(rd_L2 xs i).length≤c0∧(Kd.int .i64).C w A0 (rd_L2 xs i).length (rd_L2 xs i):=by
 obtain⟨ad,c,e,_,hK,hc0⟩:=Kd.C_get h ([]:List Int) i h0 h1;have hc:∀j u,c[j]?=some u→w.cell? (ad.add (i.toNat*1+j))=some u:=hc0;obtain⟨A0,c0,rfl,l0,g0⟩:=hK;exact⟨ad,A0,c0,e,by have hq:=hc 0 _ rfl;rwa [Nat.mul_one,Nat.add_zero] at hq,l0,g0⟩
def segment_told.f(k:Nat)(a0:Int)(a1:Int)(a2:Int)(a3:ByteArray):Option (ByteArray):=(field_Put.f k (a3.size:Int) 2).bind fun bA=>((some (([(a0)%256,(a1)%256,(a2)%256]:List Int):List Int)).bind fun fJ=>(if(strOfNums fJ).size+bA.1.size≤9223372036854775807 then(if((strOfNums fJ)++bA.1).size+a3.size≤9223372036854775807 then((crc_Sum.f (((strOfNums fJ)++bA.1)++a3)).bind fun ag=>((field_Put.f k ag 4).bind fun lH=>(if(((strOfNums fJ)++bA.1)++a3).size+lH.1.size≤9223372036854775807 then(some ((((strOfNums fJ)++bA.1)++a3)++lH.1)) else(none)))) else(none)) else(none)))
theorem segment_told.mono:∀a0 a1 a2 a3 k,LeO (segment_told.f k a0 a1 a2 a3) (segment_told.f (k+1) a0 a1 a2 a3):=by
 intro a0 a1 a2 a3 k;unfold segment_told.f
 repeat' first
   |(with_reducible exact field_Put.mono _ _ _)
   |(with_reducible exact LeO.refl _)
   |(with_reducible exact LeO.none _)
   |(with_reducible refine LeO.ite ?_ ?_)
   |(with_reducible refine LeO.bind ?_ (fun _=>?_))
   |exact field_Put.mono _ _ _
   |exact LeO.none _
   |refine LeO.ite ?_ ?_
   |refine LeO.bind ?_ (fun _=>?_)
theorem segment_told.calls(k:Nat)(a0:Int)(a1:Int)(a2:Int)(a3:ByteArray)(r:ByteArray)(w:World)(h:segment_told.f k a0 a1 a2 a3=some r):
  Calls Tryz.prog 50 #[.int .i64 a0,.int .i64 a1,.int .i64 a2,.string a3] w fun e w'=>e= .returned (.string r)∧Below w.heap.size w w':=by
 have HB:=Z_ (Below.refl w.heap.size w);have H:((field_Put.f k (a3.size:Int) 2).bind fun bA=>((some (([(a0)%256,(a1)%256,(a2)%256]:List Int):List Int)).bind fun fJ=>(if(strOfNums fJ).size+bA.1.size≤9223372036854775807 then(if((strOfNums fJ)++bA.1).size+a3.size≤9223372036854775807 then((crc_Sum.f (((strOfNums fJ)++bA.1)++a3)).bind fun ag=>((field_Put.f k ag 4).bind fun lH=>(if(((strOfNums fJ)++bA.1)++a3).size+lH.1.size≤9223372036854775807 then(some ((((strOfNums fJ)++bA.1)++a3)++lH.1)) else(none)))) else(none)) else(none))))=some r:=h;clear h;replace H:=Ob_ H;obtain⟨⟨bv,ah⟩,jR,H⟩:=H;(try dsimp only at H);have A5:=Z_ jR;clear jR;obtain⟨fJ,qi⟩:∃y_:List Int,y_=(([(a0)%256,(a1)%256,(a2)%256]:List Int)):=⟨_,rfl⟩;replace H:(if(strOfNums fJ).size+bv.size≤9223372036854775807 then(if((strOfNums fJ)++bv).size+a3.size≤9223372036854775807 then((crc_Sum.f (((strOfNums fJ)++bv)++a3)).bind fun ag=>((field_Put.f k ag 4).bind fun lH=>(if(((strOfNums fJ)++bv)++a3).size+lH.1.size≤9223372036854775807 then(some ((((strOfNums fJ)++bv)++a3)++lH.1)) else(none)))) else(none)) else(none))=some r:=by first|(rw[qi];with_reducible exact H)|(have bS:=(bs_ _ _).symm.trans H;rw[qi];with_reducible exact bS)|(have bS:=(bs_ _ _).symm.trans H;with_reducible exact bS)|with_reducible exact H|(rw[qi];exact H)|exact H
 have BN:=Z_ qi;clear qi
 by_cases c6:(strOfNums fJ).size+bv.size≤9223372036854775807
 ·rw[if_pos c6] at H;have c6b0:=eq_true c6;have c6b1:=dt_ c6
  try have c6b2:(9223372036854775807<(strOfNums fJ).size+bv.size)=False:=eq_false (Nat.not_lt.2 c6)
  by_cases c7:((strOfNums fJ)++bv).size+a3.size≤9223372036854775807
  ·rw[if_pos c7] at H;have c7b0:=eq_true c7;have c7b1:=dt_ c7
   try have c7b2:(9223372036854775807<((strOfNums fJ)++bv).size+a3.size)=False:=eq_false (Nat.not_lt.2 c7)
   (try (have c7b3:=c7b2;simp only[ByteArray.size_append] at c7b3));replace H:=Ob_ H;obtain⟨ag,uo,H⟩:=H;(try dsimp only at H);have A8:=Z_ uo;clear uo;replace H:=Ob_ H;obtain⟨⟨t107,aM⟩,Bp,H⟩:=H;(try dsimp only at H);have A9:=Z_ Bp;clear Bp
   by_cases c10:(((strOfNums fJ)++bv)++a3).size+t107.size≤9223372036854775807
   ·rw[if_pos c10] at H;have c10b0:=eq_true c10;have c10b1:=dt_ c10
    try have c10b2:(9223372036854775807<(((strOfNums fJ)++bv)++a3).size+t107.size)=False:=eq_false (Nat.not_lt.2 c10)
    (try (have c10b3:=c10b2;simp only[ByteArray.size_append] at c10b3));obtain rfl:=Option.some.inj H
    go_enter Tryz.func50,Tryz.ntmps50
    go_wp2_with (first|(refine G_ 17 Tryz.func56 #[.int .i64 (a3.size:Int),.int .i64 2] ?_;refine(field_Put.calls k (a3.size:Int) 2 bv ah _ A5.out).mono ?_;rintro e zg ⟨rfl,hb⟩;refine⟨_,rfl,?_⟩;replace HB:=Hb_ hb;(try clear hb))|((with_reducible refine gate_dst (N:=26) rfl ?_);refine Kd.R_lit (Kd.int .u8) _ 5 ?hg (N:=26) ?hd (xs:=([(a0)%256,(a1)%256,(a2)%256]:List Int)) (inner:= [.int .u8 ((a0)%256),.int .u8 ((a1)%256),.int .u8 ((a2)%256)]) (ok:=fun _=>True) (okp:=fun _=>True) ?hr ?hp (fun _ hk=>hk) trivial (Below.refl _ _) (Nat.le_refl _) (by simp) ?_;(case hd=>rfl);(case hg=>rfl);(case hr=>first|(go_simp;done)|(go_simp;rfl));(case hp=>exact(Reps.one (show Kd.M (Kd.int .u8) _ _ _ ((a0)%256) [.int .u8 ((a0)%256)] from rfl) (Reps.one (show Kd.M (Kd.int .u8) _ _ _ ((a1)%256) [.int .u8 ((a1)%256)] from rfl) (Reps.one (show Kd.M (Kd.int .u8) _ _ _ ((a2)%256) [.int .u8 ((a2)%256)] from rfl) (Reps.none _ _)))));intro yl w12 ym hb hg_ hnew_;clear hg_ hnew_;(first|rw[←BN.out] at ym|(simp only[Int.reduceToNat] at ym;rw[←BN.out] at ym));have dI:=Z_ (Kd.R_lower ym (below_size B_));replace HB:=Hb_ hb;clear hb ym;have Ty:=own_string (P:=Tryz.prog) Tryz.underlying27 Tryz.underlying5 Tryz.underlying9 (Kd.own_of_R dI.out))|(refine G_ 34 Tryz.func48 #[.string (((strOfNums fJ)++bv)++a3)] ?_;refine(crc_Sum.calls (((strOfNums fJ)++bv)++a3) ag _ A8.out).mono ?_;rintro e nX ⟨rfl,hb⟩;refine⟨_,rfl,?_⟩;replace dI:=Z_ (Kd.R_below (R_ dI) hb);replace HB:=Hb_ hb;(try clear hb))|(refine G_ 35 Tryz.func56 #[.int .i64 ag,.int .i64 4] ?_;refine(field_Put.calls k ag 4 t107 aM _ A9.out).mono ?_;rintro e w16 ⟨rfl,hb⟩;refine⟨_,rfl,?_⟩;replace dI:=Z_ (Kd.R_below (R_ dI) hb);replace HB:=Hb_ hb;(try clear hb)))
    go_ret;exact⟨E_,B_⟩
   ·rw[if_neg c10] at H;exact absurd H (by simp)
  ·rw[if_neg c7] at H;exact absurd H (by simp)
 ·rw[if_neg c6] at H;exact absurd H (by simp)
mutual
def segment_sound_coded.l0:Nat→List (List Int)→Int→Int→Int→Option (ByteArray×Int×Bool)
 |0,_,_,_,_=>none
 |k+1,x5,x7,x28,x29=>if x29<x28 then(if 0≤x29 then(if x29<(x5.length:Int) then((shift_Down.f (rd_L2 x5 x29) x7).bind fun H6=>(segment_sound_coded.l0 k (x5.set (x29:Int).toNat H6.1) x7 x28 (wrap64 (x29+1)))) else(none)) else(none)) else((side_Put.f k x5).bind fun fP=>(segment_sound_coded.l1 k x7 fP.2 ([]:List Int) fP.1 (fP.1.length:Int) 0))
def segment_sound_coded.l1:Nat→Int→Int→List Int→List (List Int)→Int→Int→Option (ByteArray×Int×Bool)
 |0,_,_,_,_,_,_=>none
 |k+1,x7,x9,qC,Q8,H7,xQ=>if xQ<H7 then(if 0≤xQ then(if xQ<(Q8.length:Int) then((line_Put.f (rd_L2 Q8 xQ)).bind fun yn=>(if qC.length+yn.1.length<17592186044416 then(segment_sound_coded.l1 k x7 (mx x9 yn.2) (qC++yn.1) Q8 H7 (wrap64 (xQ+1))) else(none))) else(none)) else(none)) else((residual_Put.f qC).bind fun yo=>(if x9=0 then(some (yo.1,x7,(yo.2==0))) else(some (yo.1,x7,false))))
end
def segment_sound_coded.f(k:Nat)(ae:ByteArray)(af:Int)(ax:Int):Option (ByteArray×Int×Bool):=(pcm_Get.f k ae af ax).bind fun iC=>((segment_wasted.f iC.1).bind fun bQ=>(segment_sound_coded.l0 k iC.1 bQ (iC.1.length:Int) 0))
theorem segment_sound_coded.mono_l:∀k,(∀y0 y1 y2 y3,LeO (segment_sound_coded.l0 k y0 y1 y2 y3) (segment_sound_coded.l0 (k+1) y0 y1 y2 y3))∧(∀y0 y1 y2 y3 y4 y5,LeO (segment_sound_coded.l1 k y0 y1 y2 y3 y4 y5) (segment_sound_coded.l1 (k+1) y0 y1 y2 y3 y4 y5))
 |0=>⟨fun _ _ _ _ r h=>by simp[segment_sound_coded.l0] at h,fun _ _ _ _ _ _ r h=>by simp[segment_sound_coded.l1] at h⟩
 |k+1=>by
  obtain⟨fD,ih1⟩:=segment_sound_coded.mono_l k;refine⟨?_,?_⟩
  ·intro y0 y1 y2 y3;unfold segment_sound_coded.l0
   repeat' first
   |(with_reducible exact fD _ _ _ _)
   |(with_reducible exact ih1 _ _ _ _ _ _)
   |(with_reducible exact pcm_Get.mono _ _ _ _)
   |(with_reducible exact side_Put.mono _ _)
   |(with_reducible exact LeO.refl _)
   |(with_reducible exact LeO.none _)
   |(with_reducible refine LeO.ite ?_ ?_)
   |(with_reducible refine LeO.bind ?_ (fun _=>?_))
   |exact fD _ _ _ _
   |exact ih1 _ _ _ _ _ _
   |exact pcm_Get.mono _ _ _ _
   |exact side_Put.mono _ _
   |exact LeO.none _
   |refine LeO.ite ?_ ?_
   |refine LeO.bind ?_ (fun _=>?_)
  ·intro y0 y1 y2 y3 y4 y5;unfold segment_sound_coded.l1
   repeat' first
   |(with_reducible exact fD _ _ _ _)
   |(with_reducible exact ih1 _ _ _ _ _ _)
   |(with_reducible exact pcm_Get.mono _ _ _ _)
   |(with_reducible exact side_Put.mono _ _)
   |(with_reducible exact LeO.refl _)
   |(with_reducible exact LeO.none _)
   |(with_reducible refine LeO.ite ?_ ?_)
   |(with_reducible refine LeO.bind ?_ (fun _=>?_))
   |exact fD _ _ _ _
   |exact ih1 _ _ _ _ _ _
   |exact pcm_Get.mono _ _ _ _
   |exact side_Put.mono _ _
   |exact LeO.none _
   |refine LeO.ite ?_ ?_
   |refine LeO.bind ?_ (fun _=>?_)
theorem segment_sound_coded.mono:∀a0 a1 a2 k,LeO (segment_sound_coded.f k a0 a1 a2) (segment_sound_coded.f (k+1) a0 a1 a2):=by
 intro a0 a1 a2 k;obtain⟨fD,ih1⟩:=segment_sound_coded.mono_l k;unfold segment_sound_coded.f
 repeat' first
   |(with_reducible exact fD _ _ _ _)
   |(with_reducible exact ih1 _ _ _ _ _ _)
   |(with_reducible exact pcm_Get.mono _ _ _ _)
   |(with_reducible exact side_Put.mono _ _)
   |(with_reducible exact LeO.refl _)
   |(with_reducible exact LeO.none _)
   |(with_reducible refine LeO.ite ?_ ?_)
   |(with_reducible refine LeO.bind ?_ (fun _=>?_))
   |exact fD _ _ _ _
   |exact ih1 _ _ _ _ _ _
   |exact pcm_Get.mono _ _ _ _
   |exact side_Put.mono _ _
   |exact LeO.none _
   |refine LeO.ite ?_ ?_
   |refine LeO.bind ?_ (fun _=>?_)
theorem segment_sound_coded.calls(k:Nat)(ae:ByteArray)(af:Int)(ax:Int)(r1:ByteArray)(r2:Int)(r3:Bool)(w:World)(h:segment_sound_coded.f k ae af ax=some (r1,r2,r3))(hT:Tabs w:=by exact Tabs.below hT B_):
  Calls Tryz.prog 53 #[.agg #[.string ae,.int .i64 af,.int .i64 ax]] w fun e w'=>e= .returned (.tuple #[.string r1,.int .i64 r2,.bool r3])∧Below w.heap.size w w':=by
 have sN:=Tryz.underlying104;have fH:=Tryz.underlying23;have HB:=Z_ (Below.refl w.heap.size w);have H:((pcm_Get.f k ae af ax).bind fun iC=>((segment_wasted.f iC.1).bind fun bQ=>(segment_sound_coded.l0 k iC.1 bQ (iC.1.length:Int) 0)))=some (r1,r2,r3):=h;clear h;replace H:=Ob_ H;obtain⟨⟨iQ,bY⟩,fU,H⟩:=H;(try dsimp only at H);have A2:=Z_ fU;clear fU;replace H:=Ob_ H;obtain⟨bQ,jw,H⟩:=H;(try dsimp only at H);have A3:=Z_ jw;clear jw;have H':=Z_ H;clear H
 go_enter Tryz.func53,Tryz.ntmps53
 go_wp2_with (first|(refine X_ 1 #[.string ae,.int .i64 af,.int .i64 ax] 104 ?_;intro aY hg w4 hbox hb;have ay:=Z_ (hbox);have BO:=Z_ (G2_ hg:w.heap.size≤_);have H8:=BO;replace HB:=Hb_ hb;clear hb hbox hg;have jE:=cz_ ay 0;have jF:=cz_ ay 1;have kT:=cz_ ay 2;have jG:=fz_ ay 0;have jH:=fz_ ay 1;have kU:=fz_ ay 2)|(refine G_ 22 Tryz.func25 #[.string ae,.agg #[.int .i64 af,.int .i64 ax]] ?_;refine(pcm_Get.calls k ae af ax iQ bY _ A2.out).mono ?_;rintro e w6 ⟨VN,rfl,ho0,hb⟩;refine⟨_,rfl,?_⟩;have uO:=Z_ (Kd.S_lower ho0 (below_size B_));replace ay:=Z_ (blk_below (K_ ay) hb);replace HB:=Hb_ hb;(try clear hb);(try clear ho0);obtain⟨DT,vX,QW⟩:=Kd.S_slice uO.out;subst QW)|(refine G_ 26 Tryz.func82 #[.slice DT iQ.length vX] ?_;refine(segment_wasted.calls _ _ iQ bQ _ (C_ (Kd.S_reads' uO.out).2.2) ((Kd.S_reads' uO.out).2.1) A3.out).mono ?_;rintro e w' ⟨rfl,⟨nd,rfl⟩⟩;refine⟨_,rfl,?_⟩))
 go_loopg [29] k (fun kq v29 w'=>∃(aU:List (List Int)) (dX:Int),v29= .int .i64 dX∧Aside0 (segment_sound_coded.l0 kq aU bQ (iQ.length:Int) dX=some (r1,r2,r3))∧Aside0 (kq≤k)∧Aside0 (Kd.S (Kd.slice 3 (Kd.int .i64)) 36 w' w.heap.size (fun _=>True) (.slice DT iQ.length vX) aU)∧Aside0 (w'.heap[aY]?=some (.cells #[.string ae,.int .i64 af,.int .i64 ax] 104 (0,0)))∧Aside0 (Below w.heap.size w w'))
 case atStart=>exact⟨(iQ),(0),(E1_),H',⟨Nat.le_refl _⟩,⟨S_ uO⟩,⟨(K_ ay)⟩,⟨B_⟩⟩
 case round=>
  clear H'
  try clear c2
  try clear p2
  try clear c5
  try clear jE
  try clear jF
  try clear kT
  try clear jG
  try clear jH
  try clear kU
  obtain⟨aU,dX,rfl,HA,jb,HO_5,ay,HB⟩:=hrel;have dJ:=(Kd.S_reads' HO_5.out).1;rw[dJ] at HO_5;(try simp only[dJ]);(try simp only[dJ] at ay)
  cases gk with
  |zero=>exact absurd HA.out (by simp[segment_sound_coded.l0])
  |succ k1=>
   have H:=HA.out;clear HA;simp only[segment_sound_coded.l0] at H
   by_cases c8:dX<(iQ.length:Int)
   ·rw[if_pos c8] at H;have c8b0:=dt_ c8;(first|(have c8b0x_:=c8b0;rw[dJ] at c8b0x_)|(have c8b0x_:=c8b0;rw[←dJ] at c8b0x_)|skip);clear c8
    by_cases c9:0≤dX
    ·rw[if_pos c9] at H;have c9b0:=dt_ c9;clear c9
     by_cases c10:dX<(aU.length:Int)
     ·rw[if_pos c10] at H;have c10b0:=dt_ c10;(first|(have c10b0x_:=c10b0;rw[dJ] at c10b0x_)|(have c10b0x_:=c10b0;rw[←dJ] at c10b0x_)|skip);clear c10;replace H:=Ob_ H;obtain⟨⟨t116,t117⟩,pY,H⟩:=H;(try dsimp only at H);have EW:=Z_ pY;clear pY;obtain⟨wM,iZ⟩:∃y_:List (List Int),y_=(aU.set (dX:Int).toNat t116):=⟨_,rfl⟩;replace H:(segment_sound_coded.l0 k1 wM bQ (iQ.length:Int) (wrap64 (dX+1)))=some (r1,r2,r3):=by first|(rw[iZ];with_reducible exact H)|(have bS:=(bs_ _ _).symm.trans H;rw[iZ];with_reducible exact bS)|(have bS:=(bs_ _ _).symm.trans H;with_reducible exact bS)|with_reducible exact H|(rw[iZ];exact H)|exact H
      have sM:=Z_ iZ;clear iZ;have H':=Z_ H;clear H;have lu:0≤(dX:Int):=od_ A_;have lw:dX<(aU.length:Int):=od_ A_;obtain⟨uK,yh,rU,e115,dC,di,kD⟩:=at_L2 (Kd.S_reads' HO_5.out).2.2 dX lu lw
      cases e115
      obtain⟨TB,Ec,Ed,yt⟩:=Kd.S_get HO_5.out [] dX lu (by first|exact lw|exact od_ A_|(have e_:=(Kd.S_reads' HO_5.out).1;omega));obtain⟨KG,rfl,oH⟩:=Ed;have kE:=yt 0 _ rfl;rw[Nat.add_zero,show((Kd.slice 3 (Kd.int .i64))).sz=1 from rfl,Nat.mul_one] at kE;replace kE:=Option.some.inj (kE.symm.trans dC);rw[kE] at oH;have kF:=Z_ (show Kd.R (Kd.int .i64) 3 _ _ _ _ (rd_L2 aU dX) from oH);clear kE oH;clear yt Ec;have jm:=Z_ kD;have uL:=Z_ di;clear kD di;replace lu:=eq_true lu;replace lw:=eq_true lw
      go_wp2_with (first|(refine G_ 40 Tryz.func83 #[.slice yh (rd_L2 aU dX).length rU,.int .i64 bQ] ?_;refine(shift_Down.calls _ _ (rd_L2 aU dX) bQ t116 t117 _ (C_ jm.out) uL.out EW.out).mono ?_;rintro e ER ⟨PM,rfl,ho0,hb⟩;refine⟨_,rfl,?_⟩;replace HO_5:=Z_ (Kd.S_elder' (S_ HO_5) (Kd.R_base ho0) hb);have nA:=Z_ (Kd.R_lower (Kd.R_new' ho0 (Kd.R_lt (R_ kF))) (below_size B_));replace kF:=Z_ (Kd.R_elder' (R_ kF) (Kd.R_base ho0) hb);replace ay:=Z_ (blk_below (K_ ay) hb);replace jm:=Z_ (Kd.C_below (C_ jm.out) hb);replace HB:=Hb_ hb;(try clear hb);(try clear ho0);obtain⟨Ao_,co_,eo_⟩:=Kd.R_slice nA.out;subst eo_;have H9:0≤(dX:Int):=od_ A_;have Ia:(dX:Int)<((aU.length:Int):Int):=od_ A_;obtain⟨qj,VO,Ib,Ic,Q9,VP,Ie⟩:=Kd.S_form HO_5.out (by omega);(first|cases Ib|(injection Ib with ea_ en_ ec_;(first|subst ea_|(injection ea_ with ea_;subst ea_));subst ec_;clear en_));have Ra:=Z_ Ic;have VQ:=Z_ Ie;clear Ic Q9 Ie;(first|simp only[add_plain] at dC|skip);obtain⟨_,VR,Ig,Ih,BP,BQ,_,_⟩:=Kd.S_elem HO_5.out [] (dX:Int) H9 Ia;obtain⟨Rb,rfl,Rc⟩:=Ih;have yu:=BP 0 _ rfl;have Ee:=BQ 0;(try simp only[show((Kd.slice 3 (Kd.int .i64))).sz=1 from rfl,Nat.mul_one,Nat.add_zero] at yu);(try simp only[show((Kd.slice 3 (Kd.int .i64))).sz=1 from rfl,Nat.mul_one,Nat.add_zero] at Ee);clear Ig BP BQ;(try clear Ih);replace H9:=eq_true H9;replace Ia:=eq_true Ia;have n_:=Z_ (Kd.S_mono (ok':=(fun k_=>some k_≠(Value.slice Ao_ t116.length co_).ownBlock)) HO_5.out (fun k_ hk=>hk.2));clear HO_5;have HO_5:=n_;clear n_;have Re:=Z_ (show Kd.S (Kd.slice 3 (Kd.int .i64)) 36 ER w.heap.size (fun k_=>((fun _=>True)) k_∧¬((fun k_=>some k_=(Value.slice Ao_ t116.length co_).ownBlock)) k_) (.slice (some ⟨qj,0,none⟩) aU.length vX) aU from(by(with_reducible repeat (first|apply Kd.S_alloc|apply Kd.S_drewN|apply Kd.S_drew));exact Kd.S_mono HO_5.out (fun k_ hk=>⟨trivial,fun e_=>hk e_⟩)));obtain⟨TC,VS,Ii,Ij,BR,BS,Ef,Ik⟩:=Kd.S_elem Re.out [] (dX:Int) (od_ A_) (by have h_:(dX:Int)<((aU.length:Int):Int):=od_ A_;first|exact h_|(have e_:=(Kd.S_reads' HO_5.out).1;omega)|simpa using h_);obtain⟨Rf,rfl,Rh⟩:=Ij;have lK:=Kd.S_seg Ik (od_ A_) (by have h_:(dX:Int)<((aU.length:Int):Int):=od_ A_;first|exact h_|(have e_:=(Kd.S_reads' HO_5.out).1;omega)|simpa using h_) (seg:= [.slice Ao_ t116.length co_]) (j:=0) (show 1≤1 from by decide) (x':=t116) (Kd.M_row (Kd.R_mono (Kd.R_tight rfl (Kd.R_mono (ok':=fun k_=>((fun _=>True)) k_∧k_≠qj) (Kd.R_apart' (nA.out) (Kd.S_typed HO_5.out) (by decide)) (fun k_ hk=>⟨trivial,fun e_=>(hk.2) (by rw[e_];rfl)⟩))) (fun _ h_=>Or.inr (h_)))) (fun _ hk=>hk) (fun k_ hk_=>((Kd.R_mono (ok':=fun k_=>((fun _=>True)) k_∧k_≠qj) (Kd.R_apart' (nA.out) (Kd.S_typed HO_5.out) (by decide)) (fun k_ hk=>⟨trivial,fun e_=>(hk.2) (by rw[e_];rfl)⟩))).1 k_ hk_.symm);have yw:=BR 0 _ rfl;(try simp only[show((Kd.slice 3 (Kd.int .i64))).sz=1 from rfl,Nat.mul_one,Nat.add_zero] at yw);have Eg:=BS 0;(try simp only[show((Kd.slice 3 (Kd.int .i64))).sz=1 from rfl,Nat.mul_one,Nat.add_zero] at Eg);clear Ii BR BS Ef Ik;(try clear Ij);(try simp only[show((Kd.slice 3 (Kd.int .i64))).sz=1 from rfl,Nat.mul_one,Nat.add_zero] at lK))|((with_reducible refine gate_store (t:=36) (p:=43) rfl ?_);refine store_event (t:=36) (p:=43) (v:=?vo_w15) (w1:=(ER.setCell ⟨qj,(dX:Int).toNat,none⟩ (.slice Ao_ t116.length co_))) ?hg ?ho ?hn ?hr ?_;(case ho=>rfl);(case hg=>rfl);(case hn=>rfl);(case hr=>first|(go_simp;done)|(go_simp;rfl));intro nX hw;have hg:ER.grownBy nX (some qj):=(by rw[hw];exact lK.2);have hp_:Kd.S (Kd.slice 3 (Kd.int .i64)) 36 nX w.heap.size (fun _=>True) (.slice (some ⟨qj,0,none⟩) aU.length vX) wM:=(by rw[hw,sM.out];exact lK.1);clear lK;replace ay:=Z_ (blk_grown (g:=aY) (o:= .cells #[.string ae,.int .i64 af,.int .i64 ax] 104 (0,0)) (K_ ay) hg (Kd.S_ne HO_5.out ay.out (by decide)));replace HO_5:=Z_ (hp_);replace kF:=Z_ (Kd.R_after (v:=(.slice (some ⟨qj,0,none⟩) aU.length vX)) (v1:=(.slice (some ⟨qj,0,none⟩) aU.length vX)) (ok:=(fun k_=>some k_≠(Value.slice Ao_ t116.length co_).ownBlock)) (by(with_reducible repeat (first|apply Kd.R_alloc|apply Kd.R_drewN|apply Kd.R_drew));exact Kd.R_mono kF.out (fun _ hk=>⟨hk.2,hk.1.2⟩)) hg (.inl rfl));replace HB:=Z_ ((by rw[hw];exact below_set (HB.out) Ra.out:Below w.heap.size w nX));clear nA;clear hg hw hp_))
      (try simp only[←dJ])
      go_roundg k1
      case measure=>have:=jb.out;omega
      case rel=>exact⟨(wM),(wrap64 (dX+1)),(E1_),H',⟨by have:=jb.out;omega⟩,⟨by(try simp only[dJ]);(with_reducible repeat (first|apply Kd.S_alloc|apply Kd.S_drewN|apply Kd.S_drew));exact HO_5.out⟩,⟨by(try simp only[dJ]);(with_reducible repeat (first|refine blk_drewN ?_ _|refine blk_drew ?_|refine blk_alloc ?_ _));exact ay.out⟩,⟨B_⟩⟩
     ·rw[if_neg c10] at H;exact absurd H (by simp)
    ·rw[if_neg c9] at H;exact absurd H (by simp)
   ·rw[if_neg c8] at H;have c8b0:=df_ c8;(first|(have c8b0x_:=c8b0;rw[dJ] at c8b0x_)|(have c8b0x_:=c8b0;rw[←dJ] at c8b0x_)|(have c8b0x_:=c8b0;rw[di] at c8b0x_)|(have c8b0x_:=c8b0;rw[←di] at c8b0x_)|skip);clear c8;replace H:=Ob_ H;obtain⟨⟨fI,iw⟩,jZ,H⟩:=H;(try dsimp only at H);have yL:=Z_ jZ;clear jZ;have H':=Z_ H;clear H
    go_wp2_with (first|(refine G_ 47 Tryz.func15 #[.slice DT aU.length vX] ?_;refine(side_Put.calls k1 _ _ aU fI iw _ (C_ (Kd.S_reads' HO_5.out).2.2) ((Kd.S_reads' HO_5.out).2.1) yL.out).mono ?_;rintro e Db ⟨Q7,rfl,ho0,hb⟩;refine⟨_,rfl,?_⟩;have uN:=Z_ (Kd.S_lower (Kd.S_new' ho0 (Kd.S_lt (S_ HO_5))) (below_size B_));replace HO_5:=Z_ (Kd.S_elder' (S_ HO_5) (Kd.S_base ho0) hb);replace ay:=Z_ (blk_below (K_ ay) hb);replace HB:=Hb_ hb;(try clear hb);(try clear ho0);obtain⟨Ri,Il,Rj⟩:=Kd.S_slice uN.out;subst Rj))
    go_loopg [9,10,52] k1 (fun kq v9 v10 v52 w'=>∃(bE:Int) (dK:List Int) (fQ:Int),v9= .int .i64 bE∧v52= .int .i64 fQ∧Aside0 (segment_sound_coded.l1 kq bQ bE dK fI (fI.length:Int) fQ=some (r1,r2,r3))∧Aside0 (kq≤k1)∧Aside0 (Kd.R (Kd.int .i64) 3 w' w.heap.size (fun _=>True) v10 dK)∧Aside0 (Kd.S (Kd.slice 3 (Kd.int .i64)) 36 w' w.heap.size (fun k_=>some k_≠(v10:Value).ownBlock) (.slice Ri fI.length Il) fI)∧Aside0 (w'.heap[aY]?=some (.cells #[.string ae,.int .i64 af,.int .i64 ax] 104 (0,0)))∧Aside0 (Below w.heap.size w w'))
    case atStart=>exact⟨(iw),(([]:List Int)),(0),(E1_),(E1_),H',⟨Nat.le_refl _⟩,⟨by(try simp only[dJ]);first|exact Kd.R_nil _ _ _ _ _|exact Kd.N_nil _ _ _ _ _|exact Kd.V_nil _ _ _ _ _|exact Kd.Q_nil _ _ _ _ _|exact Kd.S_nil _ _ _ _ _⟩,⟨by(try simp only[dJ]);(with_reducible repeat (first|apply Kd.S_alloc|apply Kd.S_drewN|apply Kd.S_drew));exact Kd.S_mono uN.out (fun _ hk=>(by simp[Value.ownBlock]))⟩,⟨by(try simp only[dJ]);(with_reducible repeat (first|refine blk_drewN ?_ _|refine blk_drew ?_|refine blk_alloc ?_ _));exact ay.out⟩,⟨B_⟩⟩
    case round=>
     clear H'
     try clear c1
     try clear p1
     try clear q1
     try clear hx1
     try clear hf1
     try clear c2
     try clear p2
     try clear c5
     try clear p6
     try clear c8
     try clear c8b0
     try clear c9
     try clear c9b0
     try clear c10
     try clear c10b0
     try clear c11
     try clear qD
     try clear qE
     try clear qW
     try clear c12
     try clear H9
     try clear Ia
     try clear VT
     try clear VU
     try clear c14
     try clear VV
     try clear VW
     try clear c15
     try clear jE
     try clear jF
     try clear kT
     try clear jG
     try clear jH
     try clear kU
     try clear dC
     try clear yu
     try clear yw
     try clear lu
     try clear H9
     try clear p2
     try clear lw
     try clear Ia
     obtain⟨bE,dK,fQ,rfl,rfl,HA,iq,HO_10,HO_50,ay,HB⟩:=hrel
     cases gk with
     |zero=>exact absurd HA.out (by simp[segment_sound_coded.l1])
     |succ k2=>
      have H:=HA.out;clear HA;simp only[segment_sound_coded.l1] at H
      by_cases c19:fQ<(fI.length:Int)
      ·rw[if_pos c19] at H;have c19b0:=dt_ c19;(first|(have c19b0x_:=c19b0;rw[dJ] at c19b0x_)|(have c19b0x_:=c19b0;rw[←dJ] at c19b0x_)|(have c19b0x_:=c19b0;rw[di] at c19b0x_)|(have c19b0x_:=c19b0;rw[←di] at c19b0x_)|skip);clear c19
       by_cases c20:0≤fQ
       ·rw[if_pos c20] at H;have c20b0:=dt_ c20;clear c20
        by_cases c21:fQ<(fI.length:Int)
        ·rw[if_pos c21] at H;have c21b0:=dt_ c21;(first|(have c21b0x_:=c21b0;rw[dJ] at c21b0x_)|(have c21b0x_:=c21b0;rw[←dJ] at c21b0x_)|(have c21b0x_:=c21b0;rw[di] at c21b0x_)|(have c21b0x_:=c21b0;rw[←di] at c21b0x_)|skip);clear c21;replace H:=Ob_ H;obtain⟨⟨bu,t127⟩,Im,H⟩:=H;(try dsimp only at H);have TD:=Z_ Im;clear Im
         by_cases c23:dK.length+bu.length<17592186044416
         ·rw[if_pos c23] at H;have Io:=Z_ c23;clear c23;obtain⟨Ip,qm⟩:∃y_:List Int,y_=(dK++bu):=⟨_,rfl⟩;replace H:(segment_sound_coded.l1 k2 bQ (mx bE t127) Ip fI (fI.length:Int) (wrap64 (fQ+1)))=some (r1,r2,r3):=by first|(rw[qm];with_reducible exact H)|(have bS:=(bs_ _ _).symm.trans H;rw[qm];with_reducible exact bS)|(have bS:=(bs_ _ _).symm.trans H;with_reducible exact bS)|with_reducible exact H|(rw[qm];exact H)|exact H
          have Iq:=Z_ qm;clear qm;obtain⟨Ir,qo⟩:∃j_:Int,(mx bE t127)=j_:=⟨_,rfl⟩;(first|rw[qo] at H|simp only[qo] at H);(try rw[qo] at TD);have Rk:(if bE<t127 then t127 else bE)=Ir:=qo;have H':=Z_ H;clear H;have Am:0≤(fQ:Int):=od_ A_;have Ap:fQ<(fI.length:Int):=od_ A_;obtain⟨Iu,yx,yz,e125,Aq,lT,uP⟩:=at_L2 (Kd.S_reads' HO_50.out).2.2 fQ Am Ap
          cases e125
          obtain⟨TE,Eh,Ei,yA⟩:=Kd.S_get HO_50.out [] fQ Am (by first|exact Ap|exact od_ A_|(have e_:=(Kd.S_reads' HO_50.out).1;omega));obtain⟨KH,rfl,oI⟩:=Ei;have kG:=yA 0 _ rfl;rw[Nat.add_zero,show((Kd.slice 3 (Kd.int .i64))).sz=1 from rfl,Nat.mul_one] at kG;replace kG:=Option.some.inj (kG.symm.trans Aq);rw[kG] at oI;have kH:=Z_ (show Kd.R (Kd.int .i64) 3 _ _ _ _ (rd_L2 fI fQ) from oI);clear kG oI;clear yA Eh;have oJ:=Z_ uP;have Ar:=Z_ lT;clear uP lT;replace Am:=eq_true Am;replace Ap:=eq_true Ap
          go_wp2_with (first|(refine G_ 58 Tryz.func16 #[.slice yx (rd_L2 fI fQ).length yz] ?_;refine(line_Put.calls _ _ (rd_L2 fI fQ) bu t127 _ (C_ oJ.out) Ar.out TD.out).mono ?_;rintro e tX ⟨VX,rfl,ho0,hb⟩;refine⟨_,rfl,?_⟩;replace HO_50:=Z_ (Kd.S_elder' (S_ HO_50) (Kd.R_base ho0) hb);have qp:=Z_ (Kd.R_lower (Kd.R_new' (Kd.R_new' ho0 (Kd.R_lt (R_ HO_10))) (Kd.R_lt (R_ kH))) (below_size B_));replace HO_10:=Z_ (Kd.R_elder' (R_ HO_10) (Kd.R_base ho0) hb);replace kH:=Z_ (Kd.R_elder' (R_ kH) (Kd.R_base ho0) hb);replace ay:=Z_ (blk_below (K_ ay) hb);replace oJ:=Z_ (Kd.C_below (C_ oJ.out) hb);replace HB:=Hb_ hb;(try clear hb);(try clear ho0);obtain⟨Ej,El,Rl⟩:=Kd.R_slice qp.out;subst Rl)|((with_reducible refine gate_builtin (b:= .append) (xs:= #[.tmp 61,.tmp 62]) rfl ?_);at_builtin;refine Kd.R_append_rows (Kd.int .i64) (w0:=w) w.heap.size rfl (.tmp 61) (.tmp 62) 36 3 (.int .i64 0) 8 rfl Tryz.underlying36 info3 rfl (by decide) (by omega) u10 dK bu _ _ _ (fun k_=>some k_≠(.slice Ej bu.length El:Value).ownBlock) (fun _=>False) rfl rfl ?aO ?aR (fun _ _ h=>h) (fun _ h=>h.elim) ?aF ?aB ?aS ?aL ?_;(case aR=>repeat (first|exact(Kd.R_reads' qp.out).2.2|(with_reducible refine Kd.C_alloc ?_ _)|(with_reducible refine Kd.C_drewN ?_ _)|(with_reducible refine Kd.C_drew ?_)));(case aB=>exact B_);(case aF=>exact(fun k_ hk=>Kd.fresh' (Kd.R_lt (R_ qp)) k_ hk));(case aO=>exact(by(with_reducible repeat (first|apply Kd.R_alloc|apply Kd.R_drewN|apply Kd.R_drew));exact Kd.R_mono HO_10.out (fun _ hk=>hk.2)));(case aS=>exact(below_size B_));(case aL=>have:=Io.out;omega);intro v131 Gr ho hb hg hat;rw[←Iq.out] at ho;replace HO_50:=Z_ (Kd.S_after (ok:=(fun k_=>some k_≠(.slice Ej bu.length El:Value).ownBlock)) (by(with_reducible repeat (first|apply Kd.S_alloc|apply Kd.S_drewN|apply Kd.S_drew));exact Kd.S_mono HO_50.out (fun _ hk=>⟨hk.2,hk.1⟩)) hg hat);replace ay:=Z_ (blk_grown (g:=aY) (o:= .cells #[.string ae,.int .i64 af,.int .i64 ax] 104 (0,0)) (K_ ay) hg (Kd.R_ne HO_10.out ay.out (by decide)));replace kH:=Z_ (Kd.R_after (ok:=(fun k_=>some k_≠(.slice (some Iu) fI.length Il:Value).ownBlock∧some k_≠(.slice Ej bu.length El:Value).ownBlock)) (by(with_reducible repeat (first|apply Kd.R_alloc|apply Kd.R_drewN|apply Kd.R_drew));exact Kd.R_mono kH.out (fun _ hk=>⟨⟨hk.1.2,hk.2⟩,hk.1.1⟩)) hg hat);replace qp:=Z_ (Kd.R_after (ok:=(fun k_=>some k_≠(.slice yx (rd_L2 fI fQ).length yz:Value).ownBlock)) (by(with_reducible repeat (first|apply Kd.R_alloc|apply Kd.R_drewN|apply Kd.R_drew));exact Kd.R_mono qp.out (fun _ hk=>⟨hk.2,hk.1.2⟩)) hg hat);replace HB:=Z_ (hb);have Iw:=Z_ (ho);clear HO_10;clear ho hb hg hat))
          go_roundg k2
          case measure=>have:=jb.out;have:=iq.out;omega
          case rel=>exact⟨(Ir),(Ip),(wrap64 (fQ+1)),(by first|rfl|(simp;done)|(simp only[←qo]<;>(first|rfl|simp))|(simp[*];done)),(E1_),H',⟨by have:=jb.out;have:=iq.out;omega⟩,⟨by(try simp only[dJ]);(with_reducible repeat (first|apply Kd.R_alloc|apply Kd.R_drewN|apply Kd.R_drew));exact Kd.R_mono Iw.out (fun _ hk=>trivial)⟩,⟨by(try simp only[dJ]);(with_reducible repeat (first|apply Kd.S_alloc|apply Kd.S_drewN|apply Kd.S_drew));exact Kd.S_mono HO_50.out (fun _ hk=>hk.2)⟩,⟨by(try simp only[dJ]);(with_reducible repeat (first|refine blk_drewN ?_ _|refine blk_drew ?_|refine blk_alloc ?_ _));exact ay.out⟩,⟨B_⟩⟩
         ·rw[if_neg c23] at H;exact absurd H (by simp)
        ·rw[if_neg c21] at H;exact absurd H (by simp)
       ·rw[if_neg c20] at H;exact absurd H (by simp)
      ·rw[if_neg c19] at H;have c19b0:=df_ c19;(first|(have c19b0x_:=c19b0;rw[dJ] at c19b0x_)|(have c19b0x_:=c19b0;rw[←dJ] at c19b0x_)|(have c19b0x_:=c19b0;rw[di] at c19b0x_)|(have c19b0x_:=c19b0;rw[←di] at c19b0x_)|(have c19b0x_:=c19b0;rw[lT] at c19b0x_)|(have c19b0x_:=c19b0;rw[←lT] at c19b0x_)|skip);clear c19;replace H:=Ob_ H;obtain⟨⟨jy,qh⟩,Iy,H⟩:=H;(try dsimp only at H);have TF:=Z_ Iy;clear Iy
       by_cases jS:bE=0
       ·rw[if_pos jS] at H;have c29b0:(bE==0)=true:=beq_iff_eq.mpr jS;have c29b1:(bE !=0)=false:=bne_eq_false_iff_eq.mpr jS;clear jS;simp only[Option.some.injEq,Prod.mk.injEq] at H;obtain⟨rfl,rfl,rfl⟩:=H;obtain⟨Rm,Rn,Ro⟩:=Kd.R_slice HO_10.out;subst Ro
        go_wp2_with (first|(refine G_ 70 Tryz.func17 #[.slice Rm dK.length Rn] ?_;refine(residual_Put.calls _ _ dK jy qh _ (C_ (Kd.R_reads' HO_10.out).2.2) ((Kd.R_reads' HO_10.out).2.1) TF.out).mono ?_;rintro e Vi ⟨rfl,hb⟩;refine⟨_,rfl,?_⟩;replace HO_10:=Z_ (Kd.R_below (R_ HO_10) hb);replace HO_50:=Z_ (Kd.S_below (S_ HO_50) hb);replace ay:=Z_ (blk_below (K_ ay) hb);replace HB:=Hb_ hb;(try clear hb)))
        go_ret3
        exact⟨E_,B_⟩
       ·rw[if_neg jS] at H;have c29b0:(bE==0)=false:=beq_eq_false_iff_ne.mpr jS;have c29b1:(bE !=0)=true:=bne_iff_ne.mpr jS;simp only[Option.some.injEq,Prod.mk.injEq] at H;obtain⟨rfl,rfl,rfl⟩:=H;obtain⟨Rp,Rq,Rs⟩:=Kd.R_slice HO_10.out;subst Rs
        go_wp2_with (first|(refine G_ 70 Tryz.func17 #[.slice Rp dK.length Rq] ?_;refine(residual_Put.calls _ _ dK jy qh _ (C_ (Kd.R_reads' HO_10.out).2.2) ((Kd.R_reads' HO_10.out).2.1) TF.out).mono ?_;rintro e xu ⟨rfl,hb⟩;refine⟨_,rfl,?_⟩;replace HO_10:=Z_ (Kd.R_below (R_ HO_10) hb);replace HO_50:=Z_ (Kd.S_below (S_ HO_50) hb);replace ay:=Z_ (blk_below (K_ ay) hb);replace HB:=Hb_ hb;(try clear hb)))
        go_ret3
        exact⟨E_,B_⟩
mutual
def segment_Put.j0:Nat→ByteArray→Bool→Int→Int→Option (ByteArray×Int)
 |0,_,_,_,_=>none
 |k+1,x0,x31,jo,jq=>if x31=true then(some ((⟨#[]⟩:ByteArray),2200)) else((segment_sound_constant.f x0 jo jq).bind fun Em=>(if Em=true then((segment_sound_many.f x0 jo jq).bind fun t143=>((segment_sound_frame.f x0 jo jq).bind fun oK=>(if 0≤oK then(if oK≤(x0.size:Int) then((segment_told.f k 2 0 t143 (x0.extract 0 (oK:Int).toNat)).bind fun t145=>(some (t145,0))) else(none)) else(none)))) else((segment_sound_coded.f k x0 jo jq).bind fun iR=>(if iR.2.2=true then(segment_Put.j1 k x0 iR.1 iR.2.1 (decide ((iR.1.size:Int)<(x0.size:Int))) x0 jo jq) else(segment_Put.j1 k x0 iR.1 iR.2.1 false x0 jo jq)))))
def segment_Put.j1:Nat→ByteArray→ByteArray→Int→Bool→ByteArray→Int→Int→Option (ByteArray×Int)
 |0,_,_,_,_,_,_,_=>none
 |k+1,x0,x9,qC,Ku,uQ,uR,uS=>if Ku=true then((segment_sound_many.f uQ uR uS).bind fun yB=>((segment_told.f k 1 qC yB x9).bind fun Au=>(some (Au,0)))) else((segment_sound_many.f uQ uR uS).bind fun mi=>((segment_told.f k 0 0 mi x0).bind fun t152=>(some (t152,0))))
end
def segment_Put.f(k:Nat)(a0:ByteArray)(av:Int)(aA:Int):Option (ByteArray×Int):=(pcm_Get.f k a0 av aA).bind fun yC=>(if yC.2=0 then(if a0.toList=([]:List UInt8) then(segment_Put.j0 k a0 true av aA) else((pcm_Frame.f av aA).bind fun vT=>(segment_Put.j0 k a0 (decide ((a0.size:Int)>(wrap64 (64*vT)))) av aA))) else(segment_Put.j0 k a0 true av aA))
theorem segment_Put.mono_l:∀k,(∀y0 y1 y2 y3,LeO (segment_Put.j0 k y0 y1 y2 y3) (segment_Put.j0 (k+1) y0 y1 y2 y3))∧(∀y0 y1 y2 y3 y4 y5 y6,LeO (segment_Put.j1 k y0 y1 y2 y3 y4 y5 y6) (segment_Put.j1 (k+1) y0 y1 y2 y3 y4 y5 y6))
 |0=>⟨fun _ _ _ _ r h=>by simp[segment_Put.j0] at h,fun _ _ _ _ _ _ _ r h=>by simp[segment_Put.j1] at h⟩
 |k+1=>by
  obtain⟨fD,ih1⟩:=segment_Put.mono_l k;refine⟨?_,?_⟩
  ·intro y0 y1 y2 y3;unfold segment_Put.j0
   repeat' first
   |(with_reducible exact fD _ _ _ _)
   |(with_reducible exact ih1 _ _ _ _ _ _ _)
   |(with_reducible exact pcm_Get.mono _ _ _ _)
   |(with_reducible exact segment_sound_coded.mono _ _ _ _)
   |(with_reducible exact segment_told.mono _ _ _ _ _)
   |(with_reducible exact LeO.refl _)
   |(with_reducible exact LeO.none _)
   |(with_reducible refine LeO.ite ?_ ?_)
   |(with_reducible refine LeO.bind ?_ (fun _=>?_))
   |exact fD _ _ _ _
   |exact ih1 _ _ _ _ _ _ _
   |exact pcm_Get.mono _ _ _ _
   |exact segment_sound_coded.mono _ _ _ _
   |exact segment_told.mono _ _ _ _ _
   |exact LeO.none _
   |refine LeO.ite ?_ ?_
   |refine LeO.bind ?_ (fun _=>?_)
  ·intro y0 y1 y2 y3 y4 y5 y6;unfold segment_Put.j1
   repeat' first
   |(with_reducible exact fD _ _ _ _)
   |(with_reducible exact ih1 _ _ _ _ _ _ _)
   |(with_reducible exact pcm_Get.mono _ _ _ _)
   |(with_reducible exact segment_sound_coded.mono _ _ _ _)
   |(with_reducible exact segment_told.mono _ _ _ _ _)
   |(with_reducible exact LeO.refl _)
   |(with_reducible exact LeO.none _)
   |(with_reducible refine LeO.ite ?_ ?_)
   |(with_reducible refine LeO.bind ?_ (fun _=>?_))
   |exact fD _ _ _ _
   |exact ih1 _ _ _ _ _ _ _
   |exact pcm_Get.mono _ _ _ _
   |exact segment_sound_coded.mono _ _ _ _
   |exact segment_told.mono _ _ _ _ _
   |exact LeO.none _
   |refine LeO.ite ?_ ?_
   |refine LeO.bind ?_ (fun _=>?_)
theorem segment_Put.mono:∀a0 a1 a2 k,LeO (segment_Put.f k a0 a1 a2) (segment_Put.f (k+1) a0 a1 a2):=by
 intro a0 a1 a2 k;obtain⟨fD,ih1⟩:=segment_Put.mono_l k;unfold segment_Put.f
 repeat' first
   |(with_reducible exact fD _ _ _ _)
   |(with_reducible exact ih1 _ _ _ _ _ _ _)
   |(with_reducible exact pcm_Get.mono _ _ _ _)
   |(with_reducible exact segment_sound_coded.mono _ _ _ _)
   |(with_reducible exact segment_told.mono _ _ _ _ _)
   |(with_reducible exact LeO.refl _)
   |(with_reducible exact LeO.none _)
   |(with_reducible refine LeO.ite ?_ ?_)
   |(with_reducible refine LeO.bind ?_ (fun _=>?_))
   |exact fD _ _ _ _
   |exact ih1 _ _ _ _ _ _ _
   |exact pcm_Get.mono _ _ _ _
   |exact segment_sound_coded.mono _ _ _ _
   |exact segment_told.mono _ _ _ _ _
   |exact LeO.none _
   |refine LeO.ite ?_ ?_
   |refine LeO.bind ?_ (fun _=>?_)
def segment_Put.T6:Bool×List (List Nat×List Nat):=(true,[([],[]),([0],[0]),([],[]),([],[]),([3,1],[3]),([2,4],[2,4]),([1,5,4],[1,5]),([6,6,0,1,2,3,4,5,6],[6]),([7,0,1,2,3,4,5,6,7],[])])
def segment_Put.B6:List Nat:= [0,1,0,0,11,31,63,127,255]
theorem segment_Put.tab6:rtab .any (opsOf Tryz.f21 6)=segment_Put.T6:=by kernel_rfl
theorem segment_Put.bits6:waitsOk segment_Put.T6.2 segment_Put.B6=true:=by kernel_rfl
theorem segment_Put.calls(k:Nat)(a0:ByteArray)(av:Int)(aA:Int)(r1:ByteArray)(r2:Int)(w:World)(h:segment_Put.f k a0 av aA=some (r1,r2))(hT:Tabs w:=by exact Tabs.below hT B_):
  Calls Tryz.prog 21 #[.string a0,.agg #[.int .i64 av,.int .i64 aA]] w fun e w'=>e= .returned (.tuple #[.string r1,.int .i64 r2])∧Below w.heap.size w w':=by
 have fH:=Tryz.underlying23;have sN:=Tryz.underlying104;have HB:=Z_ (Below.refl w.heap.size w);have H:((pcm_Get.f k a0 av aA).bind fun yC=>(if yC.2=0 then(if a0.toList=([]:List UInt8) then(segment_Put.j0 k a0 true av aA) else((pcm_Frame.f av aA).bind fun vT=>(segment_Put.j0 k a0 (decide ((a0.size:Int)>(wrap64 (64*vT)))) av aA))) else(segment_Put.j0 k a0 true av aA)))=some (r1,r2):=h;clear h;replace H:=Ob_ H;obtain⟨⟨CK,t139⟩,jw,H⟩:=H;(try dsimp only at H);have A3:=Z_ jw;clear jw;have En:=Z_ H;clear H
 go_enter Tryz.func21,Tryz.ntmps21
 go_upto_region 2 with (first|((try (refine gate_guard (by rfl) ?_;dsimp only));refine X_ 3 #[.int .i64 av,.int .i64 aA] 23 ?_;intro iU hg w5 hbox hb;have aV:=Z_ (hbox);have Iz:=Z_ (G2_ hg:w.heap.size≤_);have TI:=Iz;replace HB:=Hb_ hb;clear hb hbox hg;have lY:=cz_ aV 0;have lZ:=cz_ aV 1;have l5:=fz_ aV 0;have l7:=fz_ aV 1)|(refine G_ 15 Tryz.func25 #[.string a0,.agg #[.int .i64 av,.int .i64 aA]] ?_;refine(pcm_Get.calls k a0 av aA CK t139 _ A3.out).mono ?_;rintro e w7 ⟨VY,rfl,ho0,hb⟩;refine⟨_,rfl,?_⟩;have BU:=Z_ (Kd.S_lower ho0 (below_size B_));replace aV:=Z_ (blk_below (K_ aV) hb);replace HB:=Hb_ hb;(try clear hb);(try clear ho0)))
 (try simp only[Act.put,List.setIfInBounds_toArray,List.set_cons_zero,List.set_cons_succ])
 go_cut [31] (fun v31 wc=>∃(kq:Nat) (uT:Bool),v31= .bool uT∧Aside0 (segment_Put.j0 kq a0 uT av aA=some (r1,r2))∧Aside0 (kq≤k)∧Aside0 (wc.heap[iU]?=some (.cells #[.int .i64 av,.int .i64 aA] 23 (0,0)))∧Aside0 (Below w.heap.size w wc))
 case first=>
  have H:=En.out;clear En
  by_cases c8:t139=0
  ·rw[if_pos c8] at H;have c8b0:(t139==0)=true:=beq_iff_eq.mpr c8;have c8b1:(t139 !=0)=false:=bne_eq_false_iff_eq.mpr c8;clear c8;(first|rw[c8b0]|(simp only[i64_w,i32_w];rw[c8b0])|skip)
   by_cases c9:a0.toList=([]:List UInt8)
   ·rw[if_pos c9] at H;have c9b0:(a0.toList==([]:List UInt8))=true:=beq_iff_eq.mpr c9;have c9b1:(a0.toList !=([]:List UInt8))=false:=bne_eq_false_iff_eq.mpr c9;clear c9;have H':=Z_ H;clear H;go_wp2;go_meet
    case rel=>exact⟨_,(true),(E1_),H',⟨L_⟩,⟨(K_ aV)⟩,⟨B_⟩⟩
   ·rw[if_neg c9] at H;have c9b0:(a0.toList==([]:List UInt8))=false:=beq_eq_false_iff_ne.mpr c9;have c9b1:(a0.toList !=([]:List UInt8))=true:=bne_iff_ne.mpr c9;replace H:=Ob_ H;obtain⟨vT,IA,H⟩:=H;(try dsimp only at H);have VZ:=Z_ IA;clear IA;have H':=Z_ H;clear H;have iH:=cz_ aV 0;have iI:=cz_ aV 1;have iJ:=fz_ aV 0;have iK:=fz_ aV 1
    go_wp2_with (first|(go_at_call 29;refine(pcm_Frame.calls av aA vT _ VZ.out).mono ?_;rintro e w12 ⟨rfl,hb⟩;replace BU:=Z_ (Kd.S_below (S_ BU) hb);replace aV:=Z_ (blk_below (K_ aV) hb);replace HB:=Hb_ hb;(try clear hb)))
    go_meet
    case rel=>exact⟨_,(decide ((a0.size:Int)>(wrap64 (64*vT)))),(E1_),H',⟨L_⟩,⟨(K_ aV)⟩,⟨B_⟩⟩
  ·rw[if_neg c8] at H;have c8b0:(t139==0)=false:=beq_eq_false_iff_ne.mpr c8;have c8b1:(t139 !=0)=true:=bne_iff_ne.mpr c8;(first|rw[c8b0]|(simp only[i64_w,i32_w];rw[c8b0])|skip);have H':=Z_ H;clear H;go_wp2;go_meet
   case rel=>exact⟨_,(true),(E1_),H',⟨L_⟩,⟨(K_ aV)⟩,⟨B_⟩⟩
 case rest=>
  clear En
  try clear c2
  try clear p2
  try clear p6
  try clear c8
  try clear c8b0
  try clear c8b1
  try clear c9
  try clear c9b0
  try clear c9b1
  try clear iH
  try clear iI
  try clear lY
  try clear lZ
  try clear iJ
  try clear iK
  try clear l5
  try clear l7
  obtain⟨kq,uT,rfl,HA,IB,aV,HB⟩:=hcut
  cases kq with
  |zero=>exact absurd HA.out (by simp[segment_Put.j0])
  |succ EY=>
   have H:=HA.out;clear HA;simp only[segment_Put.j0] at H
   by_cases c13:uT=true
   ·subst c13;rw[if_pos rfl] at H;simp only[Option.some.injEq,Prod.mk.injEq] at H;obtain⟨rfl,rfl⟩:=H;go_wp2;go_ret2;exact⟨E_,B_⟩
   ·replace c13:=Bool.eq_false_iff.mpr c13;subst c13;rw[if_neg (show ¬(false=true) by decide)] at H;replace H:=Ob_ H;obtain⟨Em,IC,H⟩:=H;(try dsimp only at H);have TJ:=Z_ IC;clear IC
    by_cases c15:Em=true
    ·subst c15;rw[if_pos rfl] at H;replace H:=Ob_ H;obtain⟨t143,jZ,H⟩:=H;(try dsimp only at H);have yL:=Z_ jZ;clear jZ;replace H:=Ob_ H;obtain⟨oK,pu,H⟩:=H;(try dsimp only at H);have EL:=Z_ pu;clear pu
     by_cases c18:0≤oK
     ·rw[if_pos c18] at H;have c18b0:=eq_true c18;have c18b1:=dt_ c18;clear c18
      by_cases c19:oK≤(a0.size:Int)
      ·rw[if_pos c19] at H;have c19b0:=eq_true c19;have c19b1:=dt_ c19;clear c19;replace H:=Ob_ H;obtain⟨t145,IE,H⟩:=H;replace H:(some (t145,0))=some (r1,r2):=H;have fU:=Z_ IE;clear IE;simp only[Option.some.injEq,Prod.mk.injEq] at H;obtain⟨rfl,rfl⟩:=H;have oz:=cz_ aV 0;have oC:=cz_ aV 1;have oD:=fz_ aV 0;have oF:=fz_ aV 1
       try go_wp2_with (first|((try (refine gate_guard (by rfl) ?_;dsimp only));refine X_ 8 #[.string (⟨#[]⟩:ByteArray),.int .i64 0,.int .i64 0] 104 ?_;intro jk hg zS hbox hb;have aK:=Z_ (hbox);have yD:=Z_ (G2_ hg:w.heap.size≤_);have IG:=yD;replace HB:=Hb_ hb;have dz:=Z_ ((by rw[hg];exact Nat.ne_of_lt (blk_lt (g:=iU) (o:= .cells #[.int .i64 av,.int .i64 aA] 23 (0,0)) (K_ aV)):iU≠jk));have iD:=Z_ ((by rw[hg];exact Nat.ne_of_gt (blk_lt (g:=iU) (o:= .cells #[.int .i64 av,.int .i64 aA] 23 (0,0)) (K_ aV)):jk≠iU));replace aV:=Z_ (blk_below (K_ aV) hb);clear hb hbox hg;have F5:=iD.out;have F6:=dz.out;have sW:=cz_ aK 0;have sZ:=cz_ aK 1;have tq:=cz_ aK 2;have tu:=fz_ aK 0;have tC:=fz_ aK 1;have tF:=fz_ aK 2)|(refine G_ 36 Tryz.func49 #[.agg #[.string a0,.int .i64 av,.int .i64 aA]] ?_;refine(segment_sound_constant.calls a0 av aA true _ TJ.out).mono ?_;rintro e tX ⟨rfl,hb⟩;refine⟨_,rfl,?_⟩;replace aV:=Z_ (blk_below (g:=iU) (o:= .cells #[.int .i64 av,.int .i64 aA] 23 (0,0)) (blk_far (blk_far (blk_far (K_ aV) dz.out _) dz.out _) dz.out _) hb);replace aK:=Z_ (blk_below (g:=jk) (o:= .cells #[.string a0,.int .i64 av,.int .i64 aA] 104 (0,0)) (blk_put (cs:= #[.string a0,.int .i64 av,.int .i64 0]) (blk_put (cs:= #[.string a0,.int .i64 0,.int .i64 0]) (blk_put (cs:= #[.string (⟨#[]⟩:ByteArray),.int .i64 0,.int .i64 0]) (K_ aK) 0 _ rfl) 1 _ rfl) 2 _ rfl) hb);replace HB:=Hb_ hb;(try clear hb)))
       replace aV:=Z_ (blk_drew aV.out);replace aK:=Z_ (blk_drew aK.out);replace HB:=Z_ (below_drew1 HB.out);refine start_ (n:=9) (S:=fun w'=>w'.cell? ⟨jk,0,none⟩=some (.string a0)∧w'.cell? ⟨jk,1,none⟩=some (.int .i64 av)∧w'.cell? ⟨jk,2,none⟩=some (.int .i64 aA)) (ds:= []) #[false,false,false,false,false,false,false,false,false] (by kernel_rfl) rfl rfl ⟨(blk_cell aK.out 0).trans rfl,(blk_cell aK.out 1).trans rfl,(blk_cell aK.out 2).trans rfl⟩ (fun hHeld=>?_);refine with_tabW segment_Put.tab6 segment_Put.bits6 (fun HT_ HW_=>?_);generalize tX.drew=Gr at aV aK HB hHeld ⊢;refine P_ 2 39 ?_;refine T_ 0 37 (y:=by rintro w' ⟨s0,s1,s2⟩;go_simp;with_reducible rfl) (h:=?_);refine T_ 3 40 (y:=by rintro w' ⟨s0,s1,s2⟩;go_simp;with_reducible rfl) (h:=?_);refine O_ 1 38 fun K hK=>?_
       refine g_ Tryz.func51 #[.agg #[.string a0,.int .i64 av,.int .i64 aA]] ?_
       with_reducible refine(segment_sound_many.calls a0 av aA t143 _ yL.out).mono ?_
       rintro e QF ⟨rfl,hb⟩;refine⟨_,rfl,?_⟩;replace aV:=Z_ (blk_below (K_ aV) hb);replace aK:=Z_ (blk_below (K_ aK) hb);replace HB:=Hb_ hb;(try clear hb);(try clear hb2);(try clear hk);(try clear hi);refine hK.out _ _ ⟨(blk_cell aK.out 0).trans rfl,(blk_cell aK.out 1).trans rfl,(blk_cell aK.out 2).trans rfl⟩ (fun hHeld=>?_);clear hK K;refine Nm_ 38 ?_;refine O_ 4 41 fun K hK=>?_
       refine g_ Tryz.func52 #[.agg #[.string a0,.int .i64 av,.int .i64 aA]] ?_
       with_reducible refine(segment_sound_frame.calls a0 av aA oK _ EL.out).mono ?_
       rintro e V3 ⟨rfl,hb⟩;refine⟨_,rfl,?_⟩;replace aV:=Z_ (blk_below (K_ aV) hb);replace aK:=Z_ (blk_below (K_ aK) hb);replace HB:=Hb_ hb;(try clear hb);(try clear hb2);(try clear hk);(try clear hi);refine hK.out _ _ ⟨(blk_cell aK.out 0).trans rfl,(blk_cell aK.out 1).trans rfl,(blk_cell aK.out 2).trans rfl⟩ (fun hHeld=>?_);clear hK K;refine Nm_ 41 ?_;refine P_ 5 42 ?_;refine O_ 6 43 fun K hK=>?_
       refine g_ Tryz.func50 #[.int .i64 2,.int .i64 0,.int .i64 t143,.string (a0.extract 0 (oK:Int).toNat)] ?_
       with_reducible refine(segment_told.calls EY 2 0 t143 (a0.extract 0 (oK:Int).toNat) t145 _ fU.out).mono ?_
       rintro e vW ⟨rfl,hb⟩;refine⟨_,rfl,?_⟩;replace aV:=Z_ (blk_below (K_ aV) hb);replace aK:=Z_ (blk_below (K_ aK) hb);replace HB:=Hb_ hb;(try clear hb);(try clear hb2);(try clear hk);(try clear hi);refine hK.out _ _ ⟨(blk_cell aK.out 0).trans rfl,(blk_cell aK.out 1).trans rfl,(blk_cell aK.out 2).trans rfl⟩ (fun hHeld=>?_);clear hK K;refine Nm_ 43 ?_;refine P_ 7 4 ?_;refine P_ 8 5 ?_;refine done_ (done_of HT_.out (by kernel_rfl)) ?_
       try go_wp2
       go_ret2;exact⟨E_,B_⟩
      ·rw[if_neg c19] at H;exact absurd H (by simp)
     ·rw[if_neg c18] at H;exact absurd H (by simp)
    ·replace c15:=Bool.eq_false_iff.mpr c15;subst c15;rw[if_neg (show ¬(false=true) by decide)] at H;replace H:=Ob_ H;obtain⟨⟨t146,fV,t148⟩,yE,H⟩:=H;(try dsimp only at H);have jw:=Z_ yE;clear yE;have Eo:=Z_ H;clear H;have nZ:=cz_ aV 0;have oh:=cz_ aV 1;have ol:=fz_ aV 0;have om:=fz_ aV 1
     go_upto_region 8 with (first|((try (refine gate_guard (by rfl) ?_;dsimp only));refine X_ 8 #[.string (⟨#[]⟩:ByteArray),.int .i64 0,.int .i64 0] 104 ?_;intro jk hg xu hbox hb;have aK:=Z_ (hbox);have yD:=Z_ (G2_ hg:w.heap.size≤_);have IG:=yD;replace HB:=Hb_ hb;have dz:=Z_ ((by rw[hg];exact Nat.ne_of_lt (blk_lt (g:=iU) (o:= .cells #[.int .i64 av,.int .i64 aA] 23 (0,0)) (K_ aV)):iU≠jk));have iD:=Z_ ((by rw[hg];exact Nat.ne_of_gt (blk_lt (g:=iU) (o:= .cells #[.int .i64 av,.int .i64 aA] 23 (0,0)) (K_ aV)):jk≠iU));replace aV:=Z_ (blk_below (K_ aV) hb);clear hb hbox hg;have TK:=iD.out;have TL:=dz.out;have uU:=cz_ aK 0;have uV:=cz_ aK 1;have uW:=cz_ aK 2;have uX:=fz_ aK 0;have uY:=fz_ aK 1;have uZ:=fz_ aK 2)|(refine G_ 36 Tryz.func49 #[.agg #[.string a0,.int .i64 av,.int .i64 aA]] ?_;refine(segment_sound_constant.calls a0 av aA false _ TJ.out).mono ?_;rintro e Tn ⟨rfl,hb⟩;refine⟨_,rfl,?_⟩;replace aV:=Z_ (blk_below (g:=iU) (o:= .cells #[.int .i64 av,.int .i64 aA] 23 (0,0)) (blk_far (blk_far (blk_far (K_ aV) dz.out _) dz.out _) dz.out _) hb);replace aK:=Z_ (blk_below (g:=jk) (o:= .cells #[.string a0,.int .i64 av,.int .i64 aA] 104 (0,0)) (blk_put (cs:= #[.string a0,.int .i64 av,.int .i64 0]) (blk_put (cs:= #[.string a0,.int .i64 0,.int .i64 0]) (blk_put (cs:= #[.string (⟨#[]⟩:ByteArray),.int .i64 0,.int .i64 0]) (K_ aK) 0 _ rfl) 1 _ rfl) 2 _ rfl) hb);replace HB:=Hb_ hb;(try clear hb);have uh:=cz_ aK 0;have ui:=cz_ aK 1;have uj:=cz_ aK 2;have uk:=fz_ aK 0;have ul:=fz_ aK 1;have um:=fz_ aK 2)|(refine G_ 46 Tryz.func53 #[.agg #[.string a0,.int .i64 av,.int .i64 aA]] ?_;refine(segment_sound_coded.calls EY a0 av aA t146 fV t148 _ jw.out).mono ?_;rintro e JY ⟨rfl,hb⟩;refine⟨_,rfl,?_⟩;replace aV:=Z_ (blk_below (K_ aV) hb);replace aK:=Z_ (blk_below (K_ aK) hb);replace HB:=Hb_ hb;(try clear hb)))
     (try simp only[Act.put,List.setIfInBounds_toArray,List.set_cons_zero,List.set_cons_succ])
     go_cut [57] (fun v57 wc=>∃(kq:Nat) (oL:Bool),v57= .bool oL∧Aside0 (segment_Put.j1 kq a0 t146 fV oL a0 av aA=some (r1,r2))∧Aside0 (kq≤EY)∧Aside0 (wc.heap[iU]?=some (.cells #[.int .i64 av,.int .i64 aA] 23 (0,0)))∧Aside0 (wc.heap[jk]?=some (.cells #[.string a0,.int .i64 av,.int .i64 aA] 104 (0,0)))∧Aside0 (Below w.heap.size w wc))
     case first=>
      have H:=Eo.out;clear Eo
      by_cases II:t148=true
      ·subst II;rw[if_pos rfl] at H;have H':=Z_ H;clear H;go_wp2;go_meet
       case rel=>exact⟨_,(decide ((t146.size:Int)<(a0.size:Int))),(E1_),H',⟨by have:=IB.out;first|omega|exact Nat.le_refl _⟩,⟨(K_ aV)⟩,⟨(K_ aK)⟩,⟨B_⟩⟩
      ·replace II:=Bool.eq_false_iff.mpr II;subst II;rw[if_neg (show ¬(false=true) by decide)] at H;have H':=Z_ H;clear H;go_wp2;go_meet
       case rel=>exact⟨_,(false),(E1_),H',⟨by have:=IB.out;first|omega|exact Nat.le_refl _⟩,⟨(K_ aV)⟩,⟨(K_ aK)⟩,⟨B_⟩⟩
     case rest=>
      clear Eo
      try clear c1
      try clear c2
      try clear p2
      try clear c3
      try clear c4
      try clear c5
      try clear p6
      try clear c8
      try clear c8b0
      try clear c8b1
      try clear c9
      try clear c9b0
      try clear c9b1
      try clear c13
      try clear c15
      try clear c18
      try clear c18b0
      try clear c18b1
      try clear c19
      try clear c19b0
      try clear c19b1
      try clear c21
      try clear c23
      try clear qK
      try clear c34
      try clear II
      try clear iH
      try clear iI
      try clear oz
      try clear oC
      try clear sW
      try clear sZ
      try clear tq
      try clear nZ
      try clear oh
      try clear uU
      try clear uV
      try clear uW
      try clear uh
      try clear ui
      try clear uj
      try clear lY
      try clear lZ
      try clear iJ
      try clear iK
      try clear oD
      try clear oF
      try clear tu
      try clear tC
      try clear tF
      try clear ol
      try clear om
      try clear uX
      try clear uY
      try clear uZ
      try clear uk
      try clear ul
      try clear um
      try clear l5
      try clear l7
      try clear p2
      try clear p6
      obtain⟨kq,oL,rfl,HA,V4,aV,aK,HB⟩:=hcut
      cases kq with
      |zero=>exact absurd HA.out (by simp[segment_Put.j1])
      |succ IJ=>
       have H:=HA.out;clear HA;simp only[segment_Put.j1] at H
       by_cases c40:oL=true
       ·subst c40;rw[if_pos rfl] at H;replace H:=Ob_ H;obtain⟨yB,IK,H⟩:=H;(try dsimp only at H);have V5:=Z_ IK;clear IK;replace H:=Ob_ H;obtain⟨Au,IL,H⟩:=H;replace H:(some (Au,0))=some (r1,r2):=H;have V6:=Z_ IL;clear IL;simp only[Option.some.injEq,Prod.mk.injEq] at H;obtain⟨rfl,rfl⟩:=H;have TM:=iD.out;have TN:=dz.out;have KI:=cz_ aK 0;have KJ:=cz_ aK 1;have KL:=cz_ aK 2;have KM:=fz_ aK 0;have KN:=fz_ aK 1;have KO:=fz_ aK 2
        go_wp2_with (first|(refine G_ 60 Tryz.func51 #[.agg #[.string a0,.int .i64 av,.int .i64 aA]] ?_;refine(segment_sound_many.calls a0 av aA yB _ V5.out).mono ?_;rintro e V7 ⟨rfl,hb⟩;refine⟨_,rfl,?_⟩;replace aV:=Z_ (blk_below (K_ aV) hb);replace aK:=Z_ (blk_below (K_ aK) hb);replace HB:=Hb_ hb;(try clear hb))|(refine G_ 62 Tryz.func50 #[.int .i64 1,.int .i64 fV,.int .i64 yB,.string t146] ?_;refine(segment_told.calls IJ 1 fV yB t146 Au _ V6.out).mono ?_;rintro e TP ⟨rfl,hb⟩;refine⟨_,rfl,?_⟩;replace aV:=Z_ (blk_below (K_ aV) hb);replace aK:=Z_ (blk_below (K_ aK) hb);replace HB:=Hb_ hb;(try clear hb)))
        go_ret2;exact⟨E_,B_⟩
       ·replace c40:=Bool.eq_false_iff.mpr c40;subst c40;rw[if_neg (show ¬(false=true) by decide)] at H;replace H:=Ob_ H;obtain⟨mi,IM,H⟩:=H;(try dsimp only at H);have V8:=Z_ IM;clear IM;replace H:=Ob_ H;obtain⟨t152,IP,H⟩:=H;replace H:(some (t152,0))=some (r1,r2):=H;have V9:=Z_ IP;clear IP;simp only[Option.some.injEq,Prod.mk.injEq] at H;obtain⟨rfl,rfl⟩:=H;have TQ:=iD.out;have TR:=dz.out;have KP:=cz_ aK 0;have KQ:=cz_ aK 1;have KR:=cz_ aK 2;have KS:=fz_ aK 0;have KT:=fz_ aK 1;have KU:=fz_ aK 2
        go_wp2_with (first|(refine G_ 64 Tryz.func51 #[.agg #[.string a0,.int .i64 av,.int .i64 aA]] ?_;refine(segment_sound_many.calls a0 av aA mi _ V8.out).mono ?_;rintro e Xo ⟨rfl,hb⟩;refine⟨_,rfl,?_⟩;replace aV:=Z_ (blk_below (K_ aV) hb);replace aK:=Z_ (blk_below (K_ aK) hb);replace HB:=Hb_ hb;(try clear hb))|(refine G_ 66 Tryz.func50 #[.int .i64 0,.int .i64 0,.int .i64 mi,.string a0] ?_;refine(segment_told.calls IJ 0 0 mi a0 t152 _ V9.out).mono ?_;rintro e Xp ⟨rfl,hb⟩;refine⟨_,rfl,?_⟩;replace aV:=Z_ (blk_below (K_ aV) hb);replace aK:=Z_ (blk_below (K_ aK) hb);replace HB:=Hb_ hb;(try clear hb)))
        go_ret2;exact⟨E_,B_⟩
end Go.Proofs.YtfghldonnffldaaGreatDoor.YFou
namespace Go.Proofs.YtfghldonnffldaaGreatDoor.ZFiv
open Go.RowKit TBase UOne VTwo XThr YFou YtfghldonnffldaaGreatDoorW.PrintWords YtfghldonnffldaaGreatDoorW.PrintLast YtfghldonnffldaaGreatDoorW.PrintMore
attribute [local go_sem] max2_int min2_int max_two min_two max_three min_three max_four min_four
theorem eqA23(d:Nat)(w:World)(x0 y0:Int)(x1 y1:Int):
  (Op.equalIn (d+2) 23 (.agg #[.int .i64 x0,.int .i64 x1]) (.agg #[.int .i64 y0,.int .i64 y1])).run Tryz.prog w= .ok (x0==y0 && (x1==y1)) w:=by
 refine eqA_of Tryz.underlying23 (by kernel_rfl) ?_;refine eqf_cons (by rfl) (by go_simp;rfl) (by go_simp;rfl) (by go_simp) ?_;exact eqf_last (by rfl) (by go_simp;rfl) (by go_simp;rfl) (by go_simp)
theorem eqA57(d:Nat)(w:World)(x0 y0:Int)(x1 y1:Int)(x2 y2:ByteArray)(x3 y3:ByteArray)(x4 y4:ByteArray):
  (Op.equalIn (d+3) 57 (.agg #[.int .i64 x0,.int .i64 x1,.string x2,.string x3,.string x4]) (.agg #[.int .i64 y0,.int .i64 y1,.string y2,.string y3,.string y4])).run Tryz.prog w= .ok ((x0==y0 && (x1==y1)) && (x2.toList==y2.toList && (x3.toList==y3.toList && (x4.toList==y4.toList)))) w:=by
 refine eqA_of Tryz.underlying57 (by kernel_rfl) ?_;refine eqf_cons (by rfl) (by go_simp) (by go_simp) (eqA23 (d+0) w _ _ _ _) ?_;refine eqf_cons (by rfl) (by go_simp;rfl) (by go_simp;rfl) (by go_simp) ?_;refine eqf_cons (by rfl) (by go_simp;rfl) (by go_simp;rfl) (by go_simp) ?_;exact eqf_last (by rfl) (by go_simp;rfl) (by go_simp;rfl) (by go_simp)
end Go.Proofs.YtfghldonnffldaaGreatDoor.ZFiv
