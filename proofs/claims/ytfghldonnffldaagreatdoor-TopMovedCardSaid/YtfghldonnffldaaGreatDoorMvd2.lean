/- Walks of the program's functions, and the laws of what they compute, for TopMoved: one file of several. -/
import Derived.Deep.RegionLaw
import Derived.Laws.CopyOwn
import Derived.Test.YtfghldonnffldaaGreatDoorMvd1
set_option linter.unusedVariables false
set_option linter.unusedSimpArgs false
set_option maxRecDepth 100000
set_option maxHeartbeats 8000000
namespace Go.Proofs.YtfghldonnffldaaGreatDoor
open Go.RowKit YtfghldonnffldaaGreatDoorW.PrintWords YtfghldonnffldaaGreatDoorW.PrintLast YtfghldonnffldaaGreatDoorW.PrintMore TBase
theorem step_copy_row{P:Program}{ops:Array Oper}{o:Oper}{a:Act}{w:World}{K:Act→World→Prop}{Q:Exit→Act→World→Prop}{E:Prop}(hgd:o.guard=none)(d s:Operand)(dT sT:TypeId)
  (ho:o.op= .call { callee:= .builtin .copy,args:= #[d,s],argTypes:= #[dT,sT] }) (elem:TypeId) (hu:P.underlying dT=some (.slice elem)) (hsz:(P.info? elem).map (·.size)=some 1)
  (g off dLen dCap:Nat) (ad:Addr) (sLen sCap:Nat) (hd:a.eval d= .slice (some ⟨g,off,none⟩) dLen dCap) (hs:a.eval s= .slice (some ad) sLen sCap)
  (cur:List Value) (t:TypeId) (hg:w.heap[g]?=some (.cells cur.toArray t (0,0))) (cs:List Value) (hn:cs.length=Nat.min sLen dLen)
  (hsrc:∀j v,cs[j]?=some v→w.cell? (ad.add j)=some v) (hfit:off+cs.length≤cur.length) (h1:∀v∈cs,v.oneCell'=true)
  (out:List Value) (hout:cur.take off++(cs++cur.drop (off+cs.length))=out)
  (h:K (a.put o.dst (goInt cs.length)) (w.setRow g out.toArray)):
  if Region.wanted o (yielded ops a.tmps)=true then Oper.wp P o a w K Q else E:=by
 subst hout;have hw:Region.wanted o (yielded ops a.tmps)=true:=by simp[Region.wanted,hgd]
 rw[if_pos hw];have hrun:=run_copy_row (P:=P) w dT sT o.type elem g off dLen dCap ad sLen sCap cur.toArray t cs hu hsz hg hn hsrc (by simpa using hfit) h1;unfold Oper.wp;simp[execOp,ho,resolve,invoke,builtin,hd,hs,hrun,Result.andThen];exact h
theorem list16{xs:List Int}(h:xs.length=16):∃a0 a1 a2 a3 a4 a5 a6 a7 a8 a9 Km Kn a12 Ko Kq Kr,xs= [a0,a1,a2,a3,a4,a5,a6,a7,a8,a9,Km,Kn,a12,Ko,Kq,Kr]:=by
 match xs,h with
 | [a0,a1,a2,a3,a4,a5,a6,a7,a8,a9,Km,Kn,a12,Ko,Kq,Kr],_=>exact⟨_,_,_,_,_,_,_,_,_,_,_,_,_,_,_,_,rfl⟩
theorem lLearn_of(l xs:List Int)(x:Int)(nw:Nat→Int)(hl:l.length=16)(hx:xs.length=16)(h1:∀k,k<8→xs.getD k 0=nw k)(h2:∀k,k<8→xs.getD (8+k) 0=l.getD (8+k) 0):
  (xs.take 9++((xs.drop 8).take 7++xs.drop 16)).set 8 x=(List.range 8).map nw++(x::(l.drop 8).take 7):=by
 obtain⟨a0,a1,a2,a3,a4,a5,a6,a7,a8,a9,Km,Kn,a12,Ko,Kq,Kr,rfl⟩:=list16 hx;obtain⟨b0,b1,b2,b3,b4,b5,b6,b7,b8,b9,b10,b11,b12,b13,b14,b15,rfl⟩:=list16 hl;have e0:a0=nw 0:=h1 0 (by omega);have e1:a1=nw 1:=h1 1 (by omega);have e2:a2=nw 2:=h1 2 (by omega);have e3:a3=nw 3:=h1 3 (by omega);have e4:a4=nw 4:=h1 4 (by omega);have e5:a5=nw 5:=h1 5 (by omega);have e6:a6=nw 6:=h1 6 (by omega);have e7:a7=nw 7:=h1 7 (by omega);have e8:a8=b8:=h2 0 (by omega);have e9:a9=b9:=h2 1 (by omega);have e10:Km=b10:=h2 2 (by omega);have e11:Kn=b11:=h2 3 (by omega);have e12:a12=b12:=h2 4 (by omega);have e13:Ko=b13:=h2 5 (by omega);have e14:Kq=b14:=h2 6 (by omega);have e15:Kr=b15:=h2 7 (by omega)
 subst_vars
 rfl
def lNew(l:List Int)(x:Int)(i:Nat):Int:=Sq.bound (l.getD i 0+16*Sq.sign (x - lGuess l)*Sq.sign (l.getD (8+i) 0)) (-1048576) 1048576
def lLearn(l:List Int)(x:Int):List Int:=(List.range 8).map (lNew l x)++(x::(l.drop 8).take 7)
theorem lLearn_ok{l:List Int}{x:Int}(h:LOk l)(h0: -4194304≤x)(h1:x≤4194304):LOk (lLearn l x):=by
 obtain⟨hl,hw,hh⟩:=h;refine⟨?_,?_,?_⟩
 ·unfold lLearn;simp[hl]
 ·intro j hj
  have e:(lLearn l x).getD j 0=lNew l x j:=by
   unfold lLearn;rw[gD_,List.getElem?_append_left (by simp;omega)];simp[hj]
  rw[e];exact Sq.bound_bd _ _ _ (by omega)
 ·intro j hj
  have e:(lLearn l x).getD (8+j) 0=(x::(l.drop 8).take 7).getD j 0:=by
   unfold lLearn;rw[gD_,List.getElem?_append_right (by simp)];simp
  rw[e]
  cases j with
  |zero=>exact⟨h0,h1⟩
  |succ j=>
   rw[List.getD_cons_succ,getD_drop_take l _ _ _ (by omega)];exact hh j (by omega)
theorem sign_mul(a b:Int): -16≤16*Sq.sign a*Sq.sign b∧16*Sq.sign a*Sq.sign b≤16:=by
 have ha:=Sq.sign_bd a;have hb:=Sq.sign_bd b;have h1:Sq.sign a= -1∨Sq.sign a=0∨Sq.sign a=1:=by omega
 rcases h1 with e|e|e<;>rw[e]<;>omega
def lmsL.T8:Bool×List (List Nat×List Nat):=(true,[([],[]),([],[]),([],[]),([2,1],[1,2]),([3],[3]),([],[]),([5],[5]),([],[]),([],[]),([8,7],[7,8]),([9],[9]),([10],[10]),([6,11],[6,11]),([4,12],[4,12]),([13,11],[13]),([],[]),([15,0,0,1,2,3,4,5,6,7,8,9,10,11,12,13,14],[0,15]),([16,14,14,0,1,2,3,4,5,6,7,8,9,10,11,12,13,14],[14,16])])
def lmsL.B8:List Nat:= [0,0,0,6,14,0,32,0,0,384,896,1920,4064,8190,16382,0,65535,131071]
theorem lmsL.tab8:rtab .any (opsOf Tryz.f104 8)=lmsL.T8:=by kernel_rfl
theorem lmsL.bits8:waitsOk lmsL.T8.2 lmsL.B8=true:=by kernel_rfl
theorem lmsLearn_calls(l:List Int)(x:Int)(w:World)(h:LOk l)(hx0: -4194304≤x)(hx1:x≤4194304):Calls Tryz.prog 104 #[.agg (ints l).toArray,.int .i64 x] w fun e w'=>e= .returned (.tuple #[.agg (ints (lLearn l x)).toArray,.int .i64 0])∧Below w.heap.size w w':=by
 have pU:=Tryz.underlying133;have BG:=Tryz.underlying131;have hz:∀W,(zeroValue 133).run Tryz.prog W= .ok (.agg (ints (List.replicate 16 0)).toArray) W:=fun _=>by kernel_rfl
 obtain⟨zz,hzz⟩:∃z,List.replicate 16 (0:Int)=z:=⟨_,rfl⟩;rw[hzz] at hz;have ZL:Hid (zz.length=16):=by rw[←hzz];exact List.length_replicate
 have HM:=Z_ h;have YA:Aside0 (((w.alloc (.cells (ints l).toArray 133)).alloc (.cells (ints zz).toArray 133)).heap[w.heap.size]?=some (.cells (ints l).toArray 133 (0,0))):=⟨blk_alloc (blk_new w _) _⟩;have YC:Aside0 (((w.alloc (.cells (ints l).toArray 133)).alloc (.cells (ints zz).toArray 133)).heap[w.heap.size+1]?=some (.cells (ints zz).toArray 133 (0,0))):=⟨heap_alloc2_new w _ _⟩;have YW:Aside0 (Below w.heap.size w ((w.alloc (.cells (ints l).toArray 133)).alloc (.cells (ints zz).toArray 133))):=⟨below_alloc (below_alloc (Below.refl _ _) _) _⟩;have RM:=Lib.hid (range_all YA.out);obtain⟨gs,hgs⟩:∃g,lGuess l=g:=⟨_,rfl⟩;have hg:=lGuess_bd l;rw[hgs] at hg;obtain⟨sg,hsg⟩:∃s,Sq.sign (x - gs)=s:=⟨_,rfl⟩;have hsb:=Sq.sign_bd (x - gs);rw[hsg] at hsb;obtain⟨nw,hnw⟩:∃f,lNew l x=f:=⟨_,rfl⟩
 have NW:Hid (∀i,nw i=Sq.bound (l.getD i 0+16*sg*Sq.sign (l.getD (8+i) 0)) (-1048576) 1048576):=by
  intro i;rw[←hnw,←hsg,←hgs];rfl
 have RES:Hid (lLearn l x=(List.range 8).map nw++(x::(l.drop 8).take 7)):=by
  rw[←hnw];rfl
 obtain⟨res,hres⟩:∃r,lLearn l x=r:=⟨_,rfl⟩;rw[hres] at RES ⊢;clear h hzz hres hnw;have HGS:=Lib.hid hgs;have HSG:=Lib.hid hsg;clear hgs hsg
 go_enter Tryz.func104,Tryz.ntmps104
 go_wp2_with ((with_reducible refine gate_dst (N:=11) rfl ?_);refine wpList_load_mid rfl 133 _ rfl w.heap.size 0 rfl (ints l) _ RM.out Tryz.underlying133 rfl (by rw[ints_len,HM.out.1];kernel_rfl) ?_)
 clear RM hz;generalize (w.alloc (.cells (ints l).toArray 133)).alloc (.cells (ints zz).toArray 133)=W at YA YC YW ⊢;refine(lmsGuess_calls l _ HM.out).mono ?_;rintro e w1 ⟨rfl,hb⟩;rw[HGS.out];have n0:=Z_ (blk_below YA.out hb);have n1:=Z_ (blk_below YC.out hb);have n2:=Z_ (below_step YW.out hb);clear YA YC YW hb;have YA:=n0;have YC:=n1;have YW:=n2;clear n0 n1 n2
 go_wp2_with (first
  |(go_at_call 128;refine(lin_calls _ _ _ (by omega) (by omega) (Or.inr rfl)).mono ?_;rintro e w2 ⟨rfl,⟨nd,rfl⟩⟩)
  |(go_at_call 129;refine(lsign_calls _ _).mono ?_;rintro e w3 ⟨rfl,⟨lN,rfl⟩⟩;rw[HSG.out]))
 have YA':=Z_ (blk_drewN (blk_drewN YA.out nd) lN);have YC':=Z_ (blk_drewN (blk_drewN YC.out nd) lN);have YW':=Z_ (pw_below_drewN (pw_below_drewN YW.out nd) lN);clear YA YC YW hg HGS HSG;have YA:=YA';have YC:=YC';have YW:=YW';clear YA' YC' YW'
 try simp only[World.drewN_drewN] at YA YC YW ⊢
 generalize World.drewN w1 _=wz at YA YC YW ⊢
 go_loopg [27] 8 (fun d v27 wr=>∃(i:Nat) (xs:List Int),v27= .int .i64 i∧i+d=8∧Aside0 (xs.length=16)∧Aside0 (∀k,k<i→xs.getD k 0=nw k)∧Aside0 (∀k,i≤k→xs.getD k 0=l.getD k 0)∧Aside0 (wr.heap[w.heap.size]?=some (.cells (ints xs).toArray 133 (0,0)))∧Aside0 (wr.heap[w.heap.size+1]?=some (.cells (ints zz).toArray 133 (0,0)))∧Aside0 (Below w.heap.size w wr))
 case atStart=>exact⟨0,l,rfl,by omega,⟨HM.out.1⟩,⟨fun k hk=>absurd hk (by omega)⟩,⟨fun _ _=>rfl⟩,YA,YC,YW⟩
 case round=>
  clear YA YC YW;obtain⟨i,xs,rfl,hi,XL,XN,XO,YA,YC,YW⟩:=hrel
  cases gk with
  |zero=>
   obtain rfl:i=8:=by omega
   go_wp2;have CL:Hid ((ints ((xs.drop 8).take 7)).length=7):=by show _=_;rw[ints_len,List.length_take,List.length_drop,XL.out];rfl
   have CC:Hid (wr.drew.rangeAt w.heap.size 8 (ints ((xs.drop 8).take 7))):=range_ints (blk_drew YA.out) 8 7;have CU:Hid ((ints xs).length=16):=by show _=_;rw[ints_len,XL.out]
   have CA:=Z_ (blk_drew YA.out)
   have CO:Hid ((ints xs).take 9++(ints ((xs.drop 8).take 7)++(ints xs).drop (9+(ints ((xs.drop 8).take 7)).length))=ints (xs.take 9++((xs.drop 8).take 7++xs.drop 16))):=by
    show _=_;rw[CL.out];unfold ints;simp only[List.map_append,List.map_take,List.map_drop]
   have YL:Hid ((xs.take 9++((xs.drop 8).take 7++xs.drop 16)).length=16):=by
    show _=_;simp only[List.length_append,List.length_take,List.length_drop,XL.out];rfl
   have FIN:Hid ((xs.take 9++((xs.drop 8).take 7++xs.drop 16)).set 8 x=res):=by
    show _=_;rw[RES.out];exact lLearn_of l xs x nw HM.out.1 XL.out XN.out (fun k hk=>XO.out (8+k) (by omega))
   have Z0:=Z_ (setRow_heap _ w.heap.size _ (ints (xs.take 9++((xs.drop 8).take 7++xs.drop 16))).toArray 133 (0,0) CA.out);have Z1:=Z_ ((setRow_other wr.drew w.heap.size (w.heap.size+1) (ints (xs.take 9++((xs.drop 8).take 7++xs.drop 16))).toArray (by omega)).trans (blk_drew YC.out));have ZB:=Z_ (below_setRow (below_drew1 YW.out) (Nat.le_refl _) (ints (xs.take 9++((xs.drop 8).take 7++xs.drop 16))).toArray);generalize xs.take 9++((xs.drop 8).take 7++xs.drop 16)=ys at CO YL FIN Z0 Z1 ZB ⊢
   go_region_law (refine step_copy_row rfl (.tmp 49) (.tmp 51) 36 36 rfl 3 Tryz.underlying36 (by kernel_rfl) w.heap.size 9 7 7 ⟨w.heap.size,8,none⟩ 7 8 (by simp[Act.eval,Act.put]) (by simp[Act.eval,Act.put]) (ints xs) 133 CA.out (ints ((xs.drop 8).take 7)) (by rw[CL.out];rfl) (fun j v hj=>by have:=CC.out j v hj;cases j with|zero=>exact this|succ j=>simpa [Addr.add] using this) (by rw[CL.out,CU.out];omega) (ints_one _) _ CO.out ?_)
   clear YA YC YW CA CO CU CC CL XL XN XO;have YA:=Z0;have YC:=Z1;have YW:=ZB;clear Z0 Z1 ZB;generalize wr.drew.setRow _ _=w5 at YA YC YW ⊢;have k1:=cell_ints YA.out 8 (by rw[YL.out];omega);have f1:=blk_frozen YA.out;have l1:=blk_lt YA.out;have Z0:=Z_ (blk_set_ints YA.out 8 x);have Z1:=Z_ (blk_far (p:=⟨w.heap.size,8,none⟩) YC.out (by simp) (.int .i64 x));have ZB:=Z_ (below_set (j:=8) (v:= .int .i64 x) YW.out (Nat.le_refl _));rw[FIN.out] at Z0
   have FL:Hid (res.length=16):=by
    show _=_;rw[←FIN.out,List.length_set,YL.out]
   have RR:=Lib.hid (range_all Z0.out);have TH:=Lib.hid (there_blk Z1.out 0 16 (by rw[ints_len,ZL.out];omega));have SZ:Hid ((ints res).toArray.size=16):=by show(ints res).toArray.size=16;rw[List.size_toArray,ints_len,FL.out]
   have hlen:(ints zz).length=(ints res).length:=by rw[ints_len,ints_len,ZL.out,FL.out]
   go_wp2_with (first
    |((with_reducible refine gate_dst (N:=56) rfl ?_);refine wpList_load_mid rfl 133 _ rfl w.heap.size 0 rfl (ints res) _ RR.out Tryz.underlying133 rfl (by rw[ints_len,FL.out];kernel_rfl) ?_)
    |((with_reducible refine gate_store (t:=133) (p:=4) rfl ?_);refine wpList_store_mid rfl 133 _ _ rfl (w.heap.size+1) 0 (ints res).toArray rfl rfl (by rw[SZ.out];exact TH.out) (by rw[SZ.out];kernel_rfl) (all_oneCell_toArray (ints_one _)) ?_))
   have h1:=setCells_all (vs:=(ints res)) Z1.out hlen;have h2:=below_setCells ZB.out (show w.heap.size≤w.heap.size+1 by omega) (ints res) 0;refine bodyPost_ret (results_ct rfl _ _ (w.heap.size+1) 133 (ints res).toArray (0,0) _ rfl h1 Tryz.underlying133 rfl (by rw[SZ.out];kernel_rfl)) rfl ⟨by rfl,h2⟩
  |succ d=>
   have hlt':(i:Int)<8:=by omega
   have hi0:(0:Int)≤i:=by omega
   have hb:=HM.out.2.1 i (by omega);rw[←XO.out i (Nat.le_refl _)] at hb;obtain⟨xi,hxi⟩:∃z,xs.getD i 0=z:=⟨_,rfl⟩;obtain⟨yi,hyi⟩:∃z,xs.getD (8+i) 0=z:=⟨_,rfl⟩;have hm:=sign_mul (x - gs) yi;rw[hxi] at hb;have NI:Hid (nw i=Sq.bound (xi+16*sg*Sq.sign yi) (-1048576) 1048576):=by show nw i=_;rw[NW.out i,←XO.out i (Nat.le_refl _),←XO.out (8+i) (by omega),hxi,hyi]
   have hxi:=Lib.hid hxi;have hyi:=Lib.hid hyi
   have hp0: -16≤16*sg*Sq.sign yi∧16*sg*Sq.sign yi≤16:=by
    have h1:sg= -1∨sg=0∨sg=1:=by omega
    have:=Sq.sign_bd yi
    rcases h1 with e|e|e<;>rw[e]<;>omega
   obtain⟨p,hp⟩:∃p,16*sg*Sq.sign yi=p:=⟨_,rfl⟩;rw[hp] at hp0 NI
   have HQ:Hid (wrap64 (xi+wrap64 (wrap64 (16*sg)*Sq.sign yi))=xi+p):=by
    have e1:wrap64 (16*sg)=16*sg:=by unfold wrap64;omega
    show wrap64 _=_;rw[e1,hp];unfold wrap64;omega
   clear hm hp hp0 hb;go_wp2;replace YA:=Z_ (blk_drew YA.out);replace YC:=Z_ (blk_drew YC.out);replace YW:=Z_ (below_drew1 YW.out);refine start_ (n:=18) (S:=fun w'=>w'.heap[w.heap.size]?=some (.cells (ints xs).toArray 133 (0,0))) (ds:= [17]) #[false,false,false,false,false,false,false,false,false,false,false,false,false,false,false,false,false,false] (by kernel_rfl) rfl rfl YA.out (fun hHeld=>?_);refine with_tabW lmsL.tab8 lmsL.bits8 (fun HT_ HW_=>?_);generalize World.drew _=wq at YA YC YW hHeld ⊢;refine P_ 0 30 ?_;refine P_ 1 31 ?_;refine P_ 2 32 ?_;refine P_ 5 35 ?_;refine P_ 6 36 ?_;refine P_ 7 37 ?_;refine P_ 8 38 ?_;refine P_ 15 45 ?_;refine T_ 3 33 (y:=by rintro w' s0;(have q0:w'.cell? ⟨w.heap.size,i,none⟩=some (.int .i64 xi):=by rw[←hxi.out];exact cell_ints s0 i (by rw[XL.out];omega));(have q1:w'.cell? ⟨w.heap.size,8+i,none⟩=some (.int .i64 yi):=by rw[←hyi.out];exact cell_ints s0 (8+i) (by rw[XL.out];omega));go_simp;with_reducible rfl) (h:=?_);refine T_ 4 34 (y:=by rintro w' s0;(have q0:w'.cell? ⟨w.heap.size,i,none⟩=some (.int .i64 xi):=by rw[←hxi.out];exact cell_ints s0 i (by rw[XL.out];omega));(have q1:w'.cell? ⟨w.heap.size,8+i,none⟩=some (.int .i64 yi):=by rw[←hyi.out];exact cell_ints s0 (8+i) (by rw[XL.out];omega));go_simp;with_reducible rfl) (h:=?_);refine T_ 9 39 (y:=by rintro w' s0;(have q0:w'.cell? ⟨w.heap.size,i,none⟩=some (.int .i64 xi):=by rw[←hxi.out];exact cell_ints s0 i (by rw[XL.out];omega));(have q1:w'.cell? ⟨w.heap.size,8+i,none⟩=some (.int .i64 yi):=by rw[←hyi.out];exact cell_ints s0 (8+i) (by rw[XL.out];omega));go_simp;with_reducible rfl) (h:=?_);refine T_ 10 40 (y:=by rintro w' s0;(have q0:w'.cell? ⟨w.heap.size,i,none⟩=some (.int .i64 xi):=by rw[←hxi.out];exact cell_ints s0 i (by rw[XL.out];omega));(have q1:w'.cell? ⟨w.heap.size,8+i,none⟩=some (.int .i64 yi):=by rw[←hyi.out];exact cell_ints s0 (8+i) (by rw[XL.out];omega));go_simp;with_reducible rfl) (h:=?_);refine O_ 11 41 fun K hK=>?_
   refine goes_ Tryz.func129 (by kernel_rfl) rfl #[.int .i64 yi] (by rfl) rfl rfl (by(try simp only[List.map_toArray,List.map_cons,List.map_nil]);first|done|rfl) ?_;refine(lsign_calls yi _).mono ?_;rintro e w7 ⟨rfl,⟨nd,rfl⟩⟩;refine⟨_,rfl,?_⟩;have n0:=Z_ (blk_drewN YA.out nd);have n1:=Z_ (blk_drewN YC.out nd);have n2:=Z_ (pw_below_drewN YW.out nd);clear YA YC YW;have YA:=n0;have YC:=n1;have YW:=n2;clear n0 n1 n2;refine hK.out _ _ YA.out (fun hHeld=>?_);clear hK K;refine Nm_ 41 ?_;refine P_ 12 42 ?_;refine P_ 13 43 ?_;refine O_ 14 44 fun K hK=>?_
   refine goes_ Tryz.func127 (by kernel_rfl) rfl #[.int .i64 (wrap64 (xi+wrap64 (wrap64 (16*sg)*Sq.sign yi))),.int .i64 1048576] (by rfl) rfl rfl (by(try simp only[List.map_toArray,List.map_cons,List.map_nil]);first|done|rfl) ?_;rw[HQ.out];refine(lbound_calls (xi+p) 1048576 _ rfl).mono ?_;rintro e w8 ⟨rfl,hb⟩;refine⟨_,rfl,?_⟩;have n0:=Z_ (blk_below YA.out hb);have n1:=Z_ (blk_below YC.out hb);have n2:=Z_ (below_step YW.out hb);clear YA YC YW hb;have YA:=n0;have YC:=n1;have YW:=n2;clear n0 n1 n2;refine hK.out _ _ YA.out (fun hHeld=>?_);clear hK K;refine Nm_ 44 ?_;refine T_ 16 46 (y:=by rintro w' s0;(have q0:w'.cell? ⟨w.heap.size,i,none⟩=some (.int .i64 xi):=by rw[←hxi.out];exact cell_ints s0 i (by rw[XL.out];omega));(have q1:w'.cell? ⟨w.heap.size,8+i,none⟩=some (.int .i64 yi):=by rw[←hyi.out];exact cell_ints s0 (8+i) (by rw[XL.out];omega));go_simp;with_reducible rfl) (h:=?_);have q0:w8.cell? ⟨w.heap.size,i,none⟩=some (.int .i64 xi):=by rw[←hxi.out];exact cell_ints YA.out i (by rw[XL.out];omega)
   have qf:=blk_frozen YA.out;have ql:=blk_lt YA.out;refine last_ (i:=17) (N:=none) #[true,true,true,true,true,true,true,true,true,true,true,true,true,true,true,true,true,true] rfl rfl (one_of HT_.out (by kernel_rfl)) (by decide) (fun K hK=>?_);refine skip_ (w1:=?_) (by rfl) rfl ?_ ?_;rotate_left
   ·go_simp
    rfl
   refine hK.out _ _ ?_;clear hK K;refine done_ (done_of HT_.out (by kernel_rfl)) ?_;have Z0:=Z_ (blk_set_ints YA.out i (Sq.bound (xi+p) (-1048576) 1048576));have Z1:=Z_ (blk_far (p:=⟨w.heap.size,i,none⟩) YC.out (by simp) (.int .i64 (Sq.bound (xi+p) (-1048576) 1048576)));have ZB:=Z_ (below_set (j:=i) (v:= .int .i64 (Sq.bound (xi+p) (-1048576) 1048576)) YW.out (Nat.le_refl _));have Vq:Aside0 ((xs.set i (Sq.bound (xi+p) (-1048576) 1048576)).length=16):=⟨by rw[List.length_set];exact XL.out⟩
   have ZN:Aside0 (∀k,k<i+1→(xs.set i (Sq.bound (xi+p) (-1048576) 1048576)).getD k 0=nw k):=⟨fun k hk=>by
    rw[getD_set _ _ _ _ (by rw[XL.out];omega)]
    by_cases e:k=i
    ·rw[if_pos e,e,NI.out]
    ·rw[if_neg e]
     exact XN.out k (by omega)⟩
   have ZO:Aside0 (∀k,i+1≤k→(xs.set i (Sq.bound (xi+p) (-1048576) 1048576)).getD k 0=l.getD k 0):=⟨fun k hk=>by
    rw[getD_set _ _ _ _ (by rw[XL.out];omega),if_neg (by omega)]
    exact XO.out k (by omega)⟩
   go_wp2
   go_roundg d
   case measure=>omega
   case rel=>exact⟨i+1,_,by go_num,by omega,Vq,ZN,ZO,Z0,Z1,ZB⟩
theorem load_mid_g{ops:Array Oper}{rest:List Oper}{op:Oper}{a:Act}{w:World}{Q:Exit→Act→World→Prop}{g:Nat}{u:Bool}{og:Oper}{t:Nat}(hg:op.guard=some (g,u))(hog:ops[g]?=some og)(hd:og.dst=some t)(hv:a.tmps[t]?=some (.bool u))(ty:TypeId)(x:Operand)(ho:op.op= .load ty x)
  (b o:Nat) (hx:a.eval x= .pointer (some ⟨b,o,none⟩)) (cs:List Value) (d:TypeDesc) (hc:w.rangeAt b o cs)
  (hu:Tryz.prog.underlying ty=some d) (hd:d.isRow=true) (hi:(Tryz.prog.info? ty).map (·.size)=some cs.length)
  (h:wpList Tryz.prog ops Q rest (a.put op.dst (.agg cs.toArray)) w):wpList Tryz.prog ops Q (op::rest) a w:=by
 refine wpList_step fun K hK=>?_
 rw[if_pos (by simp[Region.wanted,hg,yielded,hog, *])];exact wp_load_mid ty x ho b o hx cs d hc hu hd hi (hK _ _ h)
def ch(a:Int)(A B:List Int):List Int:=a::(A++B)
def COk(a:Int)(A B:List Int):Prop:=(-131072≤a∧a≤131072)∧LOk A∧LOk B
theorem ch_len{a:Int}{A B:List Int}(h:COk a A B):(ch a A B).length=33:=by
 unfold ch;rw[List.length_cons,List.length_append,h.2.1.1,h.2.2.1]
theorem ch_A{a:Int}{A B:List Int}(h:A.length=16):((ch a A B).drop 1).take 16=A:=by
 unfold ch;rw[List.drop_succ_cons,List.drop_zero,List.take_append_of_le_length (by omega),List.take_of_length_le (by omega)]
theorem ch_B{a:Int}{A B:List Int}(h:A.length=16)(hB:B.length=16):((ch a A B).drop 17).take 16=B:=by
 unfold ch;rw[List.drop_succ_cons,List.drop_append,List.drop_of_length_le (by omega),List.nil_append,h,Nat.sub_self,List.drop_zero,List.take_of_length_le (by omega)]
theorem range_chA{w:World}{g:Nat}{a:Int}{A B:List Int}{t:TypeId}{fr:Nat×Nat}(h:w.heap[g]?=some (.cells (ints (ch a A B)).toArray t fr))(hA:A.length=16):w.rangeAt g 1 (ints A):=by
 have:=range_ints h 1 16
 rwa [ch_A hA] at this
theorem range_chB{w:World}{g:Nat}{a:Int}{A B:List Int}{t:TypeId}{fr:Nat×Nat}(h:w.heap[g]?=some (.cells (ints (ch a A B)).toArray t fr))(hA:A.length=16)(hB:B.length=16):w.rangeAt g 17 (ints B):=by
 have:=range_ints h 17 16
 rwa [ch_B hA hB] at this
theorem cell_ch{w:World}{g:Nat}{a:Int}{A B:List Int}{t:TypeId}{fr:Nat×Nat}(h:w.heap[g]?=some (.cells (ints (ch a A B)).toArray t fr)):w.cell? ⟨g,0,none⟩=some (.int .i64 a):=cell_ints h 0 (by unfold ch;simp)
theorem ch_setB{w:World}{g:Nat}{a:Int}{A B B':List Int}{t:TypeId}(h:w.heap[g]?=some (.cells (ints (ch a A B)).toArray t (0,0)))(hA:A.length=16)(hB:B.length=16)(hB':B'.length=16):
  (w.setCells g 17 (ints B')).heap[g]?=some (.cells (ints (ch a A B')).toArray t (0,0)):=by
 have e:∀X,ints (ch a A X)=ints (a::A)++ints X++ []:=fun X=>by unfold ch ints;simp
 rw[e] at h;have:=setCells_blk (ints B') (ints (a::A)) (ints B) [] w h (by rw[ints_len,ints_len,hB,hB']);rw[ints_len,List.length_cons,hA] at this;rw[e];exact this
theorem ch_setA{w:World}{g:Nat}{a:Int}{A B A':List Int}{t:TypeId}(h:w.heap[g]?=some (.cells (ints (ch a A B)).toArray t (0,0)))(hA:A.length=16)(hA':A'.length=16):
  (w.setCells g 1 (ints A')).heap[g]?=some (.cells (ints (ch a A' B)).toArray t (0,0)):=by
 have e:∀X,ints (ch a X B)=ints [a]++ints X++ints B:=fun X=>by unfold ch ints;simp
 rw[e] at h;have:=setCells_blk (ints A') (ints [a]) (ints A) (ints B) w h (by rw[ints_len,ints_len,hA,hA']);rw[e];exact this
theorem csample_calls(x:Int)(w:World)(h: -131072≤x∧x≤131072):Calls Tryz.prog 103 #[.int .i64 x] w fun e w'=>e= .returned (.bool true)∧∃n,w'=w.drewN n:=by
 refine(chain_Sample.calls x true w ?_).mono fun e w' hh=>⟨hh.1,hh.2.out⟩
 unfold chain_Sample.f;rw[if_pos h.1,dt_ h.2]
theorem chainMay_calls(a:Int)(A B:List Int)(w:World)(h:COk a A B):Calls Tryz.prog 101 #[.agg (ints (ch a A B)).toArray] w fun e w'=>e= .returned (.bool true)∧Below w.heap.size w w':=by
 have pU:=Tryz.underlying133;have uw:=Tryz.underlying135;have HM:=Z_ h;have YA:Aside0 ((w.alloc (.cells (ints (ch a A B)).toArray 135)).heap[w.heap.size]?=some (.cells (ints (ch a A B)).toArray 135 (0,0))):=⟨blk_new w _⟩;have YW:Aside0 (Below w.heap.size w (w.alloc (.cells (ints (ch a A B)).toArray 135))):=⟨below_alloc (Below.refl _ _) _⟩;clear h;have kc:=cell_ch YA.out
 go_enter Tryz.func101,Tryz.ntmps101
 go_wp2_with fail
 refine(csample_calls a _ HM.out.1).mono ?_;rintro e w1 ⟨rfl,⟨nd,rfl⟩⟩;clear kc;have n0:=Z_ (blk_drewN YA.out nd);have n9:=Z_ (pw_below_drewN YW.out nd);clear YA YW;have YA:=n0;have YW:=n9;clear n0 n9;generalize World.drewN _ _=w1 at YA YW ⊢
 go_wp2_with ((with_reducible refine gate_dst (N:=8) rfl ?_);refine load_mid_g rfl rfl rfl rfl 133 _ rfl w.heap.size 1 rfl (ints A) _ (range_chA YA.out HM.out.2.1.1) Tryz.underlying133 rfl (by rw[ints_len,HM.out.2.1.1];kernel_rfl) ?_)
 refine(lmsMay_calls A _ HM.out.2.1).mono ?_;rintro e w2 ⟨rfl,hb⟩;have n0:=Z_ (blk_below YA.out hb);have n9:=Z_ (below_step YW.out hb);clear YA YW hb;have YA:=n0;have YW:=n9;clear n0 n9
 go_wp2_with ((with_reducible refine gate_dst (N:=13) rfl ?_);refine load_mid_g rfl rfl rfl rfl 133 _ rfl w.heap.size 17 rfl (ints B) _ (range_chB YA.out HM.out.2.1.1 HM.out.2.2.1) Tryz.underlying133 rfl (by rw[ints_len,HM.out.2.2.1];kernel_rfl) ?_)
 refine(lmsMay_calls B _ HM.out.2.2).mono ?_;rintro e w3 ⟨rfl,hb⟩;have n0:=Z_ (blk_below YA.out hb);have n9:=Z_ (below_step YW.out hb);clear YA YW hb;have YA:=n0;have YW:=n9;clear n0 n9;go_wp2;go_ret;exact⟨rfl,YW.out⟩
def cGuess(a:Int)(A B:List Int):Int:=a+lGuess A+lGuess B
theorem chainGuess_calls(a:Int)(A B:List Int)(w:World)(h:COk a A B):Calls Tryz.prog 70 #[.agg (ints (ch a A B)).toArray] w fun e w'=>e= .returned (.tuple #[.int .i64 (cGuess a A B),.int .i64 0])∧Below w.heap.size w w':=by
 have pU:=Tryz.underlying133;have uw:=Tryz.underlying135;have HM:=Z_ h;have YA:Aside0 ((w.alloc (.cells (ints (ch a A B)).toArray 135)).heap[w.heap.size]?=some (.cells (ints (ch a A B)).toArray 135 (0,0))):=⟨blk_new w _⟩;have YW:Aside0 (Below w.heap.size w (w.alloc (.cells (ints (ch a A B)).toArray 135))):=⟨below_alloc (Below.refl _ _) _⟩;clear h;have RES:Hid (cGuess a A B=a+lGuess A+lGuess B):=rfl;have b1:=lGuess_bd A;have b2:=lGuess_bd B;have b3:=HM.out.1
 go_enter Tryz.func70,Tryz.ntmps70
 go_wp2_with ((with_reducible refine gate_dst (N:=8) rfl ?_);refine wpList_load_mid rfl 135 _ rfl w.heap.size 0 rfl (ints (ch a A B)) _ (range_all YA.out) Tryz.underlying135 rfl (by rw[ints_len,ch_len HM.out];kernel_rfl) ?_)
 refine(chainMay_calls a A B _ HM.out).mono ?_;rintro e w1 ⟨rfl,hb⟩;have n0:=Z_ (blk_below YA.out hb);have n9:=Z_ (below_step YW.out hb);clear YA YW hb;have YA:=n0;have YW:=n9;clear n0 n9
 go_wp2_with ((with_reducible refine gate_dst (N:=13) rfl ?_);refine wpList_load_mid rfl 133 _ rfl w.heap.size 1 rfl (ints A) _ (range_chA YA.out HM.out.2.1.1) Tryz.underlying133 rfl (by rw[ints_len,HM.out.2.1.1];kernel_rfl) ?_)
 refine(lmsGuess_calls A _ HM.out.2.1).mono ?_;rintro e w2 ⟨rfl,hb⟩;have n0:=Z_ (blk_below YA.out hb);have n9:=Z_ (below_step YW.out hb);clear YA YW hb;have YA:=n0;have YW:=n9;clear n0 n9
 go_wp2_with ((with_reducible refine gate_dst (N:=19) rfl ?_);refine wpList_load_mid rfl 133 _ rfl w.heap.size 17 rfl (ints B) _ (range_chB YA.out HM.out.2.1.1 HM.out.2.2.1) Tryz.underlying133 rfl (by rw[ints_len,HM.out.2.2.1];kernel_rfl) ?_)
 refine(lmsGuess_calls B _ HM.out.2.2).mono ?_;rintro e w3 ⟨rfl,hb⟩;have n0:=Z_ (blk_below YA.out hb);have n9:=Z_ (below_step YW.out hb);clear YA YW hb;have YA:=n0;have YW:=n9;clear n0 n9;have kc:=cell_ch YA.out;generalize lGuess A=ga at b1 RES ⊢;generalize lGuess B=gb at b2 RES ⊢;go_wp2;go_ret2;refine⟨?_,YW.out⟩;rw[RES.out]
 first|rfl|trace_state
def cA(a:Int)(A:List Int)(x:Int):List Int:=lLearn A (x - a)
def cB(a:Int)(A B:List Int)(x:Int):List Int:=lLearn B (x - a - lGuess A)
theorem cLearn_ok{a x:Int}{A B:List Int}(h:COk a A B)(hx: -131072≤x∧x≤131072):COk x (cA a A x) (cB a A B x):=by
 have b1:=lGuess_bd A;have b3:=h.1;exact⟨hx,lLearn_ok h.2.1 (by omega) (by omega),lLearn_ok h.2.2 (by omega) (by omega)⟩
theorem chainLearn_calls(a:Int)(A B:List Int)(x:Int)(w:World)(h:COk a A B)(hx: -131072≤x∧x≤131072):Calls Tryz.prog 71 #[.agg (ints (ch a A B)).toArray,.int .i64 x] w fun e w'=>e= .returned (.tuple #[.agg (ints (ch x (cA a A x) (cB a A B x))).toArray,.int .i64 0])∧Below w.heap.size w w':=by
 have pU:=Tryz.underlying133;have uw:=Tryz.underlying135;have hz:∀W,(zeroValue 135).run Tryz.prog W= .ok (.agg (ints (List.replicate 33 0)).toArray) W:=fun _=>by kernel_rfl
 obtain⟨zz,hzz⟩:∃z,List.replicate 33 (0:Int)=z:=⟨_,rfl⟩;rw[hzz] at hz;have ZL:Hid (zz.length=33):=by rw[←hzz];exact List.length_replicate
 have HM:=Z_ h;have HR:=Z_ (cLearn_ok h hx);have YA:Aside0 (((w.alloc (.cells (ints (ch a A B)).toArray 135)).alloc (.cells (ints zz).toArray 135)).heap[w.heap.size]?=some (.cells (ints (ch a A B)).toArray 135 (0,0))):=⟨blk_alloc (blk_new w _) _⟩;have YC:Aside0 (((w.alloc (.cells (ints (ch a A B)).toArray 135)).alloc (.cells (ints zz).toArray 135)).heap[w.heap.size+1]?=some (.cells (ints zz).toArray 135 (0,0))):=⟨heap_alloc2_new w _ _⟩;have YW:Aside0 (Below w.heap.size w ((w.alloc (.cells (ints (ch a A B)).toArray 135)).alloc (.cells (ints zz).toArray 135))):=⟨below_alloc (below_alloc (Below.refl _ _) _) _⟩;have b1:=lGuess_bd A;have b3:=HM.out.1;obtain⟨RA,hRA⟩:∃r,cA a A x=r:=⟨_,rfl⟩;obtain⟨RB,hRB⟩:∃r,cB a A B x=r:=⟨_,rfl⟩;rw[hRA,hRB] at HR ⊢;have HA:Hid (lLearn A (x - a)=RA):=hRA;obtain⟨ga,hga⟩:∃g,lGuess A=g:=⟨_,rfl⟩;have HB:Hid (lLearn B (x - a - ga)=RB):=by rw[←hga];exact hRB
 rw[hga] at b1;have HG:=Lib.hid hga;clear h hzz hRA hRB hga
 go_enter Tryz.func71,Tryz.ntmps71
 go_wp2_with ((with_reducible refine gate_dst (N:=9) rfl ?_);refine wpList_load_mid rfl 135 _ rfl w.heap.size 0 rfl (ints (ch a A B)) _ (range_all YA.out) Tryz.underlying135 rfl (by rw[ints_len,ch_len HM.out];kernel_rfl) ?_)
 clear hz;generalize (w.alloc (.cells (ints (ch a A B)).toArray 135)).alloc (.cells (ints zz).toArray 135)=W at YA YC YW ⊢;refine(chainMay_calls a A B _ HM.out).mono ?_;rintro e w1 ⟨rfl,hb⟩;have n0:=Z_ (blk_below YA.out hb);have n1:=Z_ (blk_below YC.out hb);have n9:=Z_ (below_step YW.out hb);clear YA YC YW hb;have YA:=n0;have YC:=n1;have YW:=n9;clear n0 n1 n9
 go_wp2_with fail
 refine(csample_calls x _ hx).mono ?_;rintro e w2 ⟨rfl,⟨nd,rfl⟩⟩;have n0:=Z_ (blk_drewN YA.out nd);have n1:=Z_ (blk_drewN YC.out nd);have n9:=Z_ (pw_below_drewN YW.out nd);clear YA YC YW;have YA:=n0;have YC:=n1;have YW:=n9;clear n0 n1 n9;generalize World.drewN _ _=w2 at YA YC YW ⊢;have kc:=cell_ch YA.out
 go_wp2_with ((with_reducible refine gate_dst (N:=24) rfl ?_);refine wpList_load_mid rfl 133 _ rfl w.heap.size 1 rfl (ints A) _ (range_chA YA.out HM.out.2.1.1) Tryz.underlying133 rfl (by rw[ints_len,HM.out.2.1.1];kernel_rfl) ?_)
 clear kc;refine(lmsGuess_calls A _ HM.out.2.1).mono ?_;rintro e w3 ⟨rfl,hb⟩;rw[HG.out];have n0:=Z_ (blk_below YA.out hb);have n1:=Z_ (blk_below YC.out hb);have n9:=Z_ (below_step YW.out hb);clear YA YC YW hb;have YA:=n0;have YC:=n1;have YW:=n9;clear n0 n1 n9
 go_wp2_with ((with_reducible refine gate_dst (N:=30) rfl ?_);refine wpList_load_mid rfl 133 _ rfl w.heap.size 17 rfl (ints B) _ (range_chB YA.out HM.out.2.1.1 HM.out.2.2.1) Tryz.underlying133 rfl (by rw[ints_len,HM.out.2.2.1];kernel_rfl) ?_)
 refine(lmsLearn_calls B _ _ HM.out.2.2 (by omega) (by omega)).mono ?_;rintro e w4 ⟨rfl,hb⟩;rw[HB.out];have n0:=Z_ (blk_below YA.out hb);have n1:=Z_ (blk_below YC.out hb);have n9:=Z_ (below_step YW.out hb);clear YA YC YW hb;have YA:=n0;have YC:=n1;have YW:=n9;clear n0 n1 n9;have TH:=Lib.hid (there_blk YA.out 17 16 (by rw[ints_len,ch_len HM.out];omega));have SZ:Hid ((ints RB).toArray.size=16):=by show(ints RB).toArray.size=16;rw[List.size_toArray,ints_len,HR.out.2.2.1]
 have Z0:=Z_ (ch_setB YA.out HM.out.2.1.1 HM.out.2.2.1 HR.out.2.2.1);have Z1:=Z_ (setCells_far (g:=w.heap.size) (show w.heap.size+1≠w.heap.size by omega) (ints RB) w4 17 YC.out);have ZB:=Z_ (below_setCells YW.out (Nat.le_refl _) (ints RB) 17);have RA_:=Lib.hid (range_chA Z0.out HM.out.2.1.1)
 go_wp2_with (first
  |((with_reducible refine gate_store (t:=133) (p:=37) rfl ?_);refine wpList_store_mid rfl 133 _ _ rfl w.heap.size 17 (ints RB).toArray rfl rfl (by rw[SZ.out];exact TH.out) (by rw[SZ.out];kernel_rfl) (all_oneCell_toArray (ints_one _)) ?_)
  |((with_reducible refine gate_dst (N:=40) rfl ?_);refine wpList_load_mid rfl 133 _ rfl w.heap.size 1 rfl (ints A) _ RA_.out Tryz.underlying133 rfl (by rw[ints_len,HM.out.2.1.1];kernel_rfl) ?_))
 clear TH SZ RA_ YA YC YW HB;have YA:=Z0;have YC:=Z1;have YW:=ZB;clear Z0 Z1 ZB;show Calls _ _ _ (World.setCells _ _ _ (ints RB)) _;generalize World.setCells _ _ _ (ints RB)=w4' at YA YC YW ⊢;refine(lmsLearn_calls A _ _ HM.out.2.1 (by omega) (by omega)).mono ?_;rintro e w5 ⟨rfl,hb⟩;rw[HA.out];have n0:=Z_ (blk_below YA.out hb);have n1:=Z_ (blk_below YC.out hb);have n9:=Z_ (below_step YW.out hb);clear YA YC YW hb;have YA:=n0;have YC:=n1;have YW:=n9;clear n0 n1 n9;have RBOK:COk a RA RB:=⟨HM.out.1,HR.out.2.1,HR.out.2.2⟩;have TH:=Lib.hid (there_blk YA.out 1 16 (by rw[ints_len,ch_len (show COk a A RB from⟨HM.out.1,HM.out.2.1,HR.out.2.2⟩)];omega));have SZ:Hid ((ints RA).toArray.size=16):=by show(ints RA).toArray.size=16;rw[List.size_toArray,ints_len,HR.out.2.1.1]
 have Z0:=Z_ (ch_setA YA.out HM.out.2.1.1 HR.out.2.1.1);have Z1:=Z_ (setCells_far (g:=w.heap.size) (show w.heap.size+1≠w.heap.size by omega) (ints RA) w5 1 YC.out);have ZB:=Z_ (below_setCells YW.out (Nat.le_refl _) (ints RA) 1);have kc:=cell_ch Z0.out;have kf:=blk_frozen Z0.out;have kl:=blk_lt Z0.out;have U0:=Z_ (blk_set_ints Z0.out 0 x);have U1:=Z_ (blk_far (p:=⟨w.heap.size,0,none⟩) Z1.out (by simp) (.int .i64 x));have UB:=Z_ (below_set (j:=0) (v:= .int .i64 x) ZB.out (Nat.le_refl _));have e:(ch a RA RB).set 0 x=ch x RA RB:=rfl;rw[e] at U0;have FL:Hid ((ch x RA RB).length=33):=ch_len HR.out;have RR:=Lib.hid (range_all U0.out);have Vr:=Lib.hid (there_blk U1.out 0 33 (by rw[ints_len,ZL.out];omega));have Qt:Hid ((ints (ch x RA RB)).toArray.size=33):=by show(ints (ch x RA RB)).toArray.size=33;rw[List.size_toArray,ints_len,FL.out]
 have hlen:(ints zz).length=(ints (ch x RA RB)).length:=by rw[ints_len,ints_len,ZL.out,FL.out]
 clear e
 go_wp2_with (first
  |((with_reducible refine gate_store (t:=133) (p:=45) rfl ?_);refine wpList_store_mid rfl 133 _ _ rfl w.heap.size 1 (ints RA).toArray rfl rfl (by rw[SZ.out];exact TH.out) (by rw[SZ.out];kernel_rfl) (all_oneCell_toArray (ints_one _)) ?_)
  |((with_reducible refine gate_dst (N:=48) rfl ?_);refine wpList_load_mid rfl 135 _ rfl w.heap.size 0 rfl (ints (ch x RA RB)) _ RR.out Tryz.underlying135 rfl (by rw[ints_len,FL.out];kernel_rfl) ?_)
  |((with_reducible refine gate_store (t:=135) (p:=4) rfl ?_);refine wpList_store_mid rfl 135 _ _ rfl (w.heap.size+1) 0 (ints (ch x RA RB)).toArray rfl rfl (by rw[Qt.out];exact Vr.out) (by rw[Qt.out];kernel_rfl) (all_oneCell_toArray (ints_one _)) ?_))
 have h1:=setCells_all (vs:=(ints (ch x RA RB))) U1.out hlen;have h2:=below_setCells UB.out (show w.heap.size≤w.heap.size+1 by omega) (ints (ch x RA RB)) 0;refine bodyPost_ret (results_ct rfl _ _ (w.heap.size+1) 135 (ints (ch x RA RB)).toArray (0,0) _ rfl h1 Tryz.underlying135 rfl (by rw[Qt.out];kernel_rfl)) rfl ⟨by rfl,h2⟩
theorem exec_store_mid{o:Oper}{a:Act}{w:World}(ty:TypeId)(x y:Operand)(ho:o.op= .store ty x y)(b off:Nat)(cells:Array Value)(hx:a.eval x= .pointer (some ⟨b,off,none⟩))(hy:a.eval y= .agg cells)
  (ht:w.there b off cells.size) (hi:(Tryz.prog.info? ty).map (·.size)=some cells.size) (h1:cells.all (·.oneCell')=true):(execOp a.eval o).run Tryz.prog w= .ok .skip (w.setCells b off cells.toList):=by
 unfold execOp;simp only[ho,hx,hy,Instr.storeAt,Instr.sureAddr,Sem.run_bind,Sem.run_pure,Result.andThen_ok,run_storeVar_mid w b off ty cells ht hi h1]
theorem heap_setCells_far{g k:Nat}(hne:k≠g)(vs:List Value):∀(o:Nat) (w:World),(w.setCells g o vs).heap[k]?=w.heap[k]?:=by
 induction vs with
 |nil=>intro o w;rfl
 |cons v r ih=>intro o w;exact(ih (o+1) _).trans (Below.heap_setCell w _ v k hne)
def zero16:List Int:=List.replicate 16 0
theorem zero_ok:COk 0 zero16 zero16:=by
 have h:LOk zero16:=by
  refine⟨rfl,fun j hj=>?_,fun j hj=>?_⟩
  ·have:j=0∨j=1∨j=2∨j=3∨j=4∨j=5∨j=6∨j=7:=by omega
   rcases this with rfl|rfl|rfl|rfl|rfl|rfl|rfl|rfl<;>decide
  ·have:j=0∨j=1∨j=2∨j=3∨j=4∨j=5∨j=6∨j=7:=by omega
   rcases this with rfl|rfl|rfl|rfl|rfl|rfl|rfl|rfl<;>decide
 exact⟨⟨by omega,by omega⟩,h,h⟩
def turnL(one:Int→Int→Int×Int):Int→List Int→List Int→List Int→List Int
 |_,_,_,[]=> []
 |a,A,B,x::r=>(one x (cGuess a A B)).1::turnL one (one x (cGuess a A B)).2 (cA a A (one x (cGuess a A B)).2) (cB a A B (one x (cGuess a A B)).2) r
def turnOk(one:Int→Int→Int×Int):Int→List Int→List Int→List Int→Prop
 |_,_,_,[]=>True
 |a,A,B,x::r=>(-131072≤(one x (cGuess a A B)).2∧(one x (cGuess a A B)).2≤131072)∧(-16777216≤x∧x≤16777216)∧turnOk one (one x (cGuess a A B)).2 (cA a A (one x (cGuess a A B)).2) (cB a A B (one x (cGuess a A B)).2) r
def onePut(x g:Int):Int×Int:=(x - g,x)
def oneGet(r g:Int):Int×Int:=(r+g,r+g)
theorem cGuess_bd{a:Int}{A B:List Int}(h:COk a A B): -2228224≤cGuess a A B∧cGuess a A B≤2228224:=by
 have b1:=lGuess_bd A;have b2:=lGuess_bd B;have b3:=h.1;unfold cGuess;omega
theorem onePut_calls(x g:Int)(w:World)(hx: -16777216≤x∧x≤16777216)(hg: -2228224≤g∧g≤2228224):Calls Tryz.prog 37 #[.int .i64 x,.int .i64 g] w fun e w'=>e= .returned (.tuple #[.int .i64 (x - g),.int .i64 x])∧w'=w:=by
 go_enter Tryz.func37,Tryz.ntmps37
 go_wp2;go_ret2;exact⟨rfl,rfl⟩
theorem oneGet_calls(x g:Int)(w:World)(hx: -16777216≤x∧x≤16777216)(hg: -2228224≤g∧g≤2228224):Calls Tryz.prog 146 #[.int .i64 x,.int .i64 g] w fun e w'=>e= .returned (.tuple #[.int .i64 (x+g),.int .i64 (x+g)])∧w'=w:=by
 go_enter Tryz.func146,Tryz.ntmps146
 go_wp2;go_ret2;exact⟨rfl,rfl⟩
theorem fnum_calls(x:Int)(w:World)(h: -16777216≤x∧x≤16777216):Calls Tryz.prog 72 #[.int .i64 x] w fun e w'=>e= .returned (.bool true)∧∃n,w'=w.drewN n:=by
 refine(fold_Number.calls x true w ?_).mono fun e w' hh=>⟨hh.1,hh.2.out⟩
 unfold fold_Number.f;rw[if_pos h.1,dt_ h.2]
def turnP.T13:Bool×List (List Nat×List Nat):=(true,[([],[]),([],[]),([],[]),([2],[2]),([1,3],[1,3]),([0,4,0],[0]),([4,5,0,1,2,3,4,5],[1,4])])
def turnP.B13:List Nat:= [0,0,0,4,14,31,63]
theorem turnP.tab13:rtab .any (opsOf Tryz.f36 13)=turnP.T13:=by kernel_rfl
theorem turnP.bits13:waitsOk turnP.T13.2 turnP.B13=true:=by kernel_rfl
theorem turnP_calls(A0:Option Addr)(c0:Nat)(l:List Int)(w:World)(hr0:Kd.C (Kd.int .i64) w A0 l.length l)(hl:l.length≤256)(hok:turnOk onePut 0 zero16 zero16 l):
  Calls Tryz.prog 36 #[.slice A0 l.length c0,.func (.func 37) #[] #[]] w fun e w'=>∃eB:Value,e= .returned (.tuple #[eB,.int .i64 0])∧Kd.R (Kd.int .i64) 3 w' w.heap.size (fun _=>True) eB (turnL onePut 0 zero16 zero16 l)∧Below w.heap.size w w':=by
 have uw:=Tryz.underlying135;have hz:∀W,(zeroValue 135).run Tryz.prog W= .ok (.agg (ints (ch 0 zero16 zero16)).toArray) W:=fun _=>by kernel_rfl
 have cO:=Z_ hr0;have ZOK:=Z_ zero_ok;have HOK:=Z_ hok;have ZLEN:Hid ((ints (ch 0 zero16 zero16)).length=33):=by show _=_;rw[ints_len,ch_len zero_ok]
 generalize zero16=Z at hz ZOK HOK ZLEN ⊢;obtain⟨res,hres⟩:∃r,turnL onePut 0 Z Z l=r:=⟨_,rfl⟩;have RES:Hid (([]:List Int)++turnL onePut 0 Z Z (l.drop 0)=res):=hres;rw[hres];clear hres;have YA:Aside0 ((w.alloc (.cells (ints (ch 0 Z Z)).toArray 135)).heap[w.heap.size]?=some (.cells (ints (ch 0 Z Z)).toArray 135 (0,0))):=⟨blk_new w _⟩;have YW:Aside0 (Below w.heap.size w (w.alloc (.cells (ints (ch 0 Z Z)).toArray 135))):=⟨below_alloc (Below.refl _ _) _⟩;have HV:Aside0 (Kd.R (Kd.int .i64) 3 (w.alloc (.cells (ints (ch 0 Z Z)).toArray 135)) w.heap.size (fun k_=>k_≠w.heap.size) (.slice none 0 0) []):=⟨Kd.R_nil _ _ _ _ _⟩;have hl':¬(256:Int)<l.length:=by omega
 clear hr0 hok;have HZ:=Lib.hid hz
 go_enter Tryz.func36,Tryz.ntmps36
 go_wp2;generalize w.alloc (.cells (ints (ch 0 Z Z)).toArray 135)=W at YA YW HV ⊢
 go_loopg [7,21] l.length (fun d v7 v21 wr=>∃(i:Nat) (a:Int) (A B ys:List Int),v21= .int .i64 i∧i+d=l.length∧Aside0 (COk a A B)∧Aside0 (turnOk onePut a A B (l.drop i))∧Aside0 (ys++turnL onePut a A B (l.drop i)=res)∧Aside0 (ys.length=i)∧Aside0 (wr.heap[w.heap.size]?=some (.cells (ints (ch a A B)).toArray 135 (0,0)))∧Aside0 (Kd.R (Kd.int .i64) 3 wr w.heap.size (fun k_=>k_≠w.heap.size) v7 ys)∧Aside0 (Below w.heap.size w wr))
 case atStart=>exact⟨0,0,Z,Z,[],rfl,by omega,ZOK,HOK,⟨RES.out⟩,⟨rfl⟩,YA,HV,YW⟩
 case round=>
  clear YA YW HV ZOK HOK RES;obtain⟨i,a,A,B,ys,rfl,hi,HM,HOK,RES,YL,YA,HV,YW⟩:=hrel
  cases gk with
  |zero=>
   obtain rfl:i=l.length:=by omega
   have e:ys=res:=by
    have:=RES.out;rw[List.drop_length] at this
    simpa [turnL] using this
   go_wp2;go_ret2;exact⟨_,rfl,Kd.R_mono (e▸HV.out) (fun _ _=>trivial),YW.out⟩
  |succ d=>
   have hlt:i<l.length:=by omega
   have hlt':(i:Int)<l.length:=by omega
   have hi0:(0:Int)≤i:=by omega
   obtain⟨ad,e_,hx_⟩:=Kd.at_int (Kd.C_below cO.out YW.out) (i:Int) hi0 hlt'
   cases e_
   have hrd:rd l (i:Int)=l[i]:=by
    unfold rd;rw[nC_,gD_,gE_ hlt];rfl
   rw[hrd,nC_] at hx_;have HD:l.drop i=l[i]::l.drop (i+1):=List.drop_eq_getElem_cons hlt;rw[HD] at HOK RES;obtain⟨x,hx⟩:∃x,l[i]=x:=⟨_,rfl⟩;rw[hx] at HOK RES hx_;clear hrd HD hx;have HOK:=HOK.out;have RES:=RES.out;unfold turnOk at HOK;unfold turnL at RES;obtain⟨hs,hxb,HOK⟩:=HOK;have hgb:=cGuess_bd HM.out;obtain⟨g,hg_⟩:∃g,cGuess a A B=g:=⟨_,rfl⟩;rw[hg_] at hs HOK RES hgb;have HG:=Lib.hid hg_;clear hg_;simp only[onePut] at hs HOK RES
   go_wp2_with ((with_reducible refine gate_dst (N:=26) rfl ?_);refine wpList_load_mid rfl 135 _ rfl w.heap.size 0 rfl (ints (ch a A B)) _ (range_all YA.out) Tryz.underlying135 rfl (by rw[ints_len,ch_len HM.out];kernel_rfl) ?_)
   refine(chainGuess_calls a A B _ HM.out).mono ?_;rintro e w1 ⟨rfl,hb⟩;rw[HG.out];have n0:=Z_ (blk_below YA.out hb);have n8:=Z_ (Kd.R_below HV.out hb);have n9:=Z_ (below_step YW.out hb);clear YA HV YW hb;have YA:=n0;have HV:=n8;have YW:=n9;clear n0 n8 n9
   go_wp2_with fail
   refine(onePut_calls x g _ hxb hgb).mono ?_;rintro e w2 ⟨rfl,rfl⟩
   go_wp2_with ((with_reducible refine gate_dst (N:=38) rfl ?_);refine wpList_load_mid rfl 135 _ rfl w.heap.size 0 rfl (ints (ch a A B)) _ (range_all YA.out) Tryz.underlying135 rfl (by rw[ints_len,ch_len HM.out];kernel_rfl) ?_)
   refine(chainLearn_calls a A B x _ HM.out hs).mono ?_;rintro e w3 ⟨rfl,hb⟩;have n0:=Z_ (blk_below YA.out hb);have n8:=Z_ (Kd.R_below HV.out hb);have n9:=Z_ (below_step YW.out hb);clear YA HV YW hb;have YA:=n0;have HV:=n8;have YW:=n9;clear n0 n8 n9;have HN:=Z_ (cLearn_ok HM.out hs);have HOK:=Z_ HOK;have RES:=Z_ RES;have hz:=HZ.out;have gp:Aside0 ((w3.alloc (.cells (ints (ch 0 Z Z)).toArray 135)).heap[w3.heap.size]?=some (.cells (ints (ch 0 Z Z)).toArray 135 (0,0))):=⟨blk_new w3 _⟩;have ZL:Hid ((ints (ch 0 Z Z)).length=33):=ZLEN.out;have TH:=Lib.hid (there_blk gp.out 0 33 (by rw[ZL.out];omega));have SZ:Hid ((ints (ch x (cA a A x) (cB a A B x))).toArray.size=33):=by show(ints (ch x (cA a A x) (cB a A B x))).toArray.size=33;rw[List.size_toArray,ints_len,ch_len HN.out]
   go_wp2_with ((with_reducible refine gate_store (t:=135) (p:=14) rfl ?_);refine wpList_store_mid rfl 135 _ _ rfl w3.heap.size 0 (ints (ch x (cA a A x) (cB a A B x))).toArray rfl rfl (by rw[SZ.out];exact TH.out) (by rw[SZ.out];kernel_rfl) (all_oneCell_toArray (ints_one _)) ?_)
   have hne:w.heap.size<w3.heap.size:=blk_lt YA.out;have n0:=Z_ (setCells_far (g:=w3.heap.size) (k:=w.heap.size) (by omega) (ints (ch x (cA a A x) (cB a A B x))) _ 0 (blk_alloc YA.out (.cells (ints (ch 0 Z Z)).toArray 135)));have n1:=Z_ (setCells_all (vs:=ints (ch x (cA a A x) (cB a A B x))) gp.out (by rw[ZL.out,ints_len,ch_len HN.out]));have n2:=Z_ (Kd.R_step (Kd.R_alloc (Kd.R_elderB HV.out w3.heap.size (Nat.le_refl _)) (.cells (ints (ch 0 Z Z)).toArray 135)) (w1:=(w3.alloc (.cells (ints (ch 0 Z Z)).toArray 135)).setCells w3.heap.size 0 (ints (ch x (cA a A x) (cB a A B x)))) (fun k hk _=>heap_setCells_far hk.2 _ _ _));have n3:=Z_ (below_setCells (below_alloc YW.out (.cells (ints (ch 0 Z Z)).toArray 135)) (Nat.le_of_lt hne) (ints (ch x (cA a A x) (cB a A B x))) 0);clear YA gp HV YW TH;have YA:=n0;have gp:=n1;have HV:=n2;have YW:=n3;clear n0 n1 n2 n3;have GL:Hid (w3.heap.size≠w.heap.size):=by show w3.heap.size≠w.heap.size;omega
   clear hz;show Calls _ _ _ (World.setCells _ _ _ (ints (ch x (cA a A x) (cB a A B x)))) _;generalize World.setCells _ _ _ (ints (ch x (cA a A x) (cB a A B x)))=w4 at YA gp HV YW ⊢;generalize w3.heap.size=g14 at YA gp HV YW GL hne ⊢;refine(fnum_calls x _ hxb).mono ?_;rintro e w5 ⟨rfl,⟨nd,rfl⟩⟩;have n0:=Z_ (blk_drewN YA.out nd);have n1:=Z_ (blk_drewN gp.out nd);have n8:=Z_ (Kd.R_drewN HV.out nd);have n9:=Z_ (pw_below_drewN YW.out nd);clear YA gp HV YW;have YA:=n0;have gp:=n1;have HV:=n8;have YW:=n9;clear n0 n1 n8 n9;go_wp2;replace YA:=Z_ (blk_drew YA.out);replace gp:=Z_ (blk_drew gp.out);replace HV:=Z_ (Kd.R_drew HV.out);replace YW:=Z_ (below_drew1 YW.out);refine start_ (n:=7) (S:=fun w'=>w'.heap[g14]?=some (.cells (ints (ch x (cA a A x) (cB a A B x))).toArray 135 (0,0))) (ds:= []) #[false,false,false,false,false,false,false] (by kernel_rfl) rfl rfl gp.out (fun hHeld=>?_);refine with_tabW turnP.tab13 turnP.bits13 (fun HT_ HW_=>?_);generalize World.drew _=wq at YA gp HV YW hHeld ⊢;refine P_ 1 51 ?_;refine P_ 2 52 ?_;refine take_ (i:=0) (N:=some 50) (v:= .agg (ints (ch x (cA a A x) (cB a A B x))).toArray) (a':=?_) #[true,true,true,false,false,false,false] rfl rfl (take_ofW HT_.out HW_.out (by kernel_rfl)) (fun _ _ _ h=>h) (yieldsIf_load_mid (by rfl) 135 _ rfl g14 0 rfl (ints (ch x (cA a A x) (cB a A B x))) _ (fun w' s0=>range_all s0) Tryz.underlying135 rfl (by rw[ints_len,ch_len HN.out];kernel_rfl)) hHeld ?_ ?_;rotate_left
   ·simp only[Act.put,List.setIfInBounds_toArray,List.set_cons_zero,List.set_cons_succ,i64_w,i32_w];rfl
   refine O_ 3 53 fun K hK=>?_
   refine value_ (w1:=?_) (v:=?_) (by rfl) rfl ?_ ?_;rotate_left 2
   ·go_simp
    constructor
    ·rfl
    ·rfl
   refine hK.out _ _ (blk_alloc gp.out _) (fun hHeld=>?_);clear hK K;refine Nm_ 53 ?_;refine O_ 4 54 fun K hK=>?_
   have l1:=blk_lt YA.out;have l2:=blk_lt gp.out;refine Kd.R_append_step (Kd.int .i64) (w0:=w) w.heap.size (by rfl) (.tmp 51) (.tmp 53) 36 3 (.int .i64 0) 8 rfl Tryz.underlying36 info3 rfl (by decide) (by omega) u7 ys (x - g) [.int .i64 (x - g)] (fun k_=>k_≠w.heap.size∧k_≠g14) (fun _=>False) rfl rfl rfl (fun _ hk=>hk.elim) (fun k_ hk=>⟨by omega,by omega⟩) HV.out YW.out (below_size YW.out) (by have:=YL.out;omega) ?_;intro v8 w9 ho hb hg hat;have n0:=Z_ (blk_grown YA.out hg (fun e_=>(HV.out.1 _ e_.symm).1 rfl));have n3:=Z_ (blk_grown gp.out hg (fun e_=>(HV.out.1 _ e_.symm).2 rfl));have n1:=Z_ ho;have n2:=Z_ hb;clear YA HV YW hb ho hat hg gp;have YA:=n0;have HV:=n1;have YW:=n2;have gp:=n3;clear n0 n1 n2 n3;refine hK.out _ _ gp.out (fun hHeld=>?_);clear hK K;refine Nm_ 54 ?_;refine one_ (i:=5) (N:=none) #[true,true,true,true,true,true,false] rfl rfl (one_of HT_.out (by kernel_rfl)) (by decide) (fun K hK=>?_);have TH:=Lib.hid (there_blk YA.out 0 33 (by rw[ints_len,ch_len HM.out];omega));refine skip_ (w1:=w9.setCells w.heap.size 0 (ints (ch x (cA a A x) (cB a A B x)))) (by rfl) rfl (exec_store_mid 135 _ _ rfl w.heap.size 0 (ints (ch x (cA a A x) (cB a A B x))).toArray rfl rfl (by rw[SZ.out];exact TH.out) (by rw[SZ.out];kernel_rfl) (all_oneCell_toArray (ints_one _))) ?_;have n0:=Z_ (setCells_all (vs:=ints (ch x (cA a A x) (cB a A B x))) YA.out (by rw[ints_len,ints_len,ch_len HM.out,ch_len HN.out]));have n1:=Z_ (Kd.R_step HV.out (w1:=w9.setCells w.heap.size 0 (ints (ch x (cA a A x) (cB a A B x)))) (fun k hk _=>heap_setCells_far hk.1 _ _ _));have n2:=Z_ (below_setCells YW.out (Nat.le_refl _) (ints (ch x (cA a A x) (cB a A B x))) 0);have n3:=Z_ (setCells_far (g:=w.heap.size) (fun e_=>GL.out e_) (ints (ch x (cA a A x) (cB a A B x))) w9 0 gp.out);clear YA HV YW gp;have YA:=n0;have HV:=n1;have YW:=n2;have gp:=n3;clear n0 n1 n2 n3;refine hK.out _ _ gp.out (fun hHeld=>?_);clear hK K;refine P_ 6 7 ?_;refine done_ (done_of HT_.out (by kernel_rfl)) ?_;go_wp2
   go_roundg d
   case measure=>omega
   case rel=>exact⟨i+1,x,cA a A x,cB a A B x,ys++ [(x - g)],by go_num,by omega,HN,HOK,⟨by rw[List.append_assoc];exact RES.out⟩,⟨by rw[List.length_append,YL.out];rfl⟩,YA,⟨Kd.R_mono HV.out (fun _ hk=>hk.1)⟩,YW⟩
def turnG.T13:Bool×List (List Nat×List Nat):=(true,[([],[]),([],[]),([],[]),([2],[2]),([1,3],[1,3]),([0,4,0],[0]),([4,5,0,1,2,3,4,5],[1,4])])
def turnG.B13:List Nat:= [0,0,0,4,14,31,63]
theorem turnG.tab13:rtab .any (opsOf Tryz.f36 13)=turnG.T13:=by kernel_rfl
theorem turnG.bits13:waitsOk turnG.T13.2 turnG.B13=true:=by kernel_rfl
theorem turnG_calls(A0:Option Addr)(c0:Nat)(l:List Int)(w:World)(hr0:Kd.C (Kd.int .i64) w A0 l.length l)(hl:l.length≤256)(hok:turnOk oneGet 0 zero16 zero16 l):
  Calls Tryz.prog 36 #[.slice A0 l.length c0,.func (.func 146) #[] #[]] w fun e w'=>∃eB:Value,e= .returned (.tuple #[eB,.int .i64 0])∧Kd.R (Kd.int .i64) 3 w' w.heap.size (fun _=>True) eB (turnL oneGet 0 zero16 zero16 l)∧Below w.heap.size w w':=by
 have uw:=Tryz.underlying135;have hz:∀W,(zeroValue 135).run Tryz.prog W= .ok (.agg (ints (ch 0 zero16 zero16)).toArray) W:=fun _=>by kernel_rfl
 have cO:=Z_ hr0;have ZOK:=Z_ zero_ok;have HOK:=Z_ hok;have ZLEN:Hid ((ints (ch 0 zero16 zero16)).length=33):=by show _=_;rw[ints_len,ch_len zero_ok]
 generalize zero16=Z at hz ZOK HOK ZLEN ⊢;obtain⟨res,hres⟩:∃r,turnL oneGet 0 Z Z l=r:=⟨_,rfl⟩;have RES:Hid (([]:List Int)++turnL oneGet 0 Z Z (l.drop 0)=res):=hres;rw[hres];clear hres;have YA:Aside0 ((w.alloc (.cells (ints (ch 0 Z Z)).toArray 135)).heap[w.heap.size]?=some (.cells (ints (ch 0 Z Z)).toArray 135 (0,0))):=⟨blk_new w _⟩;have YW:Aside0 (Below w.heap.size w (w.alloc (.cells (ints (ch 0 Z Z)).toArray 135))):=⟨below_alloc (Below.refl _ _) _⟩;have HV:Aside0 (Kd.R (Kd.int .i64) 3 (w.alloc (.cells (ints (ch 0 Z Z)).toArray 135)) w.heap.size (fun k_=>k_≠w.heap.size) (.slice none 0 0) []):=⟨Kd.R_nil _ _ _ _ _⟩;have hl':¬(256:Int)<l.length:=by omega
 clear hr0 hok;have HZ:=Lib.hid hz
 go_enter Tryz.func36,Tryz.ntmps36
 go_wp2;generalize w.alloc (.cells (ints (ch 0 Z Z)).toArray 135)=W at YA YW HV ⊢
 go_loopg [7,21] l.length (fun d v7 v21 wr=>∃(i:Nat) (a:Int) (A B ys:List Int),v21= .int .i64 i∧i+d=l.length∧Aside0 (COk a A B)∧Aside0 (turnOk oneGet a A B (l.drop i))∧Aside0 (ys++turnL oneGet a A B (l.drop i)=res)∧Aside0 (ys.length=i)∧Aside0 (wr.heap[w.heap.size]?=some (.cells (ints (ch a A B)).toArray 135 (0,0)))∧Aside0 (Kd.R (Kd.int .i64) 3 wr w.heap.size (fun k_=>k_≠w.heap.size) v7 ys)∧Aside0 (Below w.heap.size w wr))
 case atStart=>exact⟨0,0,Z,Z,[],rfl,by omega,ZOK,HOK,⟨RES.out⟩,⟨rfl⟩,YA,HV,YW⟩
 case round=>
  clear YA YW HV ZOK HOK RES;obtain⟨i,a,A,B,ys,rfl,hi,HM,HOK,RES,YL,YA,HV,YW⟩:=hrel
  cases gk with
  |zero=>
   obtain rfl:i=l.length:=by omega
   have e:ys=res:=by
    have:=RES.out;rw[List.drop_length] at this
    simpa [turnL] using this
   go_wp2;go_ret2;exact⟨_,rfl,Kd.R_mono (e▸HV.out) (fun _ _=>trivial),YW.out⟩
  |succ d=>
   have hlt:i<l.length:=by omega
   have hlt':(i:Int)<l.length:=by omega
   have hi0:(0:Int)≤i:=by omega
   obtain⟨ad,e_,hx_⟩:=Kd.at_int (Kd.C_below cO.out YW.out) (i:Int) hi0 hlt'
   cases e_
   have hrd:rd l (i:Int)=l[i]:=by
    unfold rd;rw[nC_,gD_,gE_ hlt];rfl
   rw[hrd,nC_] at hx_;have HD:l.drop i=l[i]::l.drop (i+1):=List.drop_eq_getElem_cons hlt;rw[HD] at HOK RES;obtain⟨x,hx⟩:∃x,l[i]=x:=⟨_,rfl⟩;rw[hx] at HOK RES hx_;clear hrd HD hx;have HOK:=HOK.out;have RES:=RES.out;unfold turnOk at HOK;unfold turnL at RES;obtain⟨hs,hxb,HOK⟩:=HOK;have hgb:=cGuess_bd HM.out;obtain⟨g,hg_⟩:∃g,cGuess a A B=g:=⟨_,rfl⟩;rw[hg_] at hs HOK RES hgb;have HG:=Lib.hid hg_;clear hg_;simp only[oneGet] at hs HOK RES
   go_wp2_with ((with_reducible refine gate_dst (N:=26) rfl ?_);refine wpList_load_mid rfl 135 _ rfl w.heap.size 0 rfl (ints (ch a A B)) _ (range_all YA.out) Tryz.underlying135 rfl (by rw[ints_len,ch_len HM.out];kernel_rfl) ?_)
   refine(chainGuess_calls a A B _ HM.out).mono ?_;rintro e w1 ⟨rfl,hb⟩;rw[HG.out];have n0:=Z_ (blk_below YA.out hb);have n8:=Z_ (Kd.R_below HV.out hb);have n9:=Z_ (below_step YW.out hb);clear YA HV YW hb;have YA:=n0;have HV:=n8;have YW:=n9;clear n0 n8 n9
   go_wp2_with fail
   refine(oneGet_calls x g _ hxb hgb).mono ?_;rintro e w2 ⟨rfl,rfl⟩
   go_wp2_with ((with_reducible refine gate_dst (N:=38) rfl ?_);refine wpList_load_mid rfl 135 _ rfl w.heap.size 0 rfl (ints (ch a A B)) _ (range_all YA.out) Tryz.underlying135 rfl (by rw[ints_len,ch_len HM.out];kernel_rfl) ?_)
   refine(chainLearn_calls a A B (x+g) _ HM.out hs).mono ?_;rintro e w3 ⟨rfl,hb⟩;have n0:=Z_ (blk_below YA.out hb);have n8:=Z_ (Kd.R_below HV.out hb);have n9:=Z_ (below_step YW.out hb);clear YA HV YW hb;have YA:=n0;have HV:=n8;have YW:=n9;clear n0 n8 n9;have HN:=Z_ (cLearn_ok HM.out hs);have HOK:=Z_ HOK;have RES:=Z_ RES;have hz:=HZ.out;have gp:Aside0 ((w3.alloc (.cells (ints (ch 0 Z Z)).toArray 135)).heap[w3.heap.size]?=some (.cells (ints (ch 0 Z Z)).toArray 135 (0,0))):=⟨blk_new w3 _⟩;have ZL:Hid ((ints (ch 0 Z Z)).length=33):=ZLEN.out;have TH:=Lib.hid (there_blk gp.out 0 33 (by rw[ZL.out];omega));have SZ:Hid ((ints (ch (x+g) (cA a A (x+g)) (cB a A B (x+g)))).toArray.size=33):=by show(ints (ch (x+g) (cA a A (x+g)) (cB a A B (x+g)))).toArray.size=33;rw[List.size_toArray,ints_len,ch_len HN.out]
   go_wp2_with ((with_reducible refine gate_store (t:=135) (p:=14) rfl ?_);refine wpList_store_mid rfl 135 _ _ rfl w3.heap.size 0 (ints (ch (x+g) (cA a A (x+g)) (cB a A B (x+g)))).toArray rfl rfl (by rw[SZ.out];exact TH.out) (by rw[SZ.out];kernel_rfl) (all_oneCell_toArray (ints_one _)) ?_)
   have hne:w.heap.size<w3.heap.size:=blk_lt YA.out;have n0:=Z_ (setCells_far (g:=w3.heap.size) (k:=w.heap.size) (by omega) (ints (ch (x+g) (cA a A (x+g)) (cB a A B (x+g)))) _ 0 (blk_alloc YA.out (.cells (ints (ch 0 Z Z)).toArray 135)));have n1:=Z_ (setCells_all (vs:=ints (ch (x+g) (cA a A (x+g)) (cB a A B (x+g)))) gp.out (by rw[ZL.out,ints_len,ch_len HN.out]));have n2:=Z_ (Kd.R_step (Kd.R_alloc (Kd.R_elderB HV.out w3.heap.size (Nat.le_refl _)) (.cells (ints (ch 0 Z Z)).toArray 135)) (w1:=(w3.alloc (.cells (ints (ch 0 Z Z)).toArray 135)).setCells w3.heap.size 0 (ints (ch (x+g) (cA a A (x+g)) (cB a A B (x+g))))) (fun k hk _=>heap_setCells_far hk.2 _ _ _));have n3:=Z_ (below_setCells (below_alloc YW.out (.cells (ints (ch 0 Z Z)).toArray 135)) (Nat.le_of_lt hne) (ints (ch (x+g) (cA a A (x+g)) (cB a A B (x+g)))) 0);clear YA gp HV YW TH;have YA:=n0;have gp:=n1;have HV:=n2;have YW:=n3;clear n0 n1 n2 n3;have GL:Hid (w3.heap.size≠w.heap.size):=by show w3.heap.size≠w.heap.size;omega
   clear hz;show Calls _ _ _ (World.setCells _ _ _ (ints (ch (x+g) (cA a A (x+g)) (cB a A B (x+g))))) _;generalize World.setCells _ _ _ (ints (ch (x+g) (cA a A (x+g)) (cB a A B (x+g))))=w4 at YA gp HV YW ⊢;generalize w3.heap.size=g14 at YA gp HV YW GL hne ⊢;refine(fnum_calls x _ hxb).mono ?_;rintro e w5 ⟨rfl,⟨nd,rfl⟩⟩;have n0:=Z_ (blk_drewN YA.out nd);have n1:=Z_ (blk_drewN gp.out nd);have n8:=Z_ (Kd.R_drewN HV.out nd);have n9:=Z_ (pw_below_drewN YW.out nd);clear YA gp HV YW;have YA:=n0;have gp:=n1;have HV:=n8;have YW:=n9;clear n0 n1 n8 n9;go_wp2;replace YA:=Z_ (blk_drew YA.out);replace gp:=Z_ (blk_drew gp.out);replace HV:=Z_ (Kd.R_drew HV.out);replace YW:=Z_ (below_drew1 YW.out);refine start_ (n:=7) (S:=fun w'=>w'.heap[g14]?=some (.cells (ints (ch (x+g) (cA a A (x+g)) (cB a A B (x+g)))).toArray 135 (0,0))) (ds:= []) #[false,false,false,false,false,false,false] (by kernel_rfl) rfl rfl gp.out (fun hHeld=>?_);refine with_tabW turnG.tab13 turnG.bits13 (fun HT_ HW_=>?_);generalize World.drew _=wq at YA gp HV YW hHeld ⊢;refine P_ 1 51 ?_;refine P_ 2 52 ?_;refine take_ (i:=0) (N:=some 50) (v:= .agg (ints (ch (x+g) (cA a A (x+g)) (cB a A B (x+g)))).toArray) (a':=?_) #[true,true,true,false,false,false,false] rfl rfl (take_ofW HT_.out HW_.out (by kernel_rfl)) (fun _ _ _ h=>h) (yieldsIf_load_mid (by rfl) 135 _ rfl g14 0 rfl (ints (ch (x+g) (cA a A (x+g)) (cB a A B (x+g)))) _ (fun w' s0=>range_all s0) Tryz.underlying135 rfl (by rw[ints_len,ch_len HN.out];kernel_rfl)) hHeld ?_ ?_;rotate_left
   ·simp only[Act.put,List.setIfInBounds_toArray,List.set_cons_zero,List.set_cons_succ,i64_w,i32_w];rfl
   refine O_ 3 53 fun K hK=>?_
   refine value_ (w1:=?_) (v:=?_) (by rfl) rfl ?_ ?_;rotate_left 2
   ·go_simp
    constructor
    ·rfl
    ·rfl
   refine hK.out _ _ (blk_alloc gp.out _) (fun hHeld=>?_);clear hK K;refine Nm_ 53 ?_;refine O_ 4 54 fun K hK=>?_
   have l1:=blk_lt YA.out;have l2:=blk_lt gp.out;refine Kd.R_append_step (Kd.int .i64) (w0:=w) w.heap.size (by rfl) (.tmp 51) (.tmp 53) 36 3 (.int .i64 0) 8 rfl Tryz.underlying36 info3 rfl (by decide) (by omega) u7 ys (x+g) [.int .i64 (x+g)] (fun k_=>k_≠w.heap.size∧k_≠g14) (fun _=>False) rfl rfl rfl (fun _ hk=>hk.elim) (fun k_ hk=>⟨by omega,by omega⟩) HV.out YW.out (below_size YW.out) (by have:=YL.out;omega) ?_;intro v8 w9 ho hb hg hat;have n0:=Z_ (blk_grown YA.out hg (fun e_=>(HV.out.1 _ e_.symm).1 rfl));have n3:=Z_ (blk_grown gp.out hg (fun e_=>(HV.out.1 _ e_.symm).2 rfl));have n1:=Z_ ho;have n2:=Z_ hb;clear YA HV YW hb ho hat hg gp;have YA:=n0;have HV:=n1;have YW:=n2;have gp:=n3;clear n0 n1 n2 n3;refine hK.out _ _ gp.out (fun hHeld=>?_);clear hK K;refine Nm_ 54 ?_;refine one_ (i:=5) (N:=none) #[true,true,true,true,true,true,false] rfl rfl (one_of HT_.out (by kernel_rfl)) (by decide) (fun K hK=>?_);have TH:=Lib.hid (there_blk YA.out 0 33 (by rw[ints_len,ch_len HM.out];omega));refine skip_ (w1:=w9.setCells w.heap.size 0 (ints (ch (x+g) (cA a A (x+g)) (cB a A B (x+g))))) (by rfl) rfl (exec_store_mid 135 _ _ rfl w.heap.size 0 (ints (ch (x+g) (cA a A (x+g)) (cB a A B (x+g)))).toArray rfl rfl (by rw[SZ.out];exact TH.out) (by rw[SZ.out];kernel_rfl) (all_oneCell_toArray (ints_one _))) ?_;have n0:=Z_ (setCells_all (vs:=ints (ch (x+g) (cA a A (x+g)) (cB a A B (x+g)))) YA.out (by rw[ints_len,ints_len,ch_len HM.out,ch_len HN.out]));have n1:=Z_ (Kd.R_step HV.out (w1:=w9.setCells w.heap.size 0 (ints (ch (x+g) (cA a A (x+g)) (cB a A B (x+g))))) (fun k hk _=>heap_setCells_far hk.1 _ _ _));have n2:=Z_ (below_setCells YW.out (Nat.le_refl _) (ints (ch (x+g) (cA a A (x+g)) (cB a A B (x+g)))) 0);have n3:=Z_ (setCells_far (g:=w.heap.size) (fun e_=>GL.out e_) (ints (ch (x+g) (cA a A (x+g)) (cB a A B (x+g)))) w9 0 gp.out);clear YA HV YW gp;have YA:=n0;have HV:=n1;have YW:=n2;have gp:=n3;clear n0 n1 n2 n3;refine hK.out _ _ gp.out (fun hHeld=>?_);clear hK K;refine P_ 6 7 ?_;refine done_ (done_of HT_.out (by kernel_rfl)) ?_;go_wp2
   go_roundg d
   case measure=>omega
   case rel=>exact⟨i+1,(x+g),cA a A (x+g),cB a A B (x+g),ys++ [(x+g)],by go_num,by omega,HN,HOK,⟨by rw[List.append_assoc];exact RES.out⟩,⟨by rw[List.length_append,YL.out];rfl⟩,YA,⟨Kd.R_mono HV.out (fun _ hk=>hk.1)⟩,YW⟩
theorem linePut_calls(A0:Option Addr)(c0:Nat)(l:List Int)(w:World)(hr0:Kd.C (Kd.int .i64) w A0 l.length l)(hl:l.length≤256)(hok:turnOk onePut 0 zero16 zero16 l):
  Calls Tryz.prog 16 #[.slice A0 l.length c0] w fun e w'=>∃eB:Value,e= .returned (.tuple #[eB,.int .i64 0])∧Kd.R (Kd.int .i64) 3 w' w.heap.size (fun _=>True) eB (turnL onePut 0 zero16 zero16 l)∧Below w.heap.size w w':=by
 have C:=Lib.hid (turnP_calls A0 c0 l w hr0 hl hok);clear hr0 hok
 go_enter Tryz.func16,Tryz.ntmps16
 go_wp2_with fail
 refine C.out.mono ?_;rintro e w1 ⟨v0,rfl,hR,hB⟩;have hR:=Lib.hid hR;have hB:=Lib.hid hB;go_wp2;go_ret2;exact⟨_,rfl,hR.out,hB.out⟩
theorem lineGet_calls(A0:Option Addr)(c0:Nat)(l:List Int)(w:World)(hr0:Kd.C (Kd.int .i64) w A0 l.length l)(hl:l.length≤256)(hok:turnOk oneGet 0 zero16 zero16 l):
  Calls Tryz.prog 121 #[.slice A0 l.length c0] w fun e w'=>∃eB:Value,e= .returned (.tuple #[eB,.int .i64 0])∧Kd.R (Kd.int .i64) 3 w' w.heap.size (fun _=>True) eB (turnL oneGet 0 zero16 zero16 l)∧Below w.heap.size w w':=by
 have C:=Lib.hid (turnG_calls A0 c0 l w hr0 hl hok);clear hr0 hok
 go_enter Tryz.func121,Tryz.ntmps121
 go_wp2_with fail
 refine C.out.mono ?_;rintro e w1 ⟨v0,rfl,hR,hB⟩;have hR:=Lib.hid hR;have hB:=Lib.hid hB;go_wp2;go_ret2;exact⟨_,rfl,hR.out,hB.out⟩
def csB(x:Int):Bool:=decide (-131072≤x∧x≤131072)
theorem csB_f(x:Int):chain_Sample.f x=some (csB x):=by
 unfold chain_Sample.f csB
 by_cases h:x≥ -131072
 ·rw[if_pos h]
  by_cases h2:x≤131072
  ·rw[dt_ h2,dt_ ⟨h,h2⟩]
  ·rw[df_ h2,df_ (fun e=>h2 e.2)]
 ·rw[if_neg h,df_ (fun e=>h e.1)]
theorem csB_calls(x:Int)(w:World):Calls Tryz.prog 103 #[.int .i64 x] w fun e w'=>e= .returned (.bool (csB x))∧∃n,w'=w.drewN n:=
 (chain_Sample.calls x _ w (csB_f x)).mono fun e w' hh=>⟨hh.1,hh.2.out⟩
def ctxOdd(x:Int):Bool:=x !=0 && x !=1
def smOdd(x:Int):Bool:=!(csB x)
def nz(x:Int):Bool:=x !=0
theorem any_no{p:Int→Bool}{l:List Int}(h:∀j,j<l.length→p (l.getD j 0)=false):l.any p=false:=by
 rw[List.any_eq_false];intro x hx;obtain⟨j,hj,rfl⟩:=List.getElem_of_mem hx;have:=h j hj;rw[gD_,gE_ hj] at this
 simpa using this
theorem any_yes{p:Int→Bool}{l:List Int}{i:Nat}(hi:i<l.length)(h:p (l.getD i 0)=true):l.any p=true:=by
 rw[List.any_eq_true];refine⟨l[i],List.getElem_mem hi,?_⟩;rw[gD_,gE_ hi] at h;exact h
theorem ctxOdd_calls(x:Int)(w:World):Calls Tryz.prog 148 #[.int .i64 x] w fun e w'=>e= .returned (.bool (ctxOdd x))∧∃n,w'=w.drewN n:=by
 by_cases h:x=0
 ·subst h
  go_enter Tryz.func148,Tryz.ntmps148
  go_wp2;go_ret;exact⟨rfl,0,rfl⟩
 ·have h1:(x !=0)=true:=bne_iff_ne.mpr h;have h2:(x==0)=false:=beq_eq_false_iff_ne.mpr h;have R:Hid (ctxOdd x=(x !=1)):=by show ctxOdd x=_;unfold ctxOdd;rw[h1];rfl
  go_enter Tryz.func148,Tryz.ntmps148
  go_wp2;go_ret;exact⟨by rw[R.out];rfl,0,rfl⟩
theorem smOdd_calls(x:Int)(w:World):Calls Tryz.prog 142 #[.int .i64 x] w fun e w'=>e= .returned (.bool (smOdd x))∧∃n,w'=w.drewN n:=by
 go_enter Tryz.func142,Tryz.ntmps142
 go_wp2_with (go_at_call 103;refine(csB_calls x _).mono ?_;rintro e w2 ⟨rfl,⟨n,rfl⟩⟩)
 go_ret;exact⟨rfl,_,rfl⟩
theorem sideOdd_calls(x:Int)(w:World):Calls Tryz.prog 100 #[.int .i64 x] w fun e w'=>e= .returned (.bool (smOdd x))∧∃n,w'=w.drewN n:=by
 go_enter Tryz.func100,Tryz.ntmps100
 go_wp2_with (go_at_call 103;refine(csB_calls x _).mono ?_;rintro e w2 ⟨rfl,⟨n,rfl⟩⟩)
 go_ret;exact⟨rfl,_,rfl⟩
theorem nz_calls(x:Int)(w:World):Calls Tryz.prog 114 #[.int .i64 x] w fun e w'=>e= .returned (.bool (nz x))∧∃n,w'=w.drewN n:=by
 go_enter Tryz.func114,Tryz.ntmps114
 go_wp2;go_ret;exact⟨rfl,0,rfl⟩
theorem ctxIdx_calls(A0:Option Addr)(c0:Nat)(l:List Int)(w:World)(hr0:Kd.C (Kd.int .i64) w A0 l.length l)(hl:l.length≤9223372036854775807):
  Calls Tryz.prog 125 #[.slice A0 l.length c0,.func (.func 148) #[] #[]] w fun e w'=>∃r:Int,e= .returned (.int .i64 r)∧decide (0≤r)=l.any ctxOdd∧∃n,w'=w.drewN n:=by
 have cO:=Z_ hr0;clear hr0
 go_enter Tryz.func125,Tryz.ntmps125
 go_wp2
 go_loopg [8] l.length (fun d v8 wr=>∃i:Nat,v8= .int .i64 i∧i+d=l.length∧Aside0 (∀j,j<i→ctxOdd (l.getD j 0)=false)∧Drawn0 w wr)
 case atStart=>exact⟨0,rfl,by omega,⟨fun j hj=>absurd hj (by omega)⟩,Drawn0.refl _⟩
 case round=>
  obtain⟨i,rfl,hi,HP,⟨⟨n1,rfl⟩⟩⟩:=hrel
  cases gk with
  |zero=>
   obtain rfl:i=l.length:=by omega
   have e1:=any_no HP.out;go_wp2;go_ret;exact⟨-1,rfl,by rw[e1];rfl,_,rfl⟩
  |succ d=>
   have hlt:i<l.length:=by omega
   have hlt':(i:Int)<l.length:=by omega
   have hi0:(0:Int)≤i:=by omega
   obtain⟨ad,e_,hx_⟩:=Kd.at_int cO.out (i:Int) hi0 hlt'
   cases e_
   have hrd:rd l (i:Int)=l.getD i 0:=by
    unfold rd;rw[nC_]
   rw[hrd,nC_] at hx_;obtain⟨x,hx⟩:∃x,l.getD i 0=x:=⟨_,rfl⟩;rw[hx] at hx_;have HX:=Lib.hid hx;clear hrd hx
   go_wp2_with fail
   refine(ctxOdd_calls x _).mono ?_;rintro e w2 ⟨rfl,⟨n2,rfl⟩⟩
   by_cases hp:ctxOdd x=true
   ·have e1:l.any ctxOdd=true:=any_yes hlt (by rw[HX.out];exact hp);rw[hp];go_wp2;go_ret;exact⟨i,rfl,by rw[e1];exact dt_ hi0,_,rfl⟩
   ·replace hp:ctxOdd x=false:=Bool.eq_false_iff.mpr hp
    have xM:Aside0 (∀j,j<i+1→ctxOdd (l.getD j 0)=false):=⟨fun j hj=>by
     by_cases e:j=i
     ·rw[e,HX.out];exact hp
     ·exact HP.out j (by omega)⟩
    rw[hp];go_wp2
    go_roundg d
    case measure=>omega
    case rel=>exact⟨i+1,by go_num,by omega,xM,⟨⟨_,rfl⟩⟩⟩
theorem ctxAny_calls(A0:Option Addr)(c0:Nat)(l:List Int)(w:World)(hr0:Kd.C (Kd.int .i64) w A0 l.length l)(hl:l.length≤9223372036854775807):
  Calls Tryz.prog 99 #[.slice A0 l.length c0,.func (.func 148) #[] #[]] w fun e w'=>e= .returned (.bool (l.any ctxOdd))∧∃n,w'=w.drewN n:=by
 have C:=Lib.hid (ctxIdx_calls A0 c0 l w hr0 hl);clear hr0
 go_enter Tryz.func99,Tryz.ntmps99
 go_wp2_with fail
 refine C.out.mono ?_;rintro e w1 ⟨r,rfl,hr,n,rfl⟩;have HR:=Lib.hid hr;clear hr;go_wp2;go_ret;exact⟨by rw[←HR.out];rfl,_,rfl⟩
theorem smIdx_calls(A0:Option Addr)(c0:Nat)(l:List Int)(w:World)(hr0:Kd.C (Kd.int .i64) w A0 l.length l)(hl:l.length≤9223372036854775807):
  Calls Tryz.prog 125 #[.slice A0 l.length c0,.func (.func 142) #[] #[]] w fun e w'=>∃r:Int,e= .returned (.int .i64 r)∧decide (0≤r)=l.any smOdd∧∃n,w'=w.drewN n:=by
 have cO:=Z_ hr0;clear hr0
 go_enter Tryz.func125,Tryz.ntmps125
 go_wp2
 go_loopg [8] l.length (fun d v8 wr=>∃i:Nat,v8= .int .i64 i∧i+d=l.length∧Aside0 (∀j,j<i→smOdd (l.getD j 0)=false)∧Drawn0 w wr)
 case atStart=>exact⟨0,rfl,by omega,⟨fun j hj=>absurd hj (by omega)⟩,Drawn0.refl _⟩
 case round=>
  obtain⟨i,rfl,hi,HP,⟨⟨n1,rfl⟩⟩⟩:=hrel
  cases gk with
  |zero=>
   obtain rfl:i=l.length:=by omega
   have e1:=any_no HP.out;go_wp2;go_ret;exact⟨-1,rfl,by rw[e1];rfl,_,rfl⟩
  |succ d=>
   have hlt:i<l.length:=by omega
   have hlt':(i:Int)<l.length:=by omega
   have hi0:(0:Int)≤i:=by omega
   obtain⟨ad,e_,hx_⟩:=Kd.at_int cO.out (i:Int) hi0 hlt'
   cases e_
   have hrd:rd l (i:Int)=l.getD i 0:=by
    unfold rd;rw[nC_]
   rw[hrd,nC_] at hx_;obtain⟨x,hx⟩:∃x,l.getD i 0=x:=⟨_,rfl⟩;rw[hx] at hx_;have HX:=Lib.hid hx;clear hrd hx
   go_wp2_with fail
   refine(smOdd_calls x _).mono ?_;rintro e w2 ⟨rfl,⟨n2,rfl⟩⟩
   by_cases hp:smOdd x=true
   ·have e1:l.any smOdd=true:=any_yes hlt (by rw[HX.out];exact hp);rw[hp];go_wp2;go_ret;exact⟨i,rfl,by rw[e1];exact dt_ hi0,_,rfl⟩
   ·replace hp:smOdd x=false:=Bool.eq_false_iff.mpr hp
    have xM:Aside0 (∀j,j<i+1→smOdd (l.getD j 0)=false):=⟨fun j hj=>by
     by_cases e:j=i
     ·rw[e,HX.out];exact hp
     ·exact HP.out j (by omega)⟩
    rw[hp];go_wp2
    go_roundg d
    case measure=>omega
    case rel=>exact⟨i+1,by go_num,by omega,xM,⟨⟨_,rfl⟩⟩⟩
theorem smAny_calls(A0:Option Addr)(c0:Nat)(l:List Int)(w:World)(hr0:Kd.C (Kd.int .i64) w A0 l.length l)(hl:l.length≤9223372036854775807):
  Calls Tryz.prog 99 #[.slice A0 l.length c0,.func (.func 142) #[] #[]] w fun e w'=>e= .returned (.bool (l.any smOdd))∧∃n,w'=w.drewN n:=by
 have C:=Lib.hid (smIdx_calls A0 c0 l w hr0 hl);clear hr0
 go_enter Tryz.func99,Tryz.ntmps99
 go_wp2_with fail
 refine C.out.mono ?_;rintro e w1 ⟨r,rfl,hr,n,rfl⟩;have HR:=Lib.hid hr;clear hr;go_wp2;go_ret;exact⟨by rw[←HR.out];rfl,_,rfl⟩
theorem sdIdx_calls(A0:Option Addr)(c0:Nat)(l:List Int)(w:World)(hr0:Kd.C (Kd.int .i64) w A0 l.length l)(hl:l.length≤9223372036854775807):
  Calls Tryz.prog 125 #[.slice A0 l.length c0,.func (.func 100) #[] #[]] w fun e w'=>∃r:Int,e= .returned (.int .i64 r)∧decide (0≤r)=l.any smOdd∧∃n,w'=w.drewN n:=by
 have cO:=Z_ hr0;clear hr0
 go_enter Tryz.func125,Tryz.ntmps125
 go_wp2
 go_loopg [8] l.length (fun d v8 wr=>∃i:Nat,v8= .int .i64 i∧i+d=l.length∧Aside0 (∀j,j<i→smOdd (l.getD j 0)=false)∧Drawn0 w wr)
 case atStart=>exact⟨0,rfl,by omega,⟨fun j hj=>absurd hj (by omega)⟩,Drawn0.refl _⟩
 case round=>
  obtain⟨i,rfl,hi,HP,⟨⟨n1,rfl⟩⟩⟩:=hrel
  cases gk with
  |zero=>
   obtain rfl:i=l.length:=by omega
   have e1:=any_no HP.out;go_wp2;go_ret;exact⟨-1,rfl,by rw[e1];rfl,_,rfl⟩
  |succ d=>
   have hlt:i<l.length:=by omega
   have hlt':(i:Int)<l.length:=by omega
   have hi0:(0:Int)≤i:=by omega
   obtain⟨ad,e_,hx_⟩:=Kd.at_int cO.out (i:Int) hi0 hlt'
   cases e_
   have hrd:rd l (i:Int)=l.getD i 0:=by
    unfold rd;rw[nC_]
   rw[hrd,nC_] at hx_;obtain⟨x,hx⟩:∃x,l.getD i 0=x:=⟨_,rfl⟩;rw[hx] at hx_;have HX:=Lib.hid hx;clear hrd hx
   go_wp2_with fail
   refine(sideOdd_calls x _).mono ?_;rintro e w2 ⟨rfl,⟨n2,rfl⟩⟩
   by_cases hp:smOdd x=true
   ·have e1:l.any smOdd=true:=any_yes hlt (by rw[HX.out];exact hp);rw[hp];go_wp2;go_ret;exact⟨i,rfl,by rw[e1];exact dt_ hi0,_,rfl⟩
   ·replace hp:smOdd x=false:=Bool.eq_false_iff.mpr hp
    have xM:Aside0 (∀j,j<i+1→smOdd (l.getD j 0)=false):=⟨fun j hj=>by
     by_cases e:j=i
     ·rw[e,HX.out];exact hp
     ·exact HP.out j (by omega)⟩
    rw[hp];go_wp2
    go_roundg d
    case measure=>omega
    case rel=>exact⟨i+1,by go_num,by omega,xM,⟨⟨_,rfl⟩⟩⟩
theorem sdAny_calls(A0:Option Addr)(c0:Nat)(l:List Int)(w:World)(hr0:Kd.C (Kd.int .i64) w A0 l.length l)(hl:l.length≤9223372036854775807):
  Calls Tryz.prog 99 #[.slice A0 l.length c0,.func (.func 100) #[] #[]] w fun e w'=>e= .returned (.bool (l.any smOdd))∧∃n,w'=w.drewN n:=by
 have C:=Lib.hid (sdIdx_calls A0 c0 l w hr0 hl);clear hr0
 go_enter Tryz.func99,Tryz.ntmps99
 go_wp2_with fail
 refine C.out.mono ?_;rintro e w1 ⟨r,rfl,hr,n,rfl⟩;have HR:=Lib.hid hr;clear hr;go_wp2;go_ret;exact⟨by rw[←HR.out];rfl,_,rfl⟩
theorem nzIdx_calls(A0:Option Addr)(c0:Nat)(l:List Int)(w:World)(hr0:Kd.C (Kd.int .i64) w A0 l.length l)(hl:l.length≤9223372036854775807):
  Calls Tryz.prog 125 #[.slice A0 l.length c0,.func (.func 114) #[] #[]] w fun e w'=>∃r:Int,e= .returned (.int .i64 r)∧decide (0≤r)=l.any nz∧∃n,w'=w.drewN n:=by
 have cO:=Z_ hr0;clear hr0
 go_enter Tryz.func125,Tryz.ntmps125
 go_wp2
 go_loopg [8] l.length (fun d v8 wr=>∃i:Nat,v8= .int .i64 i∧i+d=l.length∧Aside0 (∀j,j<i→nz (l.getD j 0)=false)∧Drawn0 w wr)
 case atStart=>exact⟨0,rfl,by omega,⟨fun j hj=>absurd hj (by omega)⟩,Drawn0.refl _⟩
 case round=>
  obtain⟨i,rfl,hi,HP,⟨⟨n1,rfl⟩⟩⟩:=hrel
  cases gk with
  |zero=>
   obtain rfl:i=l.length:=by omega
   have e1:=any_no HP.out;go_wp2;go_ret;exact⟨-1,rfl,by rw[e1];rfl,_,rfl⟩
  |succ d=>
   have hlt:i<l.length:=by omega
   have hlt':(i:Int)<l.length:=by omega
   have hi0:(0:Int)≤i:=by omega
   obtain⟨ad,e_,hx_⟩:=Kd.at_int cO.out (i:Int) hi0 hlt'
   cases e_
   have hrd:rd l (i:Int)=l.getD i 0:=by
    unfold rd;rw[nC_]
   rw[hrd,nC_] at hx_;obtain⟨x,hx⟩:∃x,l.getD i 0=x:=⟨_,rfl⟩;rw[hx] at hx_;have HX:=Lib.hid hx;clear hrd hx
   go_wp2_with fail
   refine(nz_calls x _).mono ?_;rintro e w2 ⟨rfl,⟨n2,rfl⟩⟩
   by_cases hp:nz x=true
   ·have e1:l.any nz=true:=any_yes hlt (by rw[HX.out];exact hp);rw[hp];go_wp2;go_ret;exact⟨i,rfl,by rw[e1];exact dt_ hi0,_,rfl⟩
   ·replace hp:nz x=false:=Bool.eq_false_iff.mpr hp
    have xM:Aside0 (∀j,j<i+1→nz (l.getD j 0)=false):=⟨fun j hj=>by
     by_cases e:j=i
     ·rw[e,HX.out];exact hp
     ·exact HP.out j (by omega)⟩
    rw[hp];go_wp2
    go_roundg d
    case measure=>omega
    case rel=>exact⟨i+1,by go_num,by omega,xM,⟨⟨_,rfl⟩⟩⟩
theorem nzAny_calls(A0:Option Addr)(c0:Nat)(l:List Int)(w:World)(hr0:Kd.C (Kd.int .i64) w A0 l.length l)(hl:l.length≤9223372036854775807):
  Calls Tryz.prog 99 #[.slice A0 l.length c0,.func (.func 114) #[] #[]] w fun e w'=>e= .returned (.bool (l.any nz))∧∃n,w'=w.drewN n:=by
 have C:=Lib.hid (nzIdx_calls A0 c0 l w hr0 hl);clear hr0
 go_enter Tryz.func99,Tryz.ntmps99
 go_wp2_with fail
 refine C.out.mono ?_;rintro e w1 ⟨r,rfl,hr,n,rfl⟩;have HR:=Lib.hid hr;clear hr;go_wp2;go_ret;exact⟨by rw[←HR.out];rfl,_,rfl⟩
def shift_may.f(l0:List Int)(a1:Int):Option Bool:=some (decide (0≤a1) && decide (a1≤15) && !(l0.any smOdd))
theorem shift_may.calls(A0:Option Addr)(c0:Nat)(l0:List Int)(a1:Int)(r:Bool)(w:World)(hr0:Kd.C (Kd.int .i64) w A0 l0.length l0)(hc0:l0.length≤c0)(h:shift_may.f l0 a1=some r):
  Calls Tryz.prog 116 #[.slice A0 l0.length c0,.int .i64 a1] w fun e w'=>e= .returned (.bool r)∧Drawn0 w w':=by
 have hr:=Option.some.inj h;clear h;have C0:=Lib.hid (smAny_calls A0 c0 l0 w hr0 hr0.2.1);clear hr0
 by_cases h1:0≤a1
 ·by_cases h2:a1≤15
  ·have R:Hid (r=!(l0.any smOdd)):=by show _=_;rw[←hr,dt_ h1,dt_ h2];rfl
   clear hr
   go_enter Tryz.func116,Tryz.ntmps116
   go_wp2_with (go_at_call 99;refine C0.out.mono ?_;rintro e w1 ⟨rfl,⟨n,rfl⟩⟩)
   go_ret;exact⟨by rw[R.out];rfl,⟨⟨_,rfl⟩⟩⟩
  ·have R:Hid (r=false):=by show _=_;rw[←hr,df_ h2];simp
   clear hr;have h2':15<a1:=by omega
   go_enter Tryz.func116,Tryz.ntmps116
   go_wp2;go_ret;exact⟨by rw[R.out];rfl,⟨⟨0,rfl⟩⟩⟩
 ·have R:Hid (r=false):=by show _=_;rw[←hr,df_ h1];simp
  clear hr;have h1':a1<0:=by omega
  go_enter Tryz.func116,Tryz.ntmps116
  go_wp2;go_ret;exact⟨by rw[R.out];rfl,⟨⟨0,rfl⟩⟩⟩
def sideRow(n:Nat)(xs:List Int):Bool:=xs.length==n && !(xs.any smOdd)
def side_May.f(l0:List (List Int)):Option Bool:=some (l0.all (sideRow (l0.getD 0 []).length) && (l0.length==1 || l0.length==2))
theorem all_noL{p:List Int→Bool}{l:List (List Int)}{i:Nat}(hi:i<l.length)(h:p (l.getD i [])=false):l.all p=false:=by
 rw[List.all_eq_false];refine⟨l[i],List.getElem_mem hi,?_⟩;rw[gD_,gE_ hi] at h
 simpa using h
theorem all_yesL{p:List Int→Bool}{l:List (List Int)}(h:∀j,j<l.length→p (l.getD j [])=true):l.all p=true:=by
 rw[List.all_eq_true];intro x hx;obtain⟨j,hj,rfl⟩:=List.getElem_of_mem hx;have:=h j hj;rw[gD_,gE_ hj] at this;exact this
theorem side_May.calls(A0:Option Addr)(c0:Nat)(l0:List (List Int))(r:Bool)(w:World)(hr0:Kd.C (Kd.slice 3 (Kd.int .i64)) w A0 l0.length l0)(hc0:l0.length≤c0)(h:side_May.f l0=some r):
  Calls Tryz.prog 68 #[.slice A0 l0.length c0] w fun e w'=>e= .returned (.bool r)∧Drawn0 w w':=by
 have hr:=Option.some.inj h;clear h;have cO:=Z_ hr0;have HRr:=Lib.hid hr;have hlm:l0.length≤9223372036854775807:=hr0.2.1;clear hr0 hr
 go_enter Tryz.func68,Tryz.ntmps68
 go_wp2
 go_loopg [7] l0.length (fun d v7 wr=>∃i:Nat,v7= .int .i64 i∧i+d=l0.length∧Aside0 (∀j,j<i→sideRow (l0.getD 0 []).length (l0.getD j [])=true)∧Drawn0 w wr)
 case atStart=>exact⟨0,rfl,by omega,⟨fun j hj=>absurd hj (by omega)⟩,Drawn0.refl _⟩
 case round=>
  obtain⟨i,rfl,hi,HP,⟨⟨n1,rfl⟩⟩⟩:=hrel
  cases gk with
  |zero=>
   obtain rfl:i=l0.length:=by omega
   have e1:=all_yesL HP.out;have R:Hid (r=(l0.length==1 || l0.length==2)):=by show _=_;rw[←HRr.out,e1];rfl
   by_cases h1:l0.length=1
   ·have hR:Hid (r=true):=by show _=_;rw[R.out,h1];rfl
    have h1':((l0.length:Int)==1)=true:=beq_iff_eq.mpr (by omega);clear e1 HRr;go_wp2;go_ret;exact⟨by rw[hR.out];rfl,⟨⟨_,rfl⟩⟩⟩
   ·by_cases h2:l0.length=2
    ·have hR:Hid (r=true):=by show _=_;rw[R.out,h2];rfl
     have h1':((l0.length:Int)==1)=false:=beq_eq_false_iff_ne.mpr (by omega);have h2':((l0.length:Int)==2)=true:=beq_iff_eq.mpr (by omega);clear e1 HRr;go_wp2;go_ret;exact⟨by rw[hR.out];rfl,⟨⟨_,rfl⟩⟩⟩
    ·have hR:Hid (r=false):=by show _=_;rw[R.out,beq_eq_false_iff_ne.mpr h1,beq_eq_false_iff_ne.mpr h2];rfl
     have h1':((l0.length:Int)==1)=false:=beq_eq_false_iff_ne.mpr (by omega);have h2':((l0.length:Int)==2)=false:=beq_eq_false_iff_ne.mpr (by omega);clear e1 HRr;go_wp2;go_ret;exact⟨by rw[hR.out];rfl,⟨⟨_,rfl⟩⟩⟩
  |succ d=>
   have hlt:i<l0.length:=by omega
   have hlt':(i:Int)<l0.length:=by omega
   have hi0:(0:Int)≤i:=by omega
   have h00:(0:Int)<l0.length:=by omega
   obtain⟨ad,A1,c1,e_,hx_,hl_,hi_⟩:=at_L1 cO.out (i:Int) hi0 hlt';obtain⟨ad0,A2,c2,Vs,Ad,GM,Dt⟩:=at_L1 cO.out (0:Int) (by omega) h00
   cases e_
   cases Vs
   have r1:rd_L1 l0 (i:Int)=l0.getD i []:=by unfold rd_L1;rw[nC_]
   have r2:rd_L1 l0 (0:Int)=l0.getD 0 []:=rfl;rw[r1] at hx_ hi_ hl_;rw[r2] at Ad Dt GM;rw[nC_] at hx_;obtain⟨xs,hxs⟩:∃x,l0.getD i []=x:=⟨_,rfl⟩;rw[hxs] at hx_ hi_ hl_;have HX:=Lib.hid hxs;have HC:=Lib.hid hi_;have hn:xs.length≤9223372036854775807:=hi_.2.1;have hn0:(l0.getD 0 []).length≤9223372036854775807:=Dt.2.1;clear hxs r1 r2 hi_ Dt;obtain⟨n0,Du⟩:∃x,(l0.getD 0 []).length=x:=⟨_,rfl⟩;rw[Du] at HP Ad GM hn0;replace Ad:w.cell? ad=some (.slice A2 n0 c2):=Ad;have Tf:=Lib.hid Du;clear Du
   by_cases hne:xs.length=n0
   ·have hb1:((xs.length:Int) !=(n0:Int))=false:=bne_eq_false_iff_eq.mpr (by omega);have CC:=Lib.hid (fun m=>(show Calls Tryz.prog 99 #[.slice A1 n0 c1,.func (.func 100) #[] #[]] (w.drewN m) fun e w'=>e= .returned (.bool (xs.any smOdd))∧∃n,w'=(w.drewN m).drewN n from by rw[←hne];exact sdAny_calls A1 c1 xs (w.drewN m) (Kd.C_drewN HC.out m) hn))
    by_cases hp:xs.any smOdd=true
    ·have hR:Hid (r=false):=by
      have:l0.all (sideRow (l0.getD 0 []).length)=false:=all_noL hlt (by rw[HX.out];unfold sideRow;rw[hp];simp);show _=_;rw[←HRr.out,this];rfl
     go_wp2_with (go_at_call 99;refine(CC.out _).mono ?_;rintro e w1 ⟨rfl,⟨n,rfl⟩⟩;rw[hp])
     go_ret;exact⟨by rw[hR.out];rfl,⟨⟨_,rfl⟩⟩⟩
    ·replace hp:xs.any smOdd=false:=Bool.eq_false_iff.mpr hp
     have xM:Aside0 (∀j,j<i+1→sideRow (l0.getD 0 []).length (l0.getD j [])=true):=⟨fun j hj=>by
      rw[Tf.out]
      by_cases e:j=i
      ·rw[e,HX.out];unfold sideRow;rw[hp,hne];simp
      ·exact HP.out j (by omega)⟩
     go_wp2_with (go_at_call 99;refine(CC.out _).mono ?_;rintro e w1 ⟨rfl,⟨n,rfl⟩⟩;rw[hp])
     go_roundg d
     case measure=>omega
     case rel=>exact⟨i+1,by go_num,by omega,xM,⟨⟨_,rfl⟩⟩⟩
   ·have hb1:((xs.length:Int) !=(n0:Int))=true:=bne_iff_ne.mpr (by omega)
    have hR:Hid (r=false):=by
     have:l0.all (sideRow (l0.getD 0 []).length)=false:=all_noL hlt (by rw[HX.out,Tf.out];unfold sideRow;rw[beq_eq_false_iff_ne.mpr hne];rfl);show _=_;rw[←HRr.out,this];rfl
    go_wp2;go_ret;exact⟨by rw[hR.out];rfl,⟨⟨_,rfl⟩⟩⟩
def onesL:List Int→Nat
 | []=>0
 |x::r=>if x=1 then onesL r+1 else 0
def zeroL:List Int→Bool
 | []=>false
 |x::r=>if x=1 then zeroL r else x==0
theorem onesL_one{x:Int}{r:List Int}(h:x=1):onesL (x::r)=onesL r+1:=by rw[onesL,if_pos h]
theorem zeroL_one{x:Int}{r:List Int}(h:x=1):zeroL (x::r)=zeroL r:=by rw[zeroL,if_pos h]
theorem onesL_not{x:Int}{r:List Int}(h:¬x=1):onesL (x::r)=0:=by rw[onesL,if_neg h]
theorem zeroL_not{x:Int}{r:List Int}(h:¬x=1):zeroL (x::r)=(x==0):=by rw[zeroL,if_neg h]
theorem onesL_le(l:List Int):onesL l≤l.length:=by
 induction l with
 |nil=>exact Nat.le_refl _
 |cons x r ih=>
  unfold onesL
  split
  ·rw[List.length_cons];omega
  ·omega
theorem ones_l0(l:List Int)(hl:l.length≤9223372036854775806):∀d k i,i+d=l.length→d<k→gamma_Ones.l0 k l l (l.length:Int) (i:Int)=some (((i+onesL (l.drop i):Nat):Int),zeroL (l.drop i)):=by
 intro d
 induction d with
 |zero=>
  intro k i hi hk;obtain⟨k,rfl⟩:∃m,k=m+1:=⟨k - 1,by omega⟩;rw[gamma_Ones.l0,if_neg (by omega)];obtain rfl:i=l.length:=by omega
  rw[List.drop_length];rfl
 |succ d ih=>
  intro k i hi hk;obtain⟨k,rfl⟩:∃m,k=m+1:=⟨k - 1,by omega⟩;have hlt:i<l.length:=by omega
  have hrd:rd l (i:Int)=l[i]:=by
   unfold rd;rw[nC_,gD_,gE_ hlt];rfl
  have HD:l.drop i=l[i]::l.drop (i+1):=List.drop_eq_getElem_cons hlt;rw[gamma_Ones.l0,if_pos (by omega),if_pos (by omega),if_pos (by omega),hrd,HD]
  by_cases h1:l[i]=1
  ·rw[if_pos h1];have hw:wrap64 ((i:Int)+1)=((i+1:Nat):Int):=by unfold wrap64;omega
   rw[hw,ih k (i+1) (by omega) (by omega)];rw[onesL_one h1,zeroL_one h1];have:i+1+onesL (List.drop (i+1) l)=i+(onesL (List.drop (i+1) l)+1):=by omega
   rw[this]
  ·rw[if_neg h1,onesL_not h1,zeroL_not h1];rfl
theorem ones_f(l:List Int)(hl:l.length≤9223372036854775806):gamma_Ones.f (l.length+1) l=some ((onesL l:Int),zeroL l):=by
 unfold gamma_Ones.f;have:=ones_l0 l hl l.length (l.length+1) 0 (by omega) (by omega);rw[List.drop_zero,Nat.zero_add] at this;exact this
theorem ones_calls(A0:Option Addr)(c0:Nat)(l:List Int)(w:World)(hr0:Kd.C (Kd.int .i64) w A0 l.length l)(hc0:l.length≤c0)(hl:l.length≤9223372036854775806):
  Calls Tryz.prog 110 #[.slice A0 l.length c0] w fun e w'=>e= .returned (.tuple #[.int .i64 (onesL l),.bool (zeroL l)])∧∃n,w'=w.drewN n:=
 (gamma_Ones.calls _ A0 c0 l _ _ w hr0 hc0 (ones_f l hl)).mono fun e w' hh=>⟨hh.1,hh.2.out⟩
theorem least_calls(x:Int)(w:World):Calls Tryz.prog 149 #[.int .i64 x] w fun e w'=>e= .returned (.int .i64 (mn x 31))∧Below w.heap.size w w':=context_least.calls x _ w rfl
theorem mn_nat(a:Nat):((min a 31:Nat):Int)=mn a 31:=by unfold mn;split<;>omega
theorem last_get(l:List Int)(h0:0<l.length):l.getLast?=some (l.getD (l.length - 1) 0):=by
 rw[List.getLast?_eq_getElem?,gD_,gE_ (by omega)];rfl
def cx0(l:List Int):Nat:=min (onesL l) 31+(if zeroL l then 32 else 0)
def cx1(before:Nat)(l:List Int):Nat:=2*min before 31+(if zeroL l then 1 else 0)
def cx2(l:List Int):Nat:=min l.length 31+(if l.getLast?=some 1 then 32 else 0)
theorem cx0_lt(l:List Int):cx0 l<64:=by unfold cx0;split<;>omega
theorem cx1_lt(b:Nat)(l:List Int):cx1 b l<64:=by unfold cx1;split<;>omega
theorem cx2_lt(l:List Int):cx2 l<64:=by unfold cx2;split<;>omega
theorem ctx_t0(A0:Option Addr)(c0:Nat)(l:List Int)(before:Nat)(w:World)(hr0:Kd.C (Kd.int .i64) w A0 l.length l)(hc0:l.length≤c0)(hl:l.length≤63)(hb0:before≤63)(hbits:l.any ctxOdd=false)(hz:zeroL l=true)(h0:l.length=0):
  Calls Tryz.prog 132 #[.int .i64 before,.slice A0 l.length c0] w fun e w'=>e= .returned (.tuple #[.agg #[.int .i64 (cx0 l),.int .i64 (cx1 before l),.int .i64 (cx2 l)],.int .i64 0])∧Below w.heap.size w w':=by
 have lh:=Tryz.underlying81;have R0:Hid ((cx0 l:Int)=mn (onesL l) 31+32):=by show _=_;have:=mn_nat (onesL l);unfold cx0;rw[hz];rw[if_pos rfl];omega
 have R1:Hid ((cx1 before l:Int)=2*mn before 31+1):=by show _=_;have:=mn_nat before;unfold cx1;rw[hz];rw[if_pos rfl];omega
 have R2:Hid ((cx2 l:Int)=mn l.length 31):=by show _=_;unfold cx2;have:=mn_nat l.length;rw[if_neg (by rw[List.eq_nil_of_length_eq_zero h0];simp)];omega
 have cO:=Z_ hr0;have HB:=Lib.hid hbits;have HZ:=Lib.hid hz;have ho:=onesL_le l;have YA:Aside0 ((w.alloc (.cells #[.int .i64 0,.int .i64 0,.int .i64 0] 81)).heap[w.heap.size]?=some (.cells #[.int .i64 0,.int .i64 0,.int .i64 0] 81 (0,0))):=⟨blk_new w _⟩;have YW:Aside0 (Below w.heap.size w (w.alloc (.cells #[.int .i64 0,.int .i64 0,.int .i64 0] 81))):=⟨below_alloc (Below.refl _ _) _⟩;have hb1:¬(63:Int)<before:=by omega
 have hl1:¬(63:Int)<l.length:=by omega
 clear hr0 hbits hz;have H0:=Lib.hid h0;clear h0
 go_enter Tryz.func132,Tryz.ntmps132
 go_wp2_with fail
 generalize w.alloc (.cells #[.int .i64 0,.int .i64 0,.int .i64 0] 81)=W at YA YW ⊢;refine(ctxAny_calls A0 c0 l _ (Kd.C_below cO.out YW.out) (by omega)).mono ?_;rintro e w1 ⟨rfl,⟨nd,rfl⟩⟩;rw[HB.out];have n0:=Z_ (blk_drewN YA.out nd);have n9:=Z_ (pw_below_drewN YW.out nd);clear YA YW;have YA:=n0;have YW:=n9;clear n0 n9;generalize World.drewN _ _=w1 at YA YW ⊢
 go_wp2_with fail
 refine(ones_calls A0 c0 l _ (Kd.C_below cO.out YW.out) hc0 (by omega)).mono ?_;rintro e w2 ⟨rfl,⟨lN,rfl⟩⟩;rw[HZ.out];have n0:=Z_ (blk_drewN YA.out lN);have n9:=Z_ (pw_below_drewN YW.out lN);clear YA YW;have YA:=n0;have YW:=n9;clear n0 n9;generalize World.drewN _ _=w2 at YA YW ⊢;obtain⟨p,hp⟩:∃p,mn (onesL l) 31=p:=⟨_,rfl⟩;obtain⟨q,hq⟩:∃q,mn before 31=q:=⟨_,rfl⟩;obtain⟨r,hr⟩:∃r,mn l.length 31=r:=⟨_,rfl⟩;have bp:=mn_nat (onesL l);have bq:=mn_nat before;have br:=mn_nat l.length;rw[hp] at R0 bp;rw[hq] at R1 bq;rw[hr] at R2 br;have bp:0≤p∧p≤31:=by omega
 have bq:0≤q∧q≤31:=by omega
 have br:0≤r∧r≤31:=by omega
 have HP:=Lib.hid hp;have HQ:=Lib.hid hq;have HRR:=Lib.hid hr;clear hp hq hr ho
 go_wp2_with fail
 refine(least_calls (onesL l) _).mono ?_;rintro e w3 ⟨rfl,hb⟩;rw[HP.out];have n0:=Z_ (blk_below YA.out hb);have n9:=Z_ (below_step YW.out hb);clear YA YW hb;have YA:=n0;have YW:=n9;clear n0 n9
 go_wp2_with fail
 refine(least_calls before _).mono ?_;rintro e w4 ⟨rfl,hb⟩;rw[HQ.out];have n0:=Z_ (blk_below YA.out hb);have n9:=Z_ (below_step YW.out hb);clear YA YW hb;have YA:=n0;have YW:=n9;clear n0 n9
 go_wp2_with fail
 refine(least_calls l.length _).mono ?_;rintro e w5 ⟨rfl,hb⟩;rw[HRR.out];have n0:=Z_ (blk_below YA.out hb);have n9:=Z_ (below_step YW.out hb);clear YA YW hb;have YA:=n0;have YW:=n9;clear n0 n9;have hne:w.heap.size<w5.heap.size:=blk_lt YA.out;have YD:=Z_ (blk_new w5 (.cells #[.int .i64 p,.int .i64 (2*q),.int .i64 r] 81));have ZA:=Z_ (blk_alloc YA.out (.cells #[.int .i64 (p+32),.int .i64 (2*q+1),.int .i64 r] 81));have mZ:=blk_cell YD.out 0;have ng:=blk_cell YD.out 1;have ni:=blk_cell YD.out 2;simp at mZ ng ni;have df:=blk_frozen YD.out;have dl:=blk_lt YD.out;have vM:=blk_cell ZA.out 0;have vN:=blk_cell ZA.out 1;have vO:=blk_cell ZA.out 2;simp at vM vN vO;have ef:=blk_frozen ZA.out;have el:=blk_lt ZA.out;have hlz:¬(0:Int)<l.length:=by have:=H0.out;omega
 have ONE_:Hid ((#[.int .i64 (p+32),.int .i64 (2*q+1),.int .i64 r]:Array Value).all (·.oneCell')=true):=by show _=_;simp[Value.oneCell']
 have TH:Hid ((w5.alloc (.cells #[.int .i64 (p+32),.int .i64 (2*q+1),.int .i64 r] 81)).there w.heap.size 0 3):=there_blk (vs:= [.int .i64 0,.int .i64 0,.int .i64 0]) ZA.out 0 3 (by decide)
 go_wp2_with ((with_reducible refine gate_store (t:=81) (p:=4) rfl ?_);refine wpList_store_mid rfl 81 _ _ rfl w.heap.size 0 #[.int .i64 (p+32),.int .i64 (2*q+1),.int .i64 r] rfl rfl TH.out (by kernel_rfl) ONE_.out ?_)
 have h1:=setCells_all (vs:=(#[.int .i64 (p+32),.int .i64 (2*q+1),.int .i64 r]:Array Value).toList) (old:= [.int .i64 0,.int .i64 0,.int .i64 0]) ZA.out rfl;have h2:=below_setCells (below_alloc YW.out (.cells #[.int .i64 (p+32),.int .i64 (2*q+1),.int .i64 r] 81)) (Nat.le_refl _) (#[.int .i64 (p+32),.int .i64 (2*q+1),.int .i64 r]:Array Value).toList 0;refine bodyPost_ret (results_ct rfl _ _ w.heap.size 81 #[.int .i64 (p+32),.int .i64 (2*q+1),.int .i64 r] (0,0) _ rfl h1 Tryz.underlying81 rfl (by kernel_rfl)) rfl ⟨?_,h2⟩;rw[R0.out,R1.out,R2.out];rfl
theorem ctx_t1(A0:Option Addr)(c0:Nat)(l:List Int)(before:Nat)(w:World)(hr0:Kd.C (Kd.int .i64) w A0 l.length l)(hc0:l.length≤c0)(hl:l.length≤63)(hb0:before≤63)(hbits:l.any ctxOdd=false)(hz:zeroL l=true)(h0:0<l.length)(hy:l.getD (l.length - 1) 0=1):
  Calls Tryz.prog 132 #[.int .i64 before,.slice A0 l.length c0] w fun e w'=>e= .returned (.tuple #[.agg #[.int .i64 (cx0 l),.int .i64 (cx1 before l),.int .i64 (cx2 l)],.int .i64 0])∧Below w.heap.size w w':=by
 have lh:=Tryz.underlying81;have R0:Hid ((cx0 l:Int)=mn (onesL l) 31+32):=by show _=_;have:=mn_nat (onesL l);unfold cx0;rw[hz];rw[if_pos rfl];omega
 have R1:Hid ((cx1 before l:Int)=2*mn before 31+1):=by show _=_;have:=mn_nat before;unfold cx1;rw[hz];rw[if_pos rfl];omega
 have R2:Hid ((cx2 l:Int)=mn l.length 31+32):=by show _=_;unfold cx2;have:=mn_nat l.length;rw[if_pos (by rw[last_get l h0,hy])];omega
 have cO:=Z_ hr0;have HB:=Lib.hid hbits;have HZ:=Lib.hid hz;have ho:=onesL_le l;have YA:Aside0 ((w.alloc (.cells #[.int .i64 0,.int .i64 0,.int .i64 0] 81)).heap[w.heap.size]?=some (.cells #[.int .i64 0,.int .i64 0,.int .i64 0] 81 (0,0))):=⟨blk_new w _⟩;have YW:Aside0 (Below w.heap.size w (w.alloc (.cells #[.int .i64 0,.int .i64 0,.int .i64 0] 81))):=⟨below_alloc (Below.refl _ _) _⟩;have hb1:¬(63:Int)<before:=by omega
 have hl1:¬(63:Int)<l.length:=by omega
 clear hr0 hbits hz
 go_enter Tryz.func132,Tryz.ntmps132
 go_wp2_with fail
 generalize w.alloc (.cells #[.int .i64 0,.int .i64 0,.int .i64 0] 81)=W at YA YW ⊢;refine(ctxAny_calls A0 c0 l _ (Kd.C_below cO.out YW.out) (by omega)).mono ?_;rintro e w1 ⟨rfl,⟨nd,rfl⟩⟩;rw[HB.out];have n0:=Z_ (blk_drewN YA.out nd);have n9:=Z_ (pw_below_drewN YW.out nd);clear YA YW;have YA:=n0;have YW:=n9;clear n0 n9;generalize World.drewN _ _=w1 at YA YW ⊢
 go_wp2_with fail
 refine(ones_calls A0 c0 l _ (Kd.C_below cO.out YW.out) hc0 (by omega)).mono ?_;rintro e w2 ⟨rfl,⟨lN,rfl⟩⟩;rw[HZ.out];have n0:=Z_ (blk_drewN YA.out lN);have n9:=Z_ (pw_below_drewN YW.out lN);clear YA YW;have YA:=n0;have YW:=n9;clear n0 n9;generalize World.drewN _ _=w2 at YA YW ⊢;obtain⟨p,hp⟩:∃p,mn (onesL l) 31=p:=⟨_,rfl⟩;obtain⟨q,hq⟩:∃q,mn before 31=q:=⟨_,rfl⟩;obtain⟨r,hr⟩:∃r,mn l.length 31=r:=⟨_,rfl⟩;have bp:=mn_nat (onesL l);have bq:=mn_nat before;have br:=mn_nat l.length;rw[hp] at R0 bp;rw[hq] at R1 bq;rw[hr] at R2 br;have bp:0≤p∧p≤31:=by omega
 have bq:0≤q∧q≤31:=by omega
 have br:0≤r∧r≤31:=by omega
 have HP:=Lib.hid hp;have HQ:=Lib.hid hq;have HRR:=Lib.hid hr;clear hp hq hr ho
 go_wp2_with fail
 refine(least_calls (onesL l) _).mono ?_;rintro e w3 ⟨rfl,hb⟩;rw[HP.out];have n0:=Z_ (blk_below YA.out hb);have n9:=Z_ (below_step YW.out hb);clear YA YW hb;have YA:=n0;have YW:=n9;clear n0 n9
 go_wp2_with fail
 refine(least_calls before _).mono ?_;rintro e w4 ⟨rfl,hb⟩;rw[HQ.out];have n0:=Z_ (blk_below YA.out hb);have n9:=Z_ (below_step YW.out hb);clear YA YW hb;have YA:=n0;have YW:=n9;clear n0 n9
 go_wp2_with fail
 refine(least_calls l.length _).mono ?_;rintro e w5 ⟨rfl,hb⟩;rw[HRR.out];have n0:=Z_ (blk_below YA.out hb);have n9:=Z_ (below_step YW.out hb);clear YA YW hb;have YA:=n0;have YW:=n9;clear n0 n9;have hne:w.heap.size<w5.heap.size:=blk_lt YA.out;have YD:=Z_ (blk_new w5 (.cells #[.int .i64 p,.int .i64 (2*q),.int .i64 r] 81));have ZA:=Z_ (blk_alloc YA.out (.cells #[.int .i64 (p+32),.int .i64 (2*q+1),.int .i64 (r+32)] 81));have mZ:=blk_cell YD.out 0;have ng:=blk_cell YD.out 1;have ni:=blk_cell YD.out 2;simp at mZ ng ni;have df:=blk_frozen YD.out;have dl:=blk_lt YD.out;have vM:=blk_cell ZA.out 0;have vN:=blk_cell ZA.out 1;have vO:=blk_cell ZA.out 2;simp at vM vN vO;have ef:=blk_frozen ZA.out;have el:=blk_lt ZA.out;have hlz:(0:Int)<l.length:=by omega
 obtain⟨ad,e_,hx_⟩:=Kd.at_int (Kd.C_below cO.out (below_alloc YW.out (.cells #[.int .i64 (p+32),.int .i64 (2*q+1),.int .i64 r] 81))) ((l.length:Int) - 1) (by omega) (by omega)
 cases e_
 have hrd:rd l ((l.length:Int) - 1)=1:=by
  unfold rd;rw[show((l.length:Int) - 1).toNat=l.length - 1 by omega];exact hy
 rw[hrd,show((l.length:Int) - 1).toNat=l.length - 1 by omega] at hx_;have g1:(0:Int)≤(l.length:Int) - 1:=by omega
 have g2:(l.length:Int) - 1<l.length:=by omega
 clear hrd;have ONE_:Hid ((#[.int .i64 (p+32),.int .i64 (2*q+1),.int .i64 (r+32)]:Array Value).all (·.oneCell')=true):=by show _=_;simp[Value.oneCell']
 have TH:Hid ((w5.alloc (.cells #[.int .i64 (p+32),.int .i64 (2*q+1),.int .i64 (r+32)] 81)).there w.heap.size 0 3):=there_blk (vs:= [.int .i64 0,.int .i64 0,.int .i64 0]) ZA.out 0 3 (by decide)
 go_wp2_with ((with_reducible refine gate_store (t:=81) (p:=4) rfl ?_);refine wpList_store_mid rfl 81 _ _ rfl w.heap.size 0 #[.int .i64 (p+32),.int .i64 (2*q+1),.int .i64 (r+32)] rfl rfl TH.out (by kernel_rfl) ONE_.out ?_)
 have h1:=setCells_all (vs:=(#[.int .i64 (p+32),.int .i64 (2*q+1),.int .i64 (r+32)]:Array Value).toList) (old:= [.int .i64 0,.int .i64 0,.int .i64 0]) ZA.out rfl;have h2:=below_setCells (below_alloc YW.out (.cells #[.int .i64 (p+32),.int .i64 (2*q+1),.int .i64 (r+32)] 81)) (Nat.le_refl _) (#[.int .i64 (p+32),.int .i64 (2*q+1),.int .i64 (r+32)]:Array Value).toList 0;refine bodyPost_ret (results_ct rfl _ _ w.heap.size 81 #[.int .i64 (p+32),.int .i64 (2*q+1),.int .i64 (r+32)] (0,0) _ rfl h1 Tryz.underlying81 rfl (by kernel_rfl)) rfl ⟨?_,h2⟩;rw[R0.out,R1.out,R2.out];rfl
theorem ctx_t2(A0:Option Addr)(c0:Nat)(l:List Int)(before:Nat)(w:World)(hr0:Kd.C (Kd.int .i64) w A0 l.length l)(hc0:l.length≤c0)(hl:l.length≤63)(hb0:before≤63)(hbits:l.any ctxOdd=false)(hz:zeroL l=true)(h0:0<l.length)(hy:¬l.getD (l.length - 1) 0=1):
  Calls Tryz.prog 132 #[.int .i64 before,.slice A0 l.length c0] w fun e w'=>e= .returned (.tuple #[.agg #[.int .i64 (cx0 l),.int .i64 (cx1 before l),.int .i64 (cx2 l)],.int .i64 0])∧Below w.heap.size w w':=by
 have lh:=Tryz.underlying81;have R0:Hid ((cx0 l:Int)=mn (onesL l) 31+32):=by show _=_;have:=mn_nat (onesL l);unfold cx0;rw[hz];rw[if_pos rfl];omega
 have R1:Hid ((cx1 before l:Int)=2*mn before 31+1):=by show _=_;have:=mn_nat before;unfold cx1;rw[hz];rw[if_pos rfl];omega
 have R2:Hid ((cx2 l:Int)=mn l.length 31):=by show _=_;unfold cx2;have:=mn_nat l.length;rw[if_neg (by rw[last_get l h0];intro e;exact hy (Option.some.inj e))];omega
 have cO:=Z_ hr0;have HB:=Lib.hid hbits;have HZ:=Lib.hid hz;have ho:=onesL_le l;have YA:Aside0 ((w.alloc (.cells #[.int .i64 0,.int .i64 0,.int .i64 0] 81)).heap[w.heap.size]?=some (.cells #[.int .i64 0,.int .i64 0,.int .i64 0] 81 (0,0))):=⟨blk_new w _⟩;have YW:Aside0 (Below w.heap.size w (w.alloc (.cells #[.int .i64 0,.int .i64 0,.int .i64 0] 81))):=⟨below_alloc (Below.refl _ _) _⟩;have hb1:¬(63:Int)<before:=by omega
 have hl1:¬(63:Int)<l.length:=by omega
 clear hr0 hbits hz
 go_enter Tryz.func132,Tryz.ntmps132
 go_wp2_with fail
 generalize w.alloc (.cells #[.int .i64 0,.int .i64 0,.int .i64 0] 81)=W at YA YW ⊢;refine(ctxAny_calls A0 c0 l _ (Kd.C_below cO.out YW.out) (by omega)).mono ?_;rintro e w1 ⟨rfl,⟨nd,rfl⟩⟩;rw[HB.out];have n0:=Z_ (blk_drewN YA.out nd);have n9:=Z_ (pw_below_drewN YW.out nd);clear YA YW;have YA:=n0;have YW:=n9;clear n0 n9;generalize World.drewN _ _=w1 at YA YW ⊢
 go_wp2_with fail
 refine(ones_calls A0 c0 l _ (Kd.C_below cO.out YW.out) hc0 (by omega)).mono ?_;rintro e w2 ⟨rfl,⟨lN,rfl⟩⟩;rw[HZ.out];have n0:=Z_ (blk_drewN YA.out lN);have n9:=Z_ (pw_below_drewN YW.out lN);clear YA YW;have YA:=n0;have YW:=n9;clear n0 n9;generalize World.drewN _ _=w2 at YA YW ⊢;obtain⟨p,hp⟩:∃p,mn (onesL l) 31=p:=⟨_,rfl⟩;obtain⟨q,hq⟩:∃q,mn before 31=q:=⟨_,rfl⟩;obtain⟨r,hr⟩:∃r,mn l.length 31=r:=⟨_,rfl⟩;have bp:=mn_nat (onesL l);have bq:=mn_nat before;have br:=mn_nat l.length;rw[hp] at R0 bp;rw[hq] at R1 bq;rw[hr] at R2 br;have bp:0≤p∧p≤31:=by omega
 have bq:0≤q∧q≤31:=by omega
 have br:0≤r∧r≤31:=by omega
 have HP:=Lib.hid hp;have HQ:=Lib.hid hq;have HRR:=Lib.hid hr;clear hp hq hr ho
 go_wp2_with fail
 refine(least_calls (onesL l) _).mono ?_;rintro e w3 ⟨rfl,hb⟩;rw[HP.out];have n0:=Z_ (blk_below YA.out hb);have n9:=Z_ (below_step YW.out hb);clear YA YW hb;have YA:=n0;have YW:=n9;clear n0 n9
 go_wp2_with fail
 refine(least_calls before _).mono ?_;rintro e w4 ⟨rfl,hb⟩;rw[HQ.out];have n0:=Z_ (blk_below YA.out hb);have n9:=Z_ (below_step YW.out hb);clear YA YW hb;have YA:=n0;have YW:=n9;clear n0 n9
 go_wp2_with fail
 refine(least_calls l.length _).mono ?_;rintro e w5 ⟨rfl,hb⟩;rw[HRR.out];have n0:=Z_ (blk_below YA.out hb);have n9:=Z_ (below_step YW.out hb);clear YA YW hb;have YA:=n0;have YW:=n9;clear n0 n9;have hne:w.heap.size<w5.heap.size:=blk_lt YA.out;have YD:=Z_ (blk_new w5 (.cells #[.int .i64 p,.int .i64 (2*q),.int .i64 r] 81));have ZA:=Z_ (blk_alloc YA.out (.cells #[.int .i64 (p+32),.int .i64 (2*q+1),.int .i64 r] 81));have mZ:=blk_cell YD.out 0;have ng:=blk_cell YD.out 1;have ni:=blk_cell YD.out 2;simp at mZ ng ni;have df:=blk_frozen YD.out;have dl:=blk_lt YD.out;have vM:=blk_cell ZA.out 0;have vN:=blk_cell ZA.out 1;have vO:=blk_cell ZA.out 2;simp at vM vN vO;have ef:=blk_frozen ZA.out;have el:=blk_lt ZA.out;have hlz:(0:Int)<l.length:=by omega
 obtain⟨y,hy2⟩:∃y,l.getD (l.length - 1) 0=y:=⟨_,rfl⟩;rw[hy2] at hy;have hyb:(y==1)=false:=beq_eq_false_iff_ne.mpr hy;obtain⟨ad,e_,hx_⟩:=Kd.at_int (Kd.C_below cO.out (below_alloc YW.out (.cells #[.int .i64 (p+32),.int .i64 (2*q+1),.int .i64 r] 81))) ((l.length:Int) - 1) (by omega) (by omega)
 cases e_
 have hrd:rd l ((l.length:Int) - 1)=y:=by
  unfold rd;rw[show((l.length:Int) - 1).toNat=l.length - 1 by omega];exact hy2
 rw[hrd,show((l.length:Int) - 1).toNat=l.length - 1 by omega] at hx_;have g1:(0:Int)≤(l.length:Int) - 1:=by omega
 have g2:(l.length:Int) - 1<l.length:=by omega
 clear hrd hy2 hy;have ONE_:Hid ((#[.int .i64 (p+32),.int .i64 (2*q+1),.int .i64 r]:Array Value).all (·.oneCell')=true):=by show _=_;simp[Value.oneCell']
 have TH:Hid ((w5.alloc (.cells #[.int .i64 (p+32),.int .i64 (2*q+1),.int .i64 r] 81)).there w.heap.size 0 3):=there_blk (vs:= [.int .i64 0,.int .i64 0,.int .i64 0]) ZA.out 0 3 (by decide)
 go_wp2_with ((with_reducible refine gate_store (t:=81) (p:=4) rfl ?_);refine wpList_store_mid rfl 81 _ _ rfl w.heap.size 0 #[.int .i64 (p+32),.int .i64 (2*q+1),.int .i64 r] rfl rfl TH.out (by kernel_rfl) ONE_.out ?_)
 have h1:=setCells_all (vs:=(#[.int .i64 (p+32),.int .i64 (2*q+1),.int .i64 r]:Array Value).toList) (old:= [.int .i64 0,.int .i64 0,.int .i64 0]) ZA.out rfl;have h2:=below_setCells (below_alloc YW.out (.cells #[.int .i64 (p+32),.int .i64 (2*q+1),.int .i64 r] 81)) (Nat.le_refl _) (#[.int .i64 (p+32),.int .i64 (2*q+1),.int .i64 r]:Array Value).toList 0;refine bodyPost_ret (results_ct rfl _ _ w.heap.size 81 #[.int .i64 (p+32),.int .i64 (2*q+1),.int .i64 r] (0,0) _ rfl h1 Tryz.underlying81 rfl (by kernel_rfl)) rfl ⟨?_,h2⟩;rw[R0.out,R1.out,R2.out];rfl
theorem ctx_f0(A0:Option Addr)(c0:Nat)(l:List Int)(before:Nat)(w:World)(hr0:Kd.C (Kd.int .i64) w A0 l.length l)(hc0:l.length≤c0)(hl:l.length≤63)(hb0:before≤63)(hbits:l.any ctxOdd=false)(hz:zeroL l=false)(h0:l.length=0):
  Calls Tryz.prog 132 #[.int .i64 before,.slice A0 l.length c0] w fun e w'=>e= .returned (.tuple #[.agg #[.int .i64 (cx0 l),.int .i64 (cx1 before l),.int .i64 (cx2 l)],.int .i64 0])∧Below w.heap.size w w':=by
 have lh:=Tryz.underlying81;have R0:Hid ((cx0 l:Int)=mn (onesL l) 31):=by show _=_;have:=mn_nat (onesL l);unfold cx0;rw[hz];rw[if_neg (by decide)];omega
 have R1:Hid ((cx1 before l:Int)=2*mn before 31):=by show _=_;have:=mn_nat before;unfold cx1;rw[hz];rw[if_neg (by decide)];omega
 have R2:Hid ((cx2 l:Int)=mn l.length 31):=by show _=_;unfold cx2;have:=mn_nat l.length;rw[if_neg (by rw[List.eq_nil_of_length_eq_zero h0];simp)];omega
 have cO:=Z_ hr0;have HB:=Lib.hid hbits;have HZ:=Lib.hid hz;have ho:=onesL_le l;have YA:Aside0 ((w.alloc (.cells #[.int .i64 0,.int .i64 0,.int .i64 0] 81)).heap[w.heap.size]?=some (.cells #[.int .i64 0,.int .i64 0,.int .i64 0] 81 (0,0))):=⟨blk_new w _⟩;have YW:Aside0 (Below w.heap.size w (w.alloc (.cells #[.int .i64 0,.int .i64 0,.int .i64 0] 81))):=⟨below_alloc (Below.refl _ _) _⟩;have hb1:¬(63:Int)<before:=by omega
 have hl1:¬(63:Int)<l.length:=by omega
 clear hr0 hbits hz;have H0:=Lib.hid h0;clear h0
 go_enter Tryz.func132,Tryz.ntmps132
 go_wp2_with fail
 generalize w.alloc (.cells #[.int .i64 0,.int .i64 0,.int .i64 0] 81)=W at YA YW ⊢;refine(ctxAny_calls A0 c0 l _ (Kd.C_below cO.out YW.out) (by omega)).mono ?_;rintro e w1 ⟨rfl,⟨nd,rfl⟩⟩;rw[HB.out];have n0:=Z_ (blk_drewN YA.out nd);have n9:=Z_ (pw_below_drewN YW.out nd);clear YA YW;have YA:=n0;have YW:=n9;clear n0 n9;generalize World.drewN _ _=w1 at YA YW ⊢
 go_wp2_with fail
 refine(ones_calls A0 c0 l _ (Kd.C_below cO.out YW.out) hc0 (by omega)).mono ?_;rintro e w2 ⟨rfl,⟨lN,rfl⟩⟩;rw[HZ.out];have n0:=Z_ (blk_drewN YA.out lN);have n9:=Z_ (pw_below_drewN YW.out lN);clear YA YW;have YA:=n0;have YW:=n9;clear n0 n9;generalize World.drewN _ _=w2 at YA YW ⊢;obtain⟨p,hp⟩:∃p,mn (onesL l) 31=p:=⟨_,rfl⟩;obtain⟨q,hq⟩:∃q,mn before 31=q:=⟨_,rfl⟩;obtain⟨r,hr⟩:∃r,mn l.length 31=r:=⟨_,rfl⟩;have bp:=mn_nat (onesL l);have bq:=mn_nat before;have br:=mn_nat l.length;rw[hp] at R0 bp;rw[hq] at R1 bq;rw[hr] at R2 br;have bp:0≤p∧p≤31:=by omega
 have bq:0≤q∧q≤31:=by omega
 have br:0≤r∧r≤31:=by omega
 have HP:=Lib.hid hp;have HQ:=Lib.hid hq;have HRR:=Lib.hid hr;clear hp hq hr ho
 go_wp2_with fail
 refine(least_calls (onesL l) _).mono ?_;rintro e w3 ⟨rfl,hb⟩;rw[HP.out];have n0:=Z_ (blk_below YA.out hb);have n9:=Z_ (below_step YW.out hb);clear YA YW hb;have YA:=n0;have YW:=n9;clear n0 n9
 go_wp2_with fail
 refine(least_calls before _).mono ?_;rintro e w4 ⟨rfl,hb⟩;rw[HQ.out];have n0:=Z_ (blk_below YA.out hb);have n9:=Z_ (below_step YW.out hb);clear YA YW hb;have YA:=n0;have YW:=n9;clear n0 n9
 go_wp2_with fail
 refine(least_calls l.length _).mono ?_;rintro e w5 ⟨rfl,hb⟩;rw[HRR.out];have n0:=Z_ (blk_below YA.out hb);have n9:=Z_ (below_step YW.out hb);clear YA YW hb;have YA:=n0;have YW:=n9;clear n0 n9;have hne:w.heap.size<w5.heap.size:=blk_lt YA.out;have YD:=Z_ (blk_new w5 (.cells #[.int .i64 p,.int .i64 (2*q),.int .i64 r] 81));have ZA:=Z_ (blk_alloc YA.out (.cells #[.int .i64 p,.int .i64 (2*q),.int .i64 r] 81));have mZ:=blk_cell YD.out 0;have ng:=blk_cell YD.out 1;have ni:=blk_cell YD.out 2;simp at mZ ng ni;have df:=blk_frozen YD.out;have dl:=blk_lt YD.out;have vM:=blk_cell ZA.out 0;have vN:=blk_cell ZA.out 1;have vO:=blk_cell ZA.out 2;simp at vM vN vO;have ef:=blk_frozen ZA.out;have el:=blk_lt ZA.out;have hlz:¬(0:Int)<l.length:=by have:=H0.out;omega
 have ONE_:Hid ((#[.int .i64 p,.int .i64 (2*q),.int .i64 r]:Array Value).all (·.oneCell')=true):=by show _=_;simp[Value.oneCell']
 have TH:Hid ((w5.alloc (.cells #[.int .i64 p,.int .i64 (2*q),.int .i64 r] 81)).there w.heap.size 0 3):=there_blk (vs:= [.int .i64 0,.int .i64 0,.int .i64 0]) ZA.out 0 3 (by decide)
 go_wp2_with ((with_reducible refine gate_store (t:=81) (p:=4) rfl ?_);refine wpList_store_mid rfl 81 _ _ rfl w.heap.size 0 #[.int .i64 p,.int .i64 (2*q),.int .i64 r] rfl rfl TH.out (by kernel_rfl) ONE_.out ?_)
 have h1:=setCells_all (vs:=(#[.int .i64 p,.int .i64 (2*q),.int .i64 r]:Array Value).toList) (old:= [.int .i64 0,.int .i64 0,.int .i64 0]) ZA.out rfl;have h2:=below_setCells (below_alloc YW.out (.cells #[.int .i64 p,.int .i64 (2*q),.int .i64 r] 81)) (Nat.le_refl _) (#[.int .i64 p,.int .i64 (2*q),.int .i64 r]:Array Value).toList 0;refine bodyPost_ret (results_ct rfl _ _ w.heap.size 81 #[.int .i64 p,.int .i64 (2*q),.int .i64 r] (0,0) _ rfl h1 Tryz.underlying81 rfl (by kernel_rfl)) rfl ⟨?_,h2⟩;rw[R0.out,R1.out,R2.out];rfl
theorem ctx_f1(A0:Option Addr)(c0:Nat)(l:List Int)(before:Nat)(w:World)(hr0:Kd.C (Kd.int .i64) w A0 l.length l)(hc0:l.length≤c0)(hl:l.length≤63)(hb0:before≤63)(hbits:l.any ctxOdd=false)(hz:zeroL l=false)(h0:0<l.length)(hy:l.getD (l.length - 1) 0=1):
  Calls Tryz.prog 132 #[.int .i64 before,.slice A0 l.length c0] w fun e w'=>e= .returned (.tuple #[.agg #[.int .i64 (cx0 l),.int .i64 (cx1 before l),.int .i64 (cx2 l)],.int .i64 0])∧Below w.heap.size w w':=by
 have lh:=Tryz.underlying81;have R0:Hid ((cx0 l:Int)=mn (onesL l) 31):=by show _=_;have:=mn_nat (onesL l);unfold cx0;rw[hz];rw[if_neg (by decide)];omega
 have R1:Hid ((cx1 before l:Int)=2*mn before 31):=by show _=_;have:=mn_nat before;unfold cx1;rw[hz];rw[if_neg (by decide)];omega
 have R2:Hid ((cx2 l:Int)=mn l.length 31+32):=by show _=_;unfold cx2;have:=mn_nat l.length;rw[if_pos (by rw[last_get l h0,hy])];omega
 have cO:=Z_ hr0;have HB:=Lib.hid hbits;have HZ:=Lib.hid hz;have ho:=onesL_le l;have YA:Aside0 ((w.alloc (.cells #[.int .i64 0,.int .i64 0,.int .i64 0] 81)).heap[w.heap.size]?=some (.cells #[.int .i64 0,.int .i64 0,.int .i64 0] 81 (0,0))):=⟨blk_new w _⟩;have YW:Aside0 (Below w.heap.size w (w.alloc (.cells #[.int .i64 0,.int .i64 0,.int .i64 0] 81))):=⟨below_alloc (Below.refl _ _) _⟩;have hb1:¬(63:Int)<before:=by omega
 have hl1:¬(63:Int)<l.length:=by omega
 clear hr0 hbits hz
 go_enter Tryz.func132,Tryz.ntmps132
 go_wp2_with fail
 generalize w.alloc (.cells #[.int .i64 0,.int .i64 0,.int .i64 0] 81)=W at YA YW ⊢;refine(ctxAny_calls A0 c0 l _ (Kd.C_below cO.out YW.out) (by omega)).mono ?_;rintro e w1 ⟨rfl,⟨nd,rfl⟩⟩;rw[HB.out];have n0:=Z_ (blk_drewN YA.out nd);have n9:=Z_ (pw_below_drewN YW.out nd);clear YA YW;have YA:=n0;have YW:=n9;clear n0 n9;generalize World.drewN _ _=w1 at YA YW ⊢
 go_wp2_with fail
 refine(ones_calls A0 c0 l _ (Kd.C_below cO.out YW.out) hc0 (by omega)).mono ?_;rintro e w2 ⟨rfl,⟨lN,rfl⟩⟩;rw[HZ.out];have n0:=Z_ (blk_drewN YA.out lN);have n9:=Z_ (pw_below_drewN YW.out lN);clear YA YW;have YA:=n0;have YW:=n9;clear n0 n9;generalize World.drewN _ _=w2 at YA YW ⊢;obtain⟨p,hp⟩:∃p,mn (onesL l) 31=p:=⟨_,rfl⟩;obtain⟨q,hq⟩:∃q,mn before 31=q:=⟨_,rfl⟩;obtain⟨r,hr⟩:∃r,mn l.length 31=r:=⟨_,rfl⟩;have bp:=mn_nat (onesL l);have bq:=mn_nat before;have br:=mn_nat l.length;rw[hp] at R0 bp;rw[hq] at R1 bq;rw[hr] at R2 br;have bp:0≤p∧p≤31:=by omega
 have bq:0≤q∧q≤31:=by omega
 have br:0≤r∧r≤31:=by omega
 have HP:=Lib.hid hp;have HQ:=Lib.hid hq;have HRR:=Lib.hid hr;clear hp hq hr ho
 go_wp2_with fail
 refine(least_calls (onesL l) _).mono ?_;rintro e w3 ⟨rfl,hb⟩;rw[HP.out];have n0:=Z_ (blk_below YA.out hb);have n9:=Z_ (below_step YW.out hb);clear YA YW hb;have YA:=n0;have YW:=n9;clear n0 n9
 go_wp2_with fail
 refine(least_calls before _).mono ?_;rintro e w4 ⟨rfl,hb⟩;rw[HQ.out];have n0:=Z_ (blk_below YA.out hb);have n9:=Z_ (below_step YW.out hb);clear YA YW hb;have YA:=n0;have YW:=n9;clear n0 n9
 go_wp2_with fail
 refine(least_calls l.length _).mono ?_;rintro e w5 ⟨rfl,hb⟩;rw[HRR.out];have n0:=Z_ (blk_below YA.out hb);have n9:=Z_ (below_step YW.out hb);clear YA YW hb;have YA:=n0;have YW:=n9;clear n0 n9;have hne:w.heap.size<w5.heap.size:=blk_lt YA.out;have YD:=Z_ (blk_new w5 (.cells #[.int .i64 p,.int .i64 (2*q),.int .i64 r] 81));have ZA:=Z_ (blk_alloc YA.out (.cells #[.int .i64 p,.int .i64 (2*q),.int .i64 (r+32)] 81));have mZ:=blk_cell YD.out 0;have ng:=blk_cell YD.out 1;have ni:=blk_cell YD.out 2;simp at mZ ng ni;have df:=blk_frozen YD.out;have dl:=blk_lt YD.out;have vM:=blk_cell ZA.out 0;have vN:=blk_cell ZA.out 1;have vO:=blk_cell ZA.out 2;simp at vM vN vO;have ef:=blk_frozen ZA.out;have el:=blk_lt ZA.out;have hlz:(0:Int)<l.length:=by omega
 obtain⟨ad,e_,hx_⟩:=Kd.at_int (Kd.C_below cO.out (below_alloc YW.out (.cells #[.int .i64 p,.int .i64 (2*q),.int .i64 r] 81))) ((l.length:Int) - 1) (by omega) (by omega)
 cases e_
 have hrd:rd l ((l.length:Int) - 1)=1:=by
  unfold rd;rw[show((l.length:Int) - 1).toNat=l.length - 1 by omega];exact hy
 rw[hrd,show((l.length:Int) - 1).toNat=l.length - 1 by omega] at hx_;have g1:(0:Int)≤(l.length:Int) - 1:=by omega
 have g2:(l.length:Int) - 1<l.length:=by omega
 clear hrd;have ONE_:Hid ((#[.int .i64 p,.int .i64 (2*q),.int .i64 (r+32)]:Array Value).all (·.oneCell')=true):=by show _=_;simp[Value.oneCell']
 have TH:Hid ((w5.alloc (.cells #[.int .i64 p,.int .i64 (2*q),.int .i64 (r+32)] 81)).there w.heap.size 0 3):=there_blk (vs:= [.int .i64 0,.int .i64 0,.int .i64 0]) ZA.out 0 3 (by decide)
 go_wp2_with ((with_reducible refine gate_store (t:=81) (p:=4) rfl ?_);refine wpList_store_mid rfl 81 _ _ rfl w.heap.size 0 #[.int .i64 p,.int .i64 (2*q),.int .i64 (r+32)] rfl rfl TH.out (by kernel_rfl) ONE_.out ?_)
 have h1:=setCells_all (vs:=(#[.int .i64 p,.int .i64 (2*q),.int .i64 (r+32)]:Array Value).toList) (old:= [.int .i64 0,.int .i64 0,.int .i64 0]) ZA.out rfl;have h2:=below_setCells (below_alloc YW.out (.cells #[.int .i64 p,.int .i64 (2*q),.int .i64 (r+32)] 81)) (Nat.le_refl _) (#[.int .i64 p,.int .i64 (2*q),.int .i64 (r+32)]:Array Value).toList 0;refine bodyPost_ret (results_ct rfl _ _ w.heap.size 81 #[.int .i64 p,.int .i64 (2*q),.int .i64 (r+32)] (0,0) _ rfl h1 Tryz.underlying81 rfl (by kernel_rfl)) rfl ⟨?_,h2⟩;rw[R0.out,R1.out,R2.out];rfl
theorem ctx_f2(A0:Option Addr)(c0:Nat)(l:List Int)(before:Nat)(w:World)(hr0:Kd.C (Kd.int .i64) w A0 l.length l)(hc0:l.length≤c0)(hl:l.length≤63)(hb0:before≤63)(hbits:l.any ctxOdd=false)(hz:zeroL l=false)(h0:0<l.length)(hy:¬l.getD (l.length - 1) 0=1):
  Calls Tryz.prog 132 #[.int .i64 before,.slice A0 l.length c0] w fun e w'=>e= .returned (.tuple #[.agg #[.int .i64 (cx0 l),.int .i64 (cx1 before l),.int .i64 (cx2 l)],.int .i64 0])∧Below w.heap.size w w':=by
 have lh:=Tryz.underlying81;have R0:Hid ((cx0 l:Int)=mn (onesL l) 31):=by show _=_;have:=mn_nat (onesL l);unfold cx0;rw[hz];rw[if_neg (by decide)];omega
 have R1:Hid ((cx1 before l:Int)=2*mn before 31):=by show _=_;have:=mn_nat before;unfold cx1;rw[hz];rw[if_neg (by decide)];omega
 have R2:Hid ((cx2 l:Int)=mn l.length 31):=by show _=_;unfold cx2;have:=mn_nat l.length;rw[if_neg (by rw[last_get l h0];intro e;exact hy (Option.some.inj e))];omega
 have cO:=Z_ hr0;have HB:=Lib.hid hbits;have HZ:=Lib.hid hz;have ho:=onesL_le l;have YA:Aside0 ((w.alloc (.cells #[.int .i64 0,.int .i64 0,.int .i64 0] 81)).heap[w.heap.size]?=some (.cells #[.int .i64 0,.int .i64 0,.int .i64 0] 81 (0,0))):=⟨blk_new w _⟩;have YW:Aside0 (Below w.heap.size w (w.alloc (.cells #[.int .i64 0,.int .i64 0,.int .i64 0] 81))):=⟨below_alloc (Below.refl _ _) _⟩;have hb1:¬(63:Int)<before:=by omega
 have hl1:¬(63:Int)<l.length:=by omega
 clear hr0 hbits hz
 go_enter Tryz.func132,Tryz.ntmps132
 go_wp2_with fail
 generalize w.alloc (.cells #[.int .i64 0,.int .i64 0,.int .i64 0] 81)=W at YA YW ⊢;refine(ctxAny_calls A0 c0 l _ (Kd.C_below cO.out YW.out) (by omega)).mono ?_;rintro e w1 ⟨rfl,⟨nd,rfl⟩⟩;rw[HB.out];have n0:=Z_ (blk_drewN YA.out nd);have n9:=Z_ (pw_below_drewN YW.out nd);clear YA YW;have YA:=n0;have YW:=n9;clear n0 n9;generalize World.drewN _ _=w1 at YA YW ⊢
 go_wp2_with fail
 refine(ones_calls A0 c0 l _ (Kd.C_below cO.out YW.out) hc0 (by omega)).mono ?_;rintro e w2 ⟨rfl,⟨lN,rfl⟩⟩;rw[HZ.out];have n0:=Z_ (blk_drewN YA.out lN);have n9:=Z_ (pw_below_drewN YW.out lN);clear YA YW;have YA:=n0;have YW:=n9;clear n0 n9;generalize World.drewN _ _=w2 at YA YW ⊢;obtain⟨p,hp⟩:∃p,mn (onesL l) 31=p:=⟨_,rfl⟩;obtain⟨q,hq⟩:∃q,mn before 31=q:=⟨_,rfl⟩;obtain⟨r,hr⟩:∃r,mn l.length 31=r:=⟨_,rfl⟩;have bp:=mn_nat (onesL l);have bq:=mn_nat before;have br:=mn_nat l.length;rw[hp] at R0 bp;rw[hq] at R1 bq;rw[hr] at R2 br;have bp:0≤p∧p≤31:=by omega
 have bq:0≤q∧q≤31:=by omega
 have br:0≤r∧r≤31:=by omega
 have HP:=Lib.hid hp;have HQ:=Lib.hid hq;have HRR:=Lib.hid hr;clear hp hq hr ho
 go_wp2_with fail
 refine(least_calls (onesL l) _).mono ?_;rintro e w3 ⟨rfl,hb⟩;rw[HP.out];have n0:=Z_ (blk_below YA.out hb);have n9:=Z_ (below_step YW.out hb);clear YA YW hb;have YA:=n0;have YW:=n9;clear n0 n9
 go_wp2_with fail
 refine(least_calls before _).mono ?_;rintro e w4 ⟨rfl,hb⟩;rw[HQ.out];have n0:=Z_ (blk_below YA.out hb);have n9:=Z_ (below_step YW.out hb);clear YA YW hb;have YA:=n0;have YW:=n9;clear n0 n9
 go_wp2_with fail
 refine(least_calls l.length _).mono ?_;rintro e w5 ⟨rfl,hb⟩;rw[HRR.out];have n0:=Z_ (blk_below YA.out hb);have n9:=Z_ (below_step YW.out hb);clear YA YW hb;have YA:=n0;have YW:=n9;clear n0 n9;have hne:w.heap.size<w5.heap.size:=blk_lt YA.out;have YD:=Z_ (blk_new w5 (.cells #[.int .i64 p,.int .i64 (2*q),.int .i64 r] 81));have ZA:=Z_ (blk_alloc YA.out (.cells #[.int .i64 p,.int .i64 (2*q),.int .i64 r] 81));have mZ:=blk_cell YD.out 0;have ng:=blk_cell YD.out 1;have ni:=blk_cell YD.out 2;simp at mZ ng ni;have df:=blk_frozen YD.out;have dl:=blk_lt YD.out;have vM:=blk_cell ZA.out 0;have vN:=blk_cell ZA.out 1;have vO:=blk_cell ZA.out 2;simp at vM vN vO;have ef:=blk_frozen ZA.out;have el:=blk_lt ZA.out;have hlz:(0:Int)<l.length:=by omega
 obtain⟨y,hy2⟩:∃y,l.getD (l.length - 1) 0=y:=⟨_,rfl⟩;rw[hy2] at hy;have hyb:(y==1)=false:=beq_eq_false_iff_ne.mpr hy;obtain⟨ad,e_,hx_⟩:=Kd.at_int (Kd.C_below cO.out (below_alloc YW.out (.cells #[.int .i64 p,.int .i64 (2*q),.int .i64 r] 81))) ((l.length:Int) - 1) (by omega) (by omega)
 cases e_
 have hrd:rd l ((l.length:Int) - 1)=y:=by
  unfold rd;rw[show((l.length:Int) - 1).toNat=l.length - 1 by omega];exact hy2
 rw[hrd,show((l.length:Int) - 1).toNat=l.length - 1 by omega] at hx_;have g1:(0:Int)≤(l.length:Int) - 1:=by omega
 have g2:(l.length:Int) - 1<l.length:=by omega
 clear hrd hy2 hy;have ONE_:Hid ((#[.int .i64 p,.int .i64 (2*q),.int .i64 r]:Array Value).all (·.oneCell')=true):=by show _=_;simp[Value.oneCell']
 have TH:Hid ((w5.alloc (.cells #[.int .i64 p,.int .i64 (2*q),.int .i64 r] 81)).there w.heap.size 0 3):=there_blk (vs:= [.int .i64 0,.int .i64 0,.int .i64 0]) ZA.out 0 3 (by decide)
 go_wp2_with ((with_reducible refine gate_store (t:=81) (p:=4) rfl ?_);refine wpList_store_mid rfl 81 _ _ rfl w.heap.size 0 #[.int .i64 p,.int .i64 (2*q),.int .i64 r] rfl rfl TH.out (by kernel_rfl) ONE_.out ?_)
 have h1:=setCells_all (vs:=(#[.int .i64 p,.int .i64 (2*q),.int .i64 r]:Array Value).toList) (old:= [.int .i64 0,.int .i64 0,.int .i64 0]) ZA.out rfl;have h2:=below_setCells (below_alloc YW.out (.cells #[.int .i64 p,.int .i64 (2*q),.int .i64 r] 81)) (Nat.le_refl _) (#[.int .i64 p,.int .i64 (2*q),.int .i64 r]:Array Value).toList 0;refine bodyPost_ret (results_ct rfl _ _ w.heap.size 81 #[.int .i64 p,.int .i64 (2*q),.int .i64 r] (0,0) _ rfl h1 Tryz.underlying81 rfl (by kernel_rfl)) rfl ⟨?_,h2⟩;rw[R0.out,R1.out,R2.out];rfl
theorem ctx_calls(A0:Option Addr)(c0:Nat)(l:List Int)(before:Nat)(w:World)(hr0:Kd.C (Kd.int .i64) w A0 l.length l)(hc0:l.length≤c0)(hl:l.length≤63)(hb0:before≤63)(hbits:l.any ctxOdd=false):
  Calls Tryz.prog 132 #[.int .i64 before,.slice A0 l.length c0] w fun e w'=>e= .returned (.tuple #[.agg #[.int .i64 (cx0 l),.int .i64 (cx1 before l),.int .i64 (cx2 l)],.int .i64 0])∧Below w.heap.size w w':=by
 by_cases h0:l.length=0
 ·cases hz:zeroL l with
  |true=>exact ctx_t0 A0 c0 l before w hr0 hc0 hl hb0 hbits hz h0
  |false=>exact ctx_f0 A0 c0 l before w hr0 hc0 hl hb0 hbits hz h0
 ·have h0':0<l.length:=by omega
  by_cases hy:l.getD (l.length - 1) 0=1
  ·cases hz:zeroL l with
   |true=>exact ctx_t1 A0 c0 l before w hr0 hc0 hl hb0 hbits hz h0' hy
   |false=>exact ctx_f1 A0 c0 l before w hr0 hc0 hl hb0 hbits hz h0' hy
  ·cases hz:zeroL l with
   |true=>exact ctx_t2 A0 c0 l before w hr0 hc0 hl hb0 hbits hz h0' hy
   |false=>exact ctx_f2 A0 c0 l before w hr0 hc0 hl hb0 hbits hz h0' hy
namespace Cd
def may(lo hi:Int)(out:ByteArray):Bool:=decide (0≤lo∧hi≤4294967295∧lo / 16777216<hi / 16777216∧out.size≤65536)
def chance(p:Int):Bool:=decide (1≤p∧p≤4095)
def mid(lo hi p:Int):Int:=lo+(hi - lo) / 4096*p+(hi - lo)%4096*p / 4096
def sh:Nat→Int→Int→ByteArray→Int×Int×ByteArray
 |0,lo,hi,out=>(lo,hi,out)
 |n+1,lo,hi,out=>if lo / 16777216=hi / 16777216 then sh n (lo*256%4294967296) (hi*256%4294967296+255) (out++strOfNums [lo / 16777216%256]) else(lo,hi,out)
def fin(r:Int×Int×ByteArray):Int×Int×ByteArray×Int:=if r.2.2.size≤65536 then(r.1,r.2.1,r.2.2,0) else(0,0,⟨#[]⟩,400)
def bad:Int×Int×ByteArray×Int:=(0,0,⟨#[]⟩,400)
def bit(lo hi:Int)(out:ByteArray)(b p:Int):Int×Int×ByteArray×Int:=
 if may lo hi out=true∧(b=0∨b=1)∧chance p=true then fin (if b=1 then sh 4 lo (mid lo hi p) out else sh 4 (mid lo hi p+1) hi out) else bad
def four(lo:Int):List Int:= [lo / 16777216%256,lo / 65536%256,lo / 256%256,lo%256]
def Inv(d:Nat)(lo hi:Int):Prop:=
 d≤4∧0≤lo∧lo≤4294967295∧0≤hi∧hi≤4294967295∧(d≤3→lo%256=0∧hi%256=255)∧(d≤2→lo%65536=0∧hi%65536=65535)∧
 (d≤1→lo%16777216=0∧hi%16777216=16777215)∧(d=0→lo=0∧hi=4294967295)
theorem Inv.start{lo hi:Int}(h1:0≤lo)(h2:lo≤4294967295)(h3:0≤hi)(h4:hi≤4294967295):Inv 4 lo hi:=
 ⟨by omega,h1,h2,h3,h4,by omega,by omega,by omega,by omega⟩
theorem Inv.next{d:Nat}{lo hi:Int}(h:Inv (d+1) lo hi)(_:lo / 16777216=hi / 16777216):Inv d (lo*256%4294967296) (hi*256%4294967296+255):=by
 obtain⟨h1,h2,h3,h4,h5,h6,h7,h8,h9⟩:=h;refine⟨by omega,by omega,by omega,by omega,by omega,?_,?_,?_,?_⟩
 ·intro _;omega
 ·intro hd;have:=h6 (by omega);omega
 ·intro hd;have:=h7 (by omega);omega
 ·intro hd;have:=h8 (by omega);omega
theorem Inv.zero{lo hi:Int}(h:Inv 0 lo hi):¬lo / 16777216=hi / 16777216:=by
 obtain⟨h1,h2,h3,h4,h5,h6,h7,h8,h9⟩:=h;have:=h9 rfl;omega
theorem Inv.stop{d:Nat}{lo hi:Int}(_:Inv d lo hi)(out:ByteArray)(hn:¬lo / 16777216=hi / 16777216):sh d lo hi out=(lo,hi,out):=by
 cases d with
 |zero=>rfl
 |succ d=>simp only[sh];rw[if_neg hn]
theorem mid_lo{lo hi p:Int}(h:lo≤hi)(hp:0≤p):lo≤mid lo hi p:=by
 unfold mid;have h1:0≤(hi - lo) / 4096*p:=Int.mul_nonneg (by omega) hp;have h2:0≤(hi - lo)%4096*p:=Int.mul_nonneg (by omega) hp;omega
theorem mid_hi{lo hi p:Int}(h:lo<hi)(hp:0≤p)(hp2:p≤4095):mid lo hi p<hi:=by
 unfold mid;have h1:(hi - lo) / 4096*p≤(hi - lo) / 4096*4095:=Int.mul_le_mul_of_nonneg_left hp2 (by omega);have h2:(hi - lo)%4096*p≤(hi - lo)%4096*4095:=Int.mul_le_mul_of_nonneg_left hp2 (by omega);have h3:0≤(hi - lo)%4096*p:=Int.mul_nonneg (by omega) hp;omega
theorem mid_parts{lo hi p:Int}(h0:0≤lo)(h:lo<hi)(h2:hi≤4294967295)(hp:0≤p)(hp2:p≤4095):
  0≤(hi - lo) / 4096*p∧(hi - lo) / 4096*p≤4294967295∧0≤(hi - lo)%4096*p∧(hi - lo)%4096*p≤16777216:=by
 have h1:(hi - lo) / 4096*p≤(hi - lo) / 4096*4095:=Int.mul_le_mul_of_nonneg_left hp2 (by omega);have h2':(hi - lo)%4096*p≤(hi - lo)%4096*4095:=Int.mul_le_mul_of_nonneg_left hp2 (by omega);exact⟨Int.mul_nonneg (by omega) hp,by omega,Int.mul_nonneg (by omega) hp,by omega⟩
end Cd
theorem may_some(lo hi:Int)(out:ByteArray):coder_May.f lo hi out=some (Cd.may lo hi out):=by
 unfold coder_May.f coder_Ends.f Cd.may
 by_cases h1:lo≥0
 ·rw[if_pos h1]
  by_cases h2:hi≤4294967295
  ·rw[if_pos h2]
   by_cases h3:hi / 16777216>lo / 16777216
   ·rw[dt_ h3,bs_,if_pos rfl]
    congr 1
    rw[decide_eq_decide];exact⟨fun h=>⟨h1,h2,h3,by omega⟩,fun h=>by have:=h.2.2.2;omega⟩
   ·simp[h3]
  ·rw[if_neg h2];have:¬(0≤lo∧hi≤4294967295∧lo / 16777216<hi / 16777216∧out.size≤65536):=by omega
   simp[this]
 ·rw[if_neg h1];have:¬(0≤lo∧hi≤4294967295∧lo / 16777216<hi / 16777216∧out.size≤65536):=by omega
  simp[this]
theorem chance_some(p:Int):coder_Chance.f p=some (Cd.chance p):=by
 unfold coder_Chance.f Cd.chance
 by_cases h:p≥1
 ·rw[if_pos h];congr 1;rw[decide_eq_decide];omega
 ·rw[if_neg h];congr 1;symm;rw[decide_eq_false_iff_not];omega
theorem info23:(Tryz.prog.info? 88).map (·.size)=some 3:=by kernel_rfl
def box(lo hi:Int)(out:ByteArray):Obj:= .cells #[.int .i64 lo,.int .i64 hi,.string out] 88 (0,0)
theorem below_two{w w1:World}{A B:Obj}(hb:Below ((w.alloc A).alloc B).heap.size ((w.alloc A).alloc B) w1):Below w.heap.size w w1:=
 (((Below.refl _ _).alloc (Nat.le_refl _) A).alloc (by simp) B).trans (hb.mono (by simp;omega))
theorem gone_calls(x y:Int)(w:World):Calls Tryz.prog 136 #[.int .i64 x,.int .i64 y] w fun e w'=>e= .returned (.bool (x / 16777216==y / 16777216))∧w=w':=by
 go_enter Tryz.func136,Tryz.ntmps136
 go_wp2;go_ret;exact⟨rfl,rfl⟩
theorem chance_calls(p:Int)(c:Bool)(w:World)(h:coder_Chance.f p=some c):Calls Tryz.prog 134 #[.int .i64 p] w fun e w'=>e= .returned (.bool c)∧w=w':=by
 unfold coder_Chance.f at h
 by_cases h1:p≥1
 ·rw[if_pos h1] at h;obtain rfl:=Option.some.inj h;clear h
  go_enter Tryz.func134,Tryz.ntmps134
  go_wp2;go_ret;exact⟨by simp,rfl⟩
 ·rw[if_neg h1] at h;obtain rfl:=Option.some.inj h;clear h;have h1':p<1:=by omega
  go_enter Tryz.func134,Tryz.ntmps134
  go_wp2;go_ret;exact⟨by simp,rfl⟩
theorem up_calls(x y:Int)(w:World):Calls Tryz.prog 137 #[.int .i64 x,.int .i64 y] w fun e w'=>e= .returned (.int .i64 (Go.bits .or .i64 (Go.bits .and .i64 (wrap64 (x*256)) 4294967295) y))∧w=w':=by
 go_enter Tryz.func137,Tryz.ntmps137
 go_wp2;go_ret;exact⟨rfl,rfl⟩
theorem and64(a b:Nat)(ha:a<9223372036854775808)(hb:b<9223372036854775808):Go.bits .and .i64 (a:Int) (b:Int)=((a &&& b:Nat):Int):=(bits_nat .i64 63 (by decide) wi64 a b ha hb).1
theorem or64(a b:Nat)(ha:a<9223372036854775808)(hb:b<9223372036854775808):Go.bits .or .i64 (a:Int) (b:Int)=((a ||| b:Nat):Int):=(bits_nat .i64 63 (by decide) wi64 a b ha hb).2
theorem up_lo(x:Int)(h0:0≤x)(h1:x≤4294967295):Go.bits .or .i64 (Go.bits .and .i64 (wrap64 (x*256)) 4294967295) 0=x*256%4294967296:=by
 obtain⟨n,rfl⟩:=Int.eq_ofNat_of_zero_le h0;have hw:wrap64 ((n:Int)*256)=((n*256:Nat):Int):=by unfold wrap64;omega
 have ha:=and64 (n*256) 4294967295 (by omega) (by omega);rw[Nat.and_two_pow_sub_one_eq_mod _ 32] at ha;rw[hw];have ha':Go.bits .and .i64 ((n*256:Nat):Int) 4294967295=((n*256%2 ^ 32:Nat):Int):=ha;rw[ha'];have ho:=or64 (n*256%2 ^ 32) 0 (by omega) (by omega);rw[Nat.or_zero] at ho;have ho':Go.bits .or .i64 ((n*256%2 ^ 32:Nat):Int) 0=((n*256%2 ^ 32:Nat):Int):=ho;rw[ho'];omega
theorem up_hi(x:Int)(h0:0≤x)(h1:x≤4294967295):Go.bits .or .i64 (Go.bits .and .i64 (wrap64 (x*256)) 4294967295) 255=x*256%4294967296+255:=by
 obtain⟨n,rfl⟩:=Int.eq_ofNat_of_zero_le h0;have hw:wrap64 ((n:Int)*256)=((n*256:Nat):Int):=by unfold wrap64;omega
 have ha:=and64 (n*256) 4294967295 (by omega) (by omega);rw[Nat.and_two_pow_sub_one_eq_mod _ 32] at ha;rw[hw];have ha':Go.bits .and .i64 ((n*256:Nat):Int) 4294967295=((n*256%2 ^ 32:Nat):Int):=ha;rw[ha'];have ho:=or64 (n*256%2 ^ 32) 255 (by omega) (by omega)
 have hj:n*256%2 ^ 32 ||| 255=n*256%2 ^ 32+255:=by
  have h3:=Nat.two_pow_add_eq_or_of_lt (i:=8) (b:=255) (by omega) (n*256%2 ^ 32 / 256);have h4:2 ^ 8*(n*256%2 ^ 32 / 256)=n*256%2 ^ 32:=by omega
  rw[h4] at h3;exact h3.symm
 rw[hj] at ho;have ho':Go.bits .or .i64 ((n*256%2 ^ 32:Nat):Int) 255=((n*256%2 ^ 32+255:Nat):Int):=ho;rw[ho'];omega
theorem conv_one(W:World)(x:Int):(convert 27 9 (.slice (some ⟨W.heap.size,0,none⟩) 1 1)).run Tryz.prog (W.alloc (.cells #[.int .u8 x] 5))= .ok (.string (strOfNums [x])) (W.alloc (.cells #[.int .u8 x] 5)):=
 run_convert_bytes_arg (W.alloc (.cells #[.int .u8 x] 5)) 27 5 Tryz.underlying27 Tryz.underlying5 W.heap.size 0 1 1 [x] rfl (fun i hi=>by
  obtain rfl:i=0:=by omega
  exact blk_cell (blk_new W _) 0) 9 Tryz.underlying9
def resV(r:Int×Int×ByteArray×Int):Value:= .tuple #[.agg #[.int .i64 r.1,.int .i64 r.2.1,.string r.2.2.1],.int .i64 r.2.2.2]
theorem bit_one(lo hi:Int)(out:ByteArray)(p:Int)(w:World)(hm:Cd.may lo hi out=true)(hp:Cd.chance p=true)(m:Int)(hmid:coder_Middle.f lo hi p=some m)(hm0:lo≤m)(hm1:m<hi):
  Calls Tryz.prog 108 #[.agg #[.int .i64 lo,.int .i64 hi,.string out],.int .i64 1,.int .i64 p] w fun e w'=>e= .returned (resV (Cd.fin (Cd.sh 4 lo m out)))∧Below w.heap.size w w':=by
 have fH:=Tryz.underlying88;have HM:=Lib.hid (may_some lo hi out);rw[hm] at HM;have HC:=Lib.hid (chance_some p);rw[hp] at HC;have HD:=Lib.hid hmid
 have HB:0≤lo∧hi≤4294967295∧out.size≤65536:=by
  have:=od_ hm;exact⟨this.1,this.2.1,this.2.2.2⟩
 clear hm hp hmid;obtain⟨hl0,hh0,ho0⟩:=HB
 go_enter Tryz.func108,Tryz.ntmps108
 go_wp2_with (first
  |(go_at_call 78;refine(coder_May.calls lo hi out _ _ HM.out).mono ?_;rintro e w1 ⟨rfl,hb⟩;obtain⟨hc,hf⟩:=bcell hb)
  |(go_at_call 134;refine(chance_calls p _ _ HC.out).mono ?_;rintro e w2 ⟨rfl,rfl⟩)
  |(go_at_call 135;refine(coder_Middle.calls lo hi p m _ HD.out).mono ?_;rintro e w3 ⟨rfl,⟨nd,rfl⟩⟩))
 have hg3:=hb.block w.heap.size (by simp;omega);rw[heap_alloc2_old] at hg3;have rD:=hb.block (w.heap.size+1) (by simp);rw[heap_alloc2_new] at rD;have hgb:Below w.heap.size w ((w1.drewN nd).setCell ⟨w.heap.size,1,none⟩ (.int .i64 m)):=below_set (pw_below_drewN (below_two hb) nd) (Nat.le_refl _);have A3:Aside0 (((w1.drewN nd).setCell ⟨w.heap.size,1,none⟩ (.int .i64 m)).heap[w.heap.size]?=some (box lo m out)):=⟨blk_put (blk_drewN hg3 nd) 1 _ rfl⟩;have A6:Aside0 (((w1.drewN nd).setCell ⟨w.heap.size,1,none⟩ (.int .i64 m)).heap[w.heap.size+1]?=some (box 0 0 ⟨#[]⟩)):=⟨blk_far (blk_drewN rD nd) (p:=⟨w.heap.size,1,none⟩) (by simp) _⟩;have AB:=Z_ hgb;have hrs:Cd.Inv 4 lo m:=Cd.Inv.start (by omega) (by omega) (by omega) (by omega);have AI:=Z_ hrs;clear hg3 rD hgb hrs hc hf hb;generalize ((w1.drewN nd).setCell ⟨w.heap.size,1,none⟩ (.int .i64 m))=wx at A3 A6 AB ⊢
 go_loopg [] 4 (fun d wr=>∃(l h:Int) (o:ByteArray),Aside0 (Cd.Inv d l h)∧Aside0 (Cd.sh d l h o=Cd.sh 4 lo m out)∧Aside0 (o.size+d≤65540)∧Aside0 (wr.heap[w.heap.size]?=some (box l h o))∧Aside0 (wr.heap[w.heap.size+1]?=some (box 0 0 ⟨#[]⟩))∧Aside0 (Below w.heap.size w wr))
 case atStart=>exact⟨lo,m,out,AI,⟨rfl⟩,⟨by omega⟩,A3,A6,AB⟩
 case round=>
  clear A3 A6 AB AI;obtain⟨l,h,o,AI,AS,AO,A3,A6,AB⟩:=hrel;have c0:wr.cell? ⟨w.heap.size,0,none⟩=some (.int .i64 l):=blk_cell A3.out 0;have c1:wr.cell? ⟨w.heap.size,1,none⟩=some (.int .i64 h):=blk_cell A3.out 1;have c2:wr.cell? ⟨w.heap.size,2,none⟩=some (.string o):=blk_cell A3.out 2;have l3:=blk_lt A3.out;have l6:=blk_lt A6.out;have f0:=blk_frozen A3.out 0;have f1:=blk_frozen A3.out 1;have f2:=blk_frozen A3.out 2
  by_cases hgone:l / 16777216=h / 16777216
  ·cases gk with
   |zero=>exact absurd hgone AI.out.zero
   |succ d=>
    have heq:(l / 16777216==h / 16777216)=true:=beq_iff_eq.2 hgone;have AN:=Z_ (AI.out.next hgone);have AG:=Z_ hgone;have hcv:=conv_one;have hz:(strOfNums [l / 16777216%256]).size=1:=strOfNums_size _;have hos:=AO.out;clear hgone
    go_wp2_with (first|(go_at_call 136;refine(gone_calls l h _).mono ?_;rintro e w2 ⟨rfl,rfl⟩))
    have hul:=up_lo l AI.out.2.1 AI.out.2.2.1;have hur:=up_hi h AI.out.2.2.2.1 AI.out.2.2.2.2.1
    go_region_with (go_at_call 137;refine(up_calls _ _ _).mono ?_;rintro e w2 ⟨rfl,rfl⟩)
    all_goals
     go_wp2
     go_roundg d
     case measure=>omega
     case rel=>
      have hne:w.heap.size+1≠w.heap.size:=by omega
      have hle:=Nat.le_refl w.heap.size;refine⟨l*256%4294967296,h*256%4294967296+255,o++strOfNums [l / 16777216%256],AN,⟨?_⟩,⟨?_⟩,⟨?_⟩,⟨?_⟩,⟨?_⟩⟩
      ·have:=AS.out;simp only[Cd.sh] at this;rw[if_pos AG.out] at this;exact this
      ·rw[ByteArray.size_append,hz];omega
      ·refine blk_drew (blk_alloc ?_ _)
       first|exact blk_set (blk_set (blk_set A3.out 2 _) 0 _) 1 _|exact blk_set (blk_set (blk_set A3.out 2 _) 1 _) 0 _
      ·exact blk_drew (blk_alloc (blk_far (p:=⟨w.heap.size,_,none⟩) (blk_far (p:=⟨w.heap.size,_,none⟩) (blk_far (p:=⟨w.heap.size,_,none⟩) A6.out hne _) hne _) hne _) _)
      ·exact below_drew1 (below_alloc (below_set (below_set (below_set AB.out hle) hle) hle) _)
  ·have hne:(l / 16777216==h / 16777216)=false:=beq_eq_false_iff_ne.2 hgone;have AE:=AS.out;rw[AI.out.stop o hgone] at AE;clear hgone
   by_cases hs:o.size≤65536
   ·have hfin:Cd.fin (Cd.sh 4 lo m out)=(l,h,o,0):=by rw[←AE];unfold Cd.fin;rw[if_pos hs]
    have HF:=Lib.hid hfin;have hs':¬65536<o.size:=by omega
    clear AE hfin;have f6:=blk_frozen A6.out;have d0:wr.cell? ⟨w.heap.size+1,0,none⟩=some (.int .i64 0):=blk_cell A6.out 0;have d1:wr.cell? ⟨w.heap.size+1,1,none⟩=some (.int .i64 0):=blk_cell A6.out 1;have d2:wr.cell? ⟨w.heap.size+1,2,none⟩=some (.string ⟨#[]⟩):=blk_cell A6.out 2
    go_wp2_with (first|(go_at_call 136;refine(gone_calls l h _).mono ?_;rintro e w2 ⟨rfl,rfl⟩))
    refine bodyPost_ret (results_ct rfl _ _ (w.heap.size+1) 88 #[.int .i64 l,.int .i64 h,.string o] (0,0) _ rfl (blk_set (blk_set (blk_set A6.out 0 _) 1 _) 2 _) Tryz.underlying88 rfl info23) rfl ⟨by rw[HF.out];rfl,?_⟩;exact below_set (below_set (below_set AB.out (by omega)) (by omega)) (by omega)
   ·have hfin:Cd.fin (Cd.sh 4 lo m out)=(0,0,⟨#[]⟩,400):=by rw[←AE];unfold Cd.fin;rw[if_neg hs]
    have HF:=Lib.hid hfin;have hs':65536<o.size:=by omega
    clear AE hfin;have f6:=blk_frozen A6.out;have d0:wr.cell? ⟨w.heap.size+1,0,none⟩=some (.int .i64 0):=blk_cell A6.out 0;have d1:wr.cell? ⟨w.heap.size+1,1,none⟩=some (.int .i64 0):=blk_cell A6.out 1;have d2:wr.cell? ⟨w.heap.size+1,2,none⟩=some (.string ⟨#[]⟩):=blk_cell A6.out 2
    go_wp2_with (first|(go_at_call 136;refine(gone_calls l h _).mono ?_;rintro e w2 ⟨rfl,rfl⟩))
    refine bodyPost_ret (results_ct rfl _ _ (w.heap.size+1) 88 #[.int .i64 0,.int .i64 0,.string ⟨#[]⟩] (0,0) _ rfl (blk_set (blk_set (blk_set A6.out 0 _) 1 _) 2 _) Tryz.underlying88 rfl info23) rfl ⟨by rw[HF.out];rfl,?_⟩;exact below_set (below_set (below_set AB.out (by omega)) (by omega)) (by omega)
theorem bit_zero(lo hi:Int)(out:ByteArray)(p:Int)(w:World)(hm:Cd.may lo hi out=true)(hp:Cd.chance p=true)(m:Int)(hmid:coder_Middle.f lo hi p=some m)(hm0:lo≤m)(hm1:m<hi):
  Calls Tryz.prog 108 #[.agg #[.int .i64 lo,.int .i64 hi,.string out],.int .i64 0,.int .i64 p] w fun e w'=>e= .returned (resV (Cd.fin (Cd.sh 4 (m+1) hi out)))∧Below w.heap.size w w':=by
 have fH:=Tryz.underlying88;have HM:=Lib.hid (may_some lo hi out);rw[hm] at HM;have HC:=Lib.hid (chance_some p);rw[hp] at HC;have HD:=Lib.hid hmid
 have HB:0≤lo∧hi≤4294967295∧out.size≤65536:=by
  have:=od_ hm;exact⟨this.1,this.2.1,this.2.2.2⟩
 clear hm hp hmid;obtain⟨hl0,hh0,ho0⟩:=HB
 go_enter Tryz.func108,Tryz.ntmps108
 go_wp2_with (first
  |(go_at_call 78;refine(coder_May.calls lo hi out _ _ HM.out).mono ?_;rintro e w1 ⟨rfl,hb⟩;obtain⟨hc,hf⟩:=bcell hb)
  |(go_at_call 134;refine(chance_calls p _ _ HC.out).mono ?_;rintro e w2 ⟨rfl,rfl⟩)
  |(go_at_call 135;refine(coder_Middle.calls lo hi p m _ HD.out).mono ?_;rintro e w3 ⟨rfl,⟨nd,rfl⟩⟩))
 have hg3:=hb.block w.heap.size (by simp;omega);rw[heap_alloc2_old] at hg3;have rD:=hb.block (w.heap.size+1) (by simp);rw[heap_alloc2_new] at rD;have hgb:Below w.heap.size w ((w1.drewN nd).setCell ⟨w.heap.size,0,none⟩ (.int .i64 (m+1))):=below_set (pw_below_drewN (below_two hb) nd) (Nat.le_refl _);have A3:Aside0 (((w1.drewN nd).setCell ⟨w.heap.size,0,none⟩ (.int .i64 (m+1))).heap[w.heap.size]?=some (box (m+1) hi out)):=⟨blk_put (blk_drewN hg3 nd) 0 _ rfl⟩;have A6:Aside0 (((w1.drewN nd).setCell ⟨w.heap.size,0,none⟩ (.int .i64 (m+1))).heap[w.heap.size+1]?=some (box 0 0 ⟨#[]⟩)):=⟨blk_far (blk_drewN rD nd) (p:=⟨w.heap.size,0,none⟩) (by simp) _⟩;have AB:=Z_ hgb;have hrs:Cd.Inv 4 (m+1) hi:=Cd.Inv.start (by omega) (by omega) (by omega) (by omega);have AI:=Z_ hrs;clear hg3 rD hgb hrs hc hf hb;generalize ((w1.drewN nd).setCell ⟨w.heap.size,0,none⟩ (.int .i64 (m+1)))=wx at A3 A6 AB ⊢
 go_loopg [] 4 (fun d wr=>∃(l h:Int) (o:ByteArray),Aside0 (Cd.Inv d l h)∧Aside0 (Cd.sh d l h o=Cd.sh 4 (m+1) hi out)∧Aside0 (o.size+d≤65540)∧Aside0 (wr.heap[w.heap.size]?=some (box l h o))∧Aside0 (wr.heap[w.heap.size+1]?=some (box 0 0 ⟨#[]⟩))∧Aside0 (Below w.heap.size w wr))
 case atStart=>exact⟨m+1,hi,out,AI,⟨rfl⟩,⟨by omega⟩,A3,A6,AB⟩
 case round=>
  clear A3 A6 AB AI;obtain⟨l,h,o,AI,AS,AO,A3,A6,AB⟩:=hrel;have c0:wr.cell? ⟨w.heap.size,0,none⟩=some (.int .i64 l):=blk_cell A3.out 0;have c1:wr.cell? ⟨w.heap.size,1,none⟩=some (.int .i64 h):=blk_cell A3.out 1;have c2:wr.cell? ⟨w.heap.size,2,none⟩=some (.string o):=blk_cell A3.out 2;have l3:=blk_lt A3.out;have l6:=blk_lt A6.out;have f0:=blk_frozen A3.out 0;have f1:=blk_frozen A3.out 1;have f2:=blk_frozen A3.out 2
  by_cases hgone:l / 16777216=h / 16777216
  ·cases gk with
   |zero=>exact absurd hgone AI.out.zero
   |succ d=>
    have heq:(l / 16777216==h / 16777216)=true:=beq_iff_eq.2 hgone;have AN:=Z_ (AI.out.next hgone);have AG:=Z_ hgone;have hcv:=conv_one;have hz:(strOfNums [l / 16777216%256]).size=1:=strOfNums_size _;have hos:=AO.out;clear hgone
    go_wp2_with (first|(go_at_call 136;refine(gone_calls l h _).mono ?_;rintro e w2 ⟨rfl,rfl⟩))
    have hul:=up_lo l AI.out.2.1 AI.out.2.2.1;have hur:=up_hi h AI.out.2.2.2.1 AI.out.2.2.2.2.1
    go_region_with (go_at_call 137;refine(up_calls _ _ _).mono ?_;rintro e w2 ⟨rfl,rfl⟩)
    all_goals
     go_wp2
     go_roundg d
     case measure=>omega
     case rel=>
      have hne:w.heap.size+1≠w.heap.size:=by omega
      have hle:=Nat.le_refl w.heap.size;refine⟨l*256%4294967296,h*256%4294967296+255,o++strOfNums [l / 16777216%256],AN,⟨?_⟩,⟨?_⟩,⟨?_⟩,⟨?_⟩,⟨?_⟩⟩
      ·have:=AS.out;simp only[Cd.sh] at this;rw[if_pos AG.out] at this;exact this
      ·rw[ByteArray.size_append,hz];omega
      ·refine blk_drew (blk_alloc ?_ _)
       first|exact blk_set (blk_set (blk_set A3.out 2 _) 0 _) 1 _|exact blk_set (blk_set (blk_set A3.out 2 _) 1 _) 0 _
      ·exact blk_drew (blk_alloc (blk_far (p:=⟨w.heap.size,_,none⟩) (blk_far (p:=⟨w.heap.size,_,none⟩) (blk_far (p:=⟨w.heap.size,_,none⟩) A6.out hne _) hne _) hne _) _)
      ·exact below_drew1 (below_alloc (below_set (below_set (below_set AB.out hle) hle) hle) _)
  ·have hne:(l / 16777216==h / 16777216)=false:=beq_eq_false_iff_ne.2 hgone;have AE:=AS.out;rw[AI.out.stop o hgone] at AE;clear hgone
   by_cases hs:o.size≤65536
   ·have hfin:Cd.fin (Cd.sh 4 (m+1) hi out)=(l,h,o,0):=by rw[←AE];unfold Cd.fin;rw[if_pos hs]
    have HF:=Lib.hid hfin;have hs':¬65536<o.size:=by omega
    clear AE hfin;have f6:=blk_frozen A6.out;have d0:wr.cell? ⟨w.heap.size+1,0,none⟩=some (.int .i64 0):=blk_cell A6.out 0;have d1:wr.cell? ⟨w.heap.size+1,1,none⟩=some (.int .i64 0):=blk_cell A6.out 1;have d2:wr.cell? ⟨w.heap.size+1,2,none⟩=some (.string ⟨#[]⟩):=blk_cell A6.out 2
    go_wp2_with (first|(go_at_call 136;refine(gone_calls l h _).mono ?_;rintro e w2 ⟨rfl,rfl⟩))
    refine bodyPost_ret (results_ct rfl _ _ (w.heap.size+1) 88 #[.int .i64 l,.int .i64 h,.string o] (0,0) _ rfl (blk_set (blk_set (blk_set A6.out 0 _) 1 _) 2 _) Tryz.underlying88 rfl info23) rfl ⟨by rw[HF.out];rfl,?_⟩;exact below_set (below_set (below_set AB.out (by omega)) (by omega)) (by omega)
   ·have hfin:Cd.fin (Cd.sh 4 (m+1) hi out)=(0,0,⟨#[]⟩,400):=by rw[←AE];unfold Cd.fin;rw[if_neg hs]
    have HF:=Lib.hid hfin;have hs':65536<o.size:=by omega
    clear AE hfin;have f6:=blk_frozen A6.out;have d0:wr.cell? ⟨w.heap.size+1,0,none⟩=some (.int .i64 0):=blk_cell A6.out 0;have d1:wr.cell? ⟨w.heap.size+1,1,none⟩=some (.int .i64 0):=blk_cell A6.out 1;have d2:wr.cell? ⟨w.heap.size+1,2,none⟩=some (.string ⟨#[]⟩):=blk_cell A6.out 2
    go_wp2_with (first|(go_at_call 136;refine(gone_calls l h _).mono ?_;rintro e w2 ⟨rfl,rfl⟩))
    refine bodyPost_ret (results_ct rfl _ _ (w.heap.size+1) 88 #[.int .i64 0,.int .i64 0,.string ⟨#[]⟩] (0,0) _ rfl (blk_set (blk_set (blk_set A6.out 0 _) 1 _) 2 _) Tryz.underlying88 rfl info23) rfl ⟨by rw[HF.out];rfl,?_⟩;exact below_set (below_set (below_set AB.out (by omega)) (by omega)) (by omega)
theorem middle_some(lo hi p:Int)(h0:0≤lo)(h:lo<hi)(h2:hi≤4294967295)(hp:1≤p)(hp2:p≤4095):coder_Middle.f lo hi p=some (Cd.mid lo hi p):=by
 have hx:=Cd.mid_parts h0 h h2 (by omega) hp2;have hy:=Cd.mid_hi h (by omega) hp2;have hz:=Cd.mid_lo (Int.le_of_lt h) (show 0≤p by omega);unfold coder_Middle.f
 have Ae:∀ {x:Int},-9223372036854775808≤x→x≤9223372036854775807→wrap64 x=x:=by
  intro x a b;unfold wrap64;omega
 have e1:wrap64 (hi - lo)=hi - lo:=Ae (by omega) (by omega);have e2:Int.tdiv (hi - lo) 4096=(hi - lo) / 4096:=Int.tdiv_eq_ediv_of_nonneg (by omega);have e3:Int.tmod (hi - lo) 4096=(hi - lo)%4096:=Int.tmod_eq_emod_of_nonneg (by omega);have e4:wrap64 ((hi - lo) / 4096)=(hi - lo) / 4096:=Ae (by omega) (by omega);rw[e1,e2,e3,e4];clear e1 e2 e3 e4;unfold Cd.mid at hy hz ⊢;generalize (hi - lo) / 4096*p=X at*;generalize (hi - lo)%4096*p=Y at*;have e5:Int.tdiv Y 4096=Y / 4096:=Int.tdiv_eq_ediv_of_nonneg (by omega);rw[Ae (x:=X) (by omega) (by omega),Ae (x:=Y) (by omega) (by omega),e5,Ae (x:=lo+X) (by omega) (by omega),Ae (x:=Y / 4096) (by omega) (by omega),Ae (by omega) (by omega)]
theorem coderBit_calls(lo hi:Int)(out:ByteArray)(b p:Int)(w:World)(hm:Cd.may lo hi out=true)(hp:Cd.chance p=true)(hb:b=0∨b=1):
  Calls Tryz.prog 108 #[.agg #[.int .i64 lo,.int .i64 hi,.string out],.int .i64 b,.int .i64 p] w fun e w'=>e= .returned (resV (Cd.bit lo hi out b p))∧Below w.heap.size w w':=by
 have h1:=od_ hm;have h2:=od_ hp;have hmid:=middle_some lo hi p h1.1 (by omega) h1.2.1 h2.1 h2.2;have m0:lo≤Cd.mid lo hi p:=Cd.mid_lo (by omega) (by omega);have m1:Cd.mid lo hi p<hi:=Cd.mid_hi (by omega) (by omega) h2.2;unfold Cd.bit;rw[if_pos ⟨hm,hb,hp⟩]
 rcases hb with rfl|rfl
 ·rw[if_neg (by decide)];exact bit_zero lo hi out p w hm hp _ hmid m0 m1
 ·rw[if_pos rfl];exact bit_one lo hi out p w hm hp _ hmid m0 m1
def isId(id:ByteArray)(c:S116):Bool:=c.f0.toList==id.toList
theorem isId_calls(x:S116)(g:Nat)(id:ByteArray)(w:World)(hid:w.cell? ⟨g,0,none⟩=some (.string id)):
  Calls Tryz.prog 90 #[.agg #[.string x.f0,.int .i64 x.f1,.int .i64 x.f2],.pointer (some ⟨g,0,none⟩)] w fun e w'=>e= .returned (.bool (isId id x))∧Below w.heap.size w w':=by
 have Bo:=Tryz.underlying116;have hg:g<w.heap.size:=World.block_lt_of_cell? w ⟨g,0,none⟩ hid
 go_enter Tryz.func90,Tryz.ntmps90
 go_wp2;go_ret;exact⟨rfl,below_alloc (Below.refl _ _) _⟩
def idx(id:ByteArray)(l:List S116):Nat:=l.findIdx (isId id)
theorem idx_at{id:ByteArray}{l:List S116}{i:Nat}(hi:i<l.length)(h:isId id (l.getD i z116)=true)(hb:∀j,j<i→isId id (l.getD j z116)=false):idx id l=i:=by
 unfold idx;rw[List.findIdx_eq hi];refine⟨by rwa [gD_,gE_ hi] at h,fun j hj=>?_⟩;have:=hb j hj
 rwa [gD_,gE_ (by omega)] at this
theorem idx_none{id:ByteArray}{l:List S116}(hb:∀j,j<l.length→isId id (l.getD j z116)=false):idx id l=l.length:=by
 unfold idx;rw[List.findIdx_eq_length];intro x hx;obtain⟨j,hj,rfl⟩:=List.getElem_of_mem hx;have:=hb j hj
 rwa [gD_,gE_ hj] at this
def idxI(id:ByteArray)(l:List S116):Int:=if idx id l<l.length then(idx id l:Int) else -1
theorem chIdx_calls(A0:Option Addr)(c0:Nat)(l:List S116)(g:Nat)(id:ByteArray)(w:World)(hr0:Kd.C k116 w A0 l.length l)(hid:w.cell? ⟨g,0,none⟩=some (.string id)):
  Calls Tryz.prog 91 #[.slice A0 l.length c0,.func (.func 90) #[] #[.pointer (some ⟨g,0,none⟩)]] w fun e w'=>e= .returned (.int .i64 (idxI id l))∧Below w.heap.size w w':=by
 have cO:=Z_ hr0;have HID:=Z_ hid;have hl:=hr0.2.1;have Bo:=Tryz.underlying116;clear hr0 hid
 go_enter Tryz.func91,Tryz.ntmps91
 go_wp2
 go_loopg [8] l.length (fun d v8 wr=>∃i:Nat,v8= .int .i64 i∧i+d=l.length∧Aside0 (∀j,j<i→isId id (l.getD j z116)=false)∧Aside0 (Below w.heap.size w wr))
 case atStart=>exact⟨0,rfl,by omega,⟨fun j hj=>absurd hj (by omega)⟩,⟨Below.refl _ _⟩⟩
 case round=>
  obtain⟨i,rfl,hi,HP,YW⟩:=hrel
  cases gk with
  |zero=>
   obtain rfl:i=l.length:=by omega
   have e1:Hid (idxI id l= -1):=by show _=_;unfold idxI;rw[idx_none HP.out,if_neg (by omega)]
   go_wp2;go_ret;exact⟨by rw[e1.out];rfl,YW.out⟩
  |succ d=>
   have hlt:i<l.length:=by omega
   have hlt':(i:Int)<l.length:=by omega
   have hi0:(0:Int)≤i:=by omega
   obtain⟨ad,e_,hx0,hx1,hx2⟩:=at_T116 (Kd.C_below cO.out YW.out) (i:Int) hi0 hlt'
   cases e_
   have hrd:rd_T116 l (i:Int)=l.getD i z116:=by
    unfold rd_T116;rw[nC_]
   rw[hrd,nC_] at hx0 hx1 hx2;obtain⟨x,hx⟩:∃x,l.getD i z116=x:=⟨_,rfl⟩;rw[hx] at hx0 hx1 hx2;have HX:=Lib.hid hx;have HC:=Z_ (pw_cell_below YW.out HID.out);clear hrd hx
   go_wp2_with fail
   refine(isId_calls x g id _ HC.out).mono ?_;rintro e w2 ⟨rfl,hb⟩;have vP:=Z_ (below_step YW.out hb);clear hb hx0 hx1 hx2
   by_cases hp:isId id x=true
   ·have e1:Hid (idxI id l=i):=by show _=_;unfold idxI;rw[idx_at hlt (by rw[HX.out];exact hp) HP.out,if_pos hlt]
    rw[hp];go_wp2;go_ret;exact⟨by rw[e1.out];rfl,vP.out⟩
   ·replace hp:isId id x=false:=Bool.eq_false_iff.mpr hp
    have xM:Aside0 (∀j,j<i+1→isId id (l.getD j z116)=false):=⟨fun j hj=>by
     by_cases e:j=i
     ·rw[e,HX.out];exact hp
     ·exact HP.out j (by omega)⟩
    rw[hp];go_wp2
    go_roundg d
    case measure=>omega
    case rel=>exact⟨i+1,by go_num,by omega,xM,vP⟩
theorem any_idx(id:ByteArray)(l:List S116):l.any (isId id)=decide (0≤idxI id l):=by
 unfold idxI idx
 by_cases h:l.findIdx (isId id)<l.length
 ·rw[if_pos h,dt_ (by omega)];exact List.any_eq_true.2 ⟨_,List.getElem_mem h,List.findIdx_getElem (w:=h)⟩
 ·rw[if_neg h];rw[df_ (by omega),List.any_eq_false];intro x hx;have:=List.findIdx_eq_length.1 (show l.findIdx (isId id)=l.length from Nat.le_antisymm List.findIdx_le_length (by omega)) x hx;rw[this]
  decide
theorem chAny_calls(A0:Option Addr)(c0:Nat)(l:List S116)(g:Nat)(id:ByteArray)(w:World)(hr0:Kd.C k116 w A0 l.length l)(hid:w.cell? ⟨g,0,none⟩=some (.string id)):
  Calls Tryz.prog 92 #[.slice A0 l.length c0,.func (.func 90) #[] #[.pointer (some ⟨g,0,none⟩)]] w fun e w'=>e= .returned (.bool (l.any (isId id)))∧Below w.heap.size w w':=by
 have C:=Lib.hid (chIdx_calls A0 c0 l g id w hr0 hid);have R:=Lib.hid (any_idx id l);clear hr0 hid
 go_enter Tryz.func92,Tryz.ntmps92
 go_wp2_with fail
 refine C.out.mono ?_;rintro e w1 ⟨rfl,hb⟩;have YW:=Z_ hb;clear hb;go_wp2;go_ret;exact⟨by rw[R.out];rfl,YW.out⟩
def wave_one.f(l0:List S116)(a1:ByteArray):Option (Int×Bool):=some (idxI a1 l0,decide (0≤idxI a1 l0) && !((l0.drop (idx a1 l0+1)).any (isId a1)))
theorem wave_one.calls(A0:Option Addr)(c0:Nat)(l0:List S116)(a1:ByteArray)(r1:Int)(r2:Bool)(w:World)(hr0:Kd.C k116 w A0 l0.length l0)(hc0:l0.length≤c0)(h:wave_one.f l0 a1=some (r1,r2)):
  Calls Tryz.prog 59 #[.slice A0 l0.length c0,.string a1] w fun e w'=>e= .returned (.tuple #[.int .i64 r1,.bool r2])∧Below w.heap.size w w':=by
 have h2:=Option.some.inj h;obtain⟨h3,h4⟩:=Prod.mk.inj h2;clear h h2;have YW:Aside0 (Below w.heap.size w (w.alloc (.cells #[.string a1] 9))):=⟨below_alloc (Below.refl _ _) _⟩;have YB:Aside0 ((w.alloc (.cells #[.string a1] 9)).cell? ⟨w.heap.size,0,none⟩=some (.string a1)):=⟨blk_cell (blk_new w _) 0⟩;have cO:=Z_ hr0;have CI:=Lib.hid (chIdx_calls A0 c0 l0 w.heap.size a1 _ (Kd.C_below hr0 YW.out) YB.out);have hlm:=hr0.2.1;clear hr0
 go_enter Tryz.func59,Tryz.ntmps59
 go_wp2_with fail
 refine CI.out.mono ?_;rintro e w1 ⟨rfl,hb⟩;have Kt:=Z_ (below_step YW.out hb);have Vt:=Z_ (pw_cell_below hb YB.out);clear YW YB CI hb
 by_cases hn:idx a1 l0<l0.length
 ·have e1:idxI a1 l0=(idx a1 l0:Int):=by unfold idxI;rw[if_pos hn]
  rw[e1] at h3 h4 ⊢;rw[dt_ (show(0:Int)≤(idx a1 l0:Int) by omega),Bool.true_and] at h4;obtain⟨i,hi⟩:∃i,idx a1 l0=i:=⟨_,rfl⟩;rw[hi] at h3 h4 hn ⊢;have HC:=Kd.C_drop (m:=i+1) (Kd.C_below cO.out Kt.out) (by omega) hc0;have CA:=Lib.hid (chAny_calls _ (c0 - (i+1)) _ w.heap.size a1 _ HC Vt.out);have e2:(l0.drop (i+1)).length=l0.length - (i+1):=List.length_drop;rw[e2] at CA;have H3:=Lib.hid h3;have H4:=Lib.hid h4;have hd:(0:Int)≤i:=by omega
  clear h3 h4 hi e1 HC e2
  by_cases hcap:c0=i+1
  ·rw[if_pos hcap] at CA;subst hcap;have e9:l0.length - (i+1)=0:=by omega
   rw[Nat.sub_self,e9] at CA;clear e9
   go_wp2_with fail
   refine CA.out.mono ?_;rintro e w2 ⟨rfl,hb⟩;have YF:=Z_ (below_step Kt.out hb);clear hb;obtain⟨q,hq⟩:∃q,(l0.drop (i+1)).any (isId a1)=q:=⟨_,rfl⟩;rw[hq] at H4 ⊢;clear hq;go_wp2;go_ret2;exact⟨by rw[←H3.out,←H4.out];rfl,YF.out⟩
  ·rw[if_neg hcap] at CA
   go_wp2_with fail
   refine CA.out.mono ?_;rintro e w2 ⟨rfl,hb⟩;have YF:=Z_ (below_step Kt.out hb);clear hb;obtain⟨q,hq⟩:∃q,(l0.drop (i+1)).any (isId a1)=q:=⟨_,rfl⟩;rw[hq] at H4 ⊢;clear hq;go_wp2;go_ret2;exact⟨by rw[←H3.out,←H4.out];rfl,YF.out⟩
 ·have e1:idxI a1 l0= -1:=by unfold idxI;rw[if_neg hn]
  rw[e1] at h3 h4 ⊢;have H3:=Lib.hid h3;have H4:Hid (false=r2):=h4;clear h3 h4 e1;go_wp2;go_ret2;exact⟨by rw[←H3.out,←H4.out];rfl,Kt.out⟩
def stc(m:List Int)(b:Int)(v:Value)(rest:List Value):List Value:=ints m++ .int .i64 b::v::rest
theorem cell_st(i:Nat){w:World}{g:Nat}{m:List Int}{b:Int}{v:Value}{rest:List Value}{t:TypeId}{fr:Nat×Nat}(h:w.heap[g]?=some (.cells (stc m b v rest).toArray t fr))(hm:m.length=195):w.cell? ⟨g,195+i,none⟩=(Value.int .i64 b::v::rest)[i]?:=by
 rw[cell_of_row w g _ _ t fr h];unfold stc;rw[List.getElem?_toArray,List.getElem?_append_right (by rw[ints_len,hm];omega),ints_len,hm,Nat.add_sub_cancel_left]
theorem range_mid{w:World}{g:Nat}(pre:List Value)(mid:List Value){post:List Value}{t:TypeId}{fr:Nat×Nat}(h:w.heap[g]?=some (.cells (pre++mid++post).toArray t fr)):w.rangeAt g pre.length mid:=by
 intro j v hv;rw[cell_of_row w g _ _ t fr h,List.getElem?_toArray,List.append_assoc,List.getElem?_append_right (by omega),Nat.add_sub_cancel_left,List.getElem?_append_left (by have:=(List.getElem?_eq_some_iff.1 hv).1;omega)];exact hv
theorem range_stm{w:World}{g:Nat}{m:List Int}{b:Int}{v:Value}{rest:List Value}{t:TypeId}{fr:Nat×Nat}(h:w.heap[g]?=some (.cells (stc m b v rest).toArray t fr)):w.rangeAt g 0 (ints m):=by
 have:=range_mid [] (ints m) (post:= .int .i64 b::v::rest) h;exact this
theorem range_str{w:World}{g:Nat}{m:List Int}{b:Int}{v:Value}{rest:List Value}{t:TypeId}{fr:Nat×Nat}(h:w.heap[g]?=some (.cells (stc m b v rest).toArray t fr))(hm:m.length=195):w.rangeAt g 197 rest:=by
 have:=range_mid (ints m++ [.int .i64 b,v]) rest (post:= []) (w:=w) (g:=g) (t:=t) (fr:=fr) (by rw[h];unfold stc;simp);have e:(ints m++ [.int .i64 b,v]).length=197:=by rw[List.length_append,ints_len,hm];rfl
 rwa [e] at this
theorem stc_len{m:List Int}{b:Int}{v:Value}{rest:List Value}(hm:m.length=195):(stc m b v rest).length=197+rest.length:=by
 unfold stc;rw[List.length_append,ints_len,hm];simp only[List.length_cons];omega
theorem set_stm{w:World}{g:Nat}{m m':List Int}{b:Int}{v:Value}{rest:List Value}{t:TypeId}(h:w.heap[g]?=some (.cells (stc m b v rest).toArray t (0,0)))(hm:m.length=m'.length):(w.setCells g 0 (ints m')).heap[g]?=some (.cells (stc m' b v rest).toArray t (0,0)):=by
 have:=setCells_blk (t:=t) (ints m') [] (ints m) (.int .i64 b::v::rest) w h (by rw[ints_len,ints_len,hm]);exact this
theorem set_stb{w:World}{g:Nat}{m:List Int}{b:Int}{v:Value}{rest:List Value}{t:TypeId}(h:w.heap[g]?=some (.cells (stc m b v rest).toArray t (0,0)))(hm:m.length=195)(b':Int):(w.setCell ⟨g,195,none⟩ (.int .i64 b')).heap[g]?=some (.cells (stc m b' v rest).toArray t (0,0)):=by
 have:=setCells_blk (t:=t) [.int .i64 b'] (ints m) [.int .i64 b] (v::rest) w (by rw[h];unfold stc;simp) rfl;rw[ints_len,hm] at this;unfold stc
 simpa [World.setCells] using this
theorem set_stv{w:World}{g:Nat}{m:List Int}{b:Int}{v:Value}{rest:List Value}{t:TypeId}(h:w.heap[g]?=some (.cells (stc m b v rest).toArray t (0,0)))(hm:m.length=195)(v':Value):(w.setCell ⟨g,196,none⟩ v').heap[g]?=some (.cells (stc m b v' rest).toArray t (0,0)):=by
 have:=setCells_blk (t:=t) [v'] (ints m++ [.int .i64 b]) [v] rest w (by rw[h];unfold stc;simp) rfl;rw[List.length_append,ints_len,hm] at this;unfold stc
 simpa [World.setCells] using this
theorem set_str{w:World}{g:Nat}{m:List Int}{b:Int}{v:Value}{rest rest':List Value}{t:TypeId}(h:w.heap[g]?=some (.cells (stc m b v rest).toArray t (0,0)))(hm:m.length=195)(hr:rest.length=rest'.length):(w.setCells g 197 rest').heap[g]?=some (.cells (stc m b v rest').toArray t (0,0)):=by
 have:=setCells_blk (t:=t) rest' (ints m++ [.int .i64 b,v]) rest [] w (by rw[h];unfold stc;simp) hr;have e:(ints m++ [.int .i64 b,v]).length=197:=by rw[List.length_append,ints_len,hm];rfl
 rw[e] at this;unfold stc
 simpa using this
structure Fr(gx g:Nat)(o:Option Obj)(w:World):Prop where
 lt:gx<w.heap.size
 eq:gx≠g→w.heap[gx]?=o
theorem Fr.below{gx g:Nat}{o:Option Obj}{w w':World}(h:Fr gx g o w)(hb:Below w.heap.size w w'):Fr gx g o w':=⟨Nat.lt_of_lt_of_le h.lt hb.size,fun hn=>(hb.block gx h.lt).trans (h.eq hn)⟩
theorem Fr.drew{gx g:Nat}{o:Option Obj}{w:World}(h:Fr gx g o w):Fr gx g o w.drew:=⟨h.lt,h.eq⟩
theorem heap_setCells_size(g:Nat)(vs:List Value):∀(o:Nat) (w:World),(w.setCells g o vs).heap.size=w.heap.size:=by
 induction vs with
 |nil=>intro o w;rfl
 |cons v r ih=>intro o w;rw[World.setCells,ih];simp
theorem Fr.setCells{gx g:Nat}{o:Option Obj}{w:World}(h:Fr gx g o w)(vs:List Value)(i:Nat):Fr gx g o (w.setCells g i vs):=⟨by rw[heap_setCells_size];exact h.lt,fun hn=>(heap_setCells_far hn vs i w).trans (h.eq hn)⟩
theorem Fr.setCell{gx g:Nat}{o:Option Obj}{w:World}(h:Fr gx g o w)(i:Nat)(v:Value):Fr gx g o (w.setCell ⟨g,i,none⟩ v):=Fr.setCells h [v] i
theorem Fr.grown{gx g:Nat}{o:Option Obj}{w w':World}(h:Fr gx g o w){row:Option Nat}(hg:w.grownBy w' row)(hne:gx≠g→some gx≠row):Fr gx g o w':=⟨Nat.lt_of_lt_of_le h.lt hg.size,fun hn=>(hg.block gx h.lt (hne hn)).trans (h.eq hn)⟩
def chc.T1:Bool×List (List Nat×List Nat):=(true,[([],[]),([0],[0]),([1],[1]),([2],[2]),([],[]),([4],[4]),([5],[5]),([6],[6]),([3,7],[3,7]),([8],[8]),([9],[9]),([9],[9]),([],[]),([12,10,8,0,1,2,3,4,5,6,7,8,9,10,12],[10,12]),([11,13,0,1,2,3,4,5,6,7,8,9,10,11,12,13],[11])])
def chc.B1:List Nat:= [0,1,3,7,0,16,48,112,255,511,1023,1023,0,6143,16383]
theorem chc.tab1:rtab .any (opsOf Tryz.f107 1)=chc.T1:=by kernel_rfl
theorem chc.bits1:waitsOk chc.T1.2 chc.B1=true:=by kernel_rfl
def chc.T2:Bool×List (List Nat×List Nat):=(true,[([],[]),([0],[0]),([1],[1]),([2],[2]),([],[]),([3,4],[3,4]),([5],[5]),([6],[6]),([6],[6]),([7,5,0,1,2,3,4,5,6,7],[7]),([8,9,0,1,2,3,4,5,6,7,8,9],[8])])
def chc.B2:List Nat:= [0,1,3,7,0,31,63,127,127,255,1023]
theorem chc.tab2:rtab .any (opsOf Tryz.f107 2)=chc.T2:=by kernel_rfl
theorem chc.bits2:waitsOk chc.T2.2 chc.B2=true:=by kernel_rfl
def chc.T3:Bool×List (List Nat×List Nat):=(true,[([],[]),([],[]),([0,0],[0]),([1,2,0,1,2],[1])])
def chc.B3:List Nat:= [0,0,1,7]
theorem chc.tab3:rtab .any (opsOf Tryz.f107 3)=chc.T3:=by kernel_rfl
theorem chc.bits3:waitsOk chc.T3.2 chc.B3=true:=by kernel_rfl
theorem stChance_calls(g t:Nat)(m:List Int)(before:Nat)(A:Option Addr)(c:Nat)(l:List Int)(rest:List Value)(w:World)(hT:Tabs w)(hM:MOk m)(hb0:before≤63)(hl:l.length≤63)(hlc:l.length≤c)(hbits:l.any ctxOdd=false)
  (hg:w.heap[g]?=some (.cells (stc m before (.slice A l.length c) rest).toArray t (0,0))) (hr:Kd.C (Kd.int .i64) w A l.length l):
  Calls Tryz.prog 107 #[.pointer (some ⟨g,0,none⟩)] w fun e w'=>e= .returned (.tuple #[.int .i64 (mP m (cx0 l) (cx1 before l) (cx2 l)),.agg #[.int .i64 (cx0 l),.int .i64 (cx1 before l),.int .i64 (cx2 l)]])∧Below w.heap.size w w':=by
 have lh:=Tryz.underlying81;have xK:=Tryz.underlying83;have T0:=Z_ hT;have HM:=Z_ hM;have G0:=Z_ hg;have H0:=Z_ hr;have HB:=Lib.hid hbits;have ONE:Hid ((#[.int .i64 (cx0 l),.int .i64 (cx1 before l),.int .i64 (cx2 l)]:Array Value).all (·.oneCell')=true):=by show _=_;simp[Value.oneCell']
 have YR:Aside0 ((w.alloc (.cells #[.int .i64 0,.int .i64 0,.int .i64 0] 81)).heap[w.heap.size]?=some (.cells #[.int .i64 0,.int .i64 0,.int .i64 0] 81 (0,0))):=⟨blk_new w _⟩;have YW:Aside0 (Below w.heap.size w (w.alloc (.cells #[.int .i64 0,.int .i64 0,.int .i64 0] 81))):=⟨below_alloc (Below.refl _ _) _⟩;clear hT hM hg hr hbits
 go_enter Tryz.func107,Tryz.ntmps107
 go_wp2_with fail
 replace YR:=Z_ (blk_drew YR.out);replace YW:=Z_ (below_drew1 YW.out);refine start_ (n:=15) (S:=fun w'=>w'.heap[g]?=some (.cells (stc m before (.slice A l.length c) rest).toArray t (0,0))) (ds:= [13]) #[false,false,false,false,false,false,false,false,false,false,false,false,false,false,false] (by kernel_rfl) rfl rfl (blk_below G0.out YW.out) (fun hHeld=>?_);refine with_tabW chc.tab1 chc.bits1 (fun HT_ HW_=>?_);generalize World.drew _=wk_ at YR YW hHeld ⊢;refine P_ 0 9 ?_;refine P_ 1 10 ?_;refine P_ 2 11 ?_;refine P_ 4 13 ?_;refine P_ 5 14 ?_;refine P_ 6 15 ?_;refine T_ 3 12 (y:=by rintro w' s0;have s1:=cell_st 0 s0 HM.out.1;have s2:=cell_st 1 s0 HM.out.1;simp at s1 s2;go_simp;with_reducible rfl) (h:=?_);refine T_ 7 16 (y:=by rintro w' s0;have s1:=cell_st 0 s0 HM.out.1;have s2:=cell_st 1 s0 HM.out.1;simp at s1 s2;go_simp;with_reducible rfl) (h:=?_);refine two_ (i:=8) (j:=12) (Ni:=some 17) (Nj:=some 4) #[true,true,true,true,true,true,true,true,true,false,false,false,false,false,false] #[true,true,true,true,true,true,true,true,false,false,false,false,true,false,false] rfl rfl rfl rfl (two_of HT_.out (by kernel_rfl)) (by decide) (by decide) (fun K hK=>?_) (fun K hK=>?_)
 focus
  refine g_ Tryz.func132 #[.int .i64 before,.slice A l.length c] ?_;refine(ctx_calls A c l before _ (Kd.C_below H0.out YW.out) hlc hl hb0 HB.out).mono ?_;rintro e wk_ ⟨rfl,hb⟩
  try replace YC:=Z_ (blk_below YC.out hb)
  refine⟨_,rfl,?_⟩;replace YR:=Z_ (blk_below YR.out hb);replace YW:=Z_ (below_step YW.out hb);clear hb;refine hK.out _ _ (blk_below G0.out YW.out) (fun hHeld=>?_);clear hK K;refine Nm_ 17 ?_;refine P_ 9 8 ?_;refine P_ 10 18 ?_;refine P_ 11 19 ?_;refine O_ 12 4 fun K hK=>?_
  refine box_step ?hg (N:=4) ?hd (cs:= #[.int .i64 0,.int .i64 0,.int .i64 0]) (t:=81) ?hr ?_;(case hd=>rfl);(case hg=>rfl);(case hr=>first|(go_simp;done)|(go_simp;rfl));intro gb hg wk_ hbox hb;have HLT:=Z_ (show w.heap.size<gb by have:=blk_lt YR.out;omega);clear hg;replace YR:=Z_ (blk_below YR.out hb);replace YW:=Z_ (below_step YW.out hb);have YC:=Z_ hbox;clear hbox hb;refine hK.out _ _ (blk_below G0.out YW.out) (fun hHeld=>?_);clear hK K;refine Nm_ 4 ?_;refine last_ (i:=13) (N:=none) #[true,true,true,true,true,true,true,true,true,true,true,true,true,true,false] rfl rfl (one_of HT_.out (by kernel_rfl)) (by decide) (fun K hK=>?_);refine skip_ (w1:=wk_.setCells gb 0 [.int .i64 (cx0 l),.int .i64 (cx1 before l),.int .i64 (cx2 l)]) (by rfl) rfl (exec_store_mid 81 _ _ rfl gb 0 #[.int .i64 (cx0 l),.int .i64 (cx1 before l),.int .i64 (cx2 l)] rfl rfl (there_blk (vs:= [.int .i64 0,.int .i64 0,.int .i64 0]) YC.out 0 3 (by decide)) (by kernel_rfl) ONE.out) ?_;replace YC:=Z_ (setCells_all (vs:= [.int .i64 (cx0 l),.int .i64 (cx1 before l),.int .i64 (cx2 l)]) YC.out rfl);replace YR:=Z_ (setCells_far (g:=gb) (k:=w.heap.size) (Nat.ne_of_lt HLT.out) [.int .i64 (cx0 l),.int .i64 (cx1 before l),.int .i64 (cx2 l)] _ 0 YR.out);replace YW:=Z_ (below_setCells YW.out (Nat.le_of_lt HLT.out) [.int .i64 (cx0 l),.int .i64 (cx1 before l),.int .i64 (cx2 l)] 0);generalize World.setCells _ _ _ _=wk_ at YC YR YW ⊢;refine hK.out _ _ ?_;clear hK K;refine P_ 14 5 ?_;refine done_ (done_of HT_.out (by kernel_rfl)) ?_
 rotate_left
 focus
  refine box_step ?hg (N:=4) ?hd (cs:= #[.int .i64 0,.int .i64 0,.int .i64 0]) (t:=81) ?hr ?_;(case hd=>rfl);(case hg=>rfl);(case hr=>first|(go_simp;done)|(go_simp;rfl));intro gb hg wk_ hbox hb;have HLT:=Z_ (show w.heap.size<gb by have:=blk_lt YR.out;omega);clear hg;replace YR:=Z_ (blk_below YR.out hb);replace YW:=Z_ (below_step YW.out hb);have YC:=Z_ hbox;clear hbox hb;refine hK.out _ _ (blk_below G0.out YW.out) (fun hHeld=>?_);clear hK K;refine Nm_ 4 ?_;refine O_ 8 17 fun K hK=>?_
  refine g_ Tryz.func132 #[.int .i64 before,.slice A l.length c] ?_;refine(ctx_calls A c l before _ (Kd.C_below H0.out YW.out) hlc hl hb0 HB.out).mono ?_;rintro e wk_ ⟨rfl,hb⟩
  try replace YC:=Z_ (blk_below YC.out hb)
  refine⟨_,rfl,?_⟩;replace YR:=Z_ (blk_below YR.out hb);replace YW:=Z_ (below_step YW.out hb);clear hb;refine hK.out _ _ (blk_below G0.out YW.out) (fun hHeld=>?_);clear hK K;refine Nm_ 17 ?_;refine P_ 9 8 ?_;refine P_ 10 18 ?_;refine P_ 11 19 ?_;refine last_ (i:=13) (N:=none) #[true,true,true,true,true,true,true,true,true,true,true,true,true,true,false] rfl rfl (one_of HT_.out (by kernel_rfl)) (by decide) (fun K hK=>?_);refine skip_ (w1:=wk_.setCells gb 0 [.int .i64 (cx0 l),.int .i64 (cx1 before l),.int .i64 (cx2 l)]) (by rfl) rfl (exec_store_mid 81 _ _ rfl gb 0 #[.int .i64 (cx0 l),.int .i64 (cx1 before l),.int .i64 (cx2 l)] rfl rfl (there_blk (vs:= [.int .i64 0,.int .i64 0,.int .i64 0]) YC.out 0 3 (by decide)) (by kernel_rfl) ONE.out) ?_;replace YC:=Z_ (setCells_all (vs:= [.int .i64 (cx0 l),.int .i64 (cx1 before l),.int .i64 (cx2 l)]) YC.out rfl);replace YR:=Z_ (setCells_far (g:=gb) (k:=w.heap.size) (Nat.ne_of_lt HLT.out) [.int .i64 (cx0 l),.int .i64 (cx1 before l),.int .i64 (cx2 l)] _ 0 YR.out);replace YW:=Z_ (below_setCells YW.out (Nat.le_of_lt HLT.out) [.int .i64 (cx0 l),.int .i64 (cx1 before l),.int .i64 (cx2 l)] 0);generalize World.setCells _ _ _ _=wk_ at YC YR YW ⊢;refine hK.out _ _ ?_;clear hK K;refine P_ 14 5 ?_;refine done_ (done_of HT_.out (by kernel_rfl)) ?_
 rotate_left
 all_goals
  go_wp2_with fail
  replace YR:=Z_ (blk_drew YR.out);replace YC:=Z_ (blk_drew YC.out);replace YW:=Z_ (below_drew1 YW.out);refine start_ (n:=11) (S:=fun w'=>w'.heap[g]?=some (.cells (stc m before (.slice A l.length c) rest).toArray t (0,0))∧w'.heap[gb]?=some (.cells #[.int .i64 (cx0 l),.int .i64 (cx1 before l),.int .i64 (cx2 l)] 81 (0,0))) (ds:= []) #[false,false,false,false,false,false,false,false,false,false,false] (by kernel_rfl) rfl rfl ⟨(blk_below G0.out YW.out),YC.out⟩ (fun hHeld=>?_);refine with_tabW chc.tab2 chc.bits2 (fun HT_ HW_=>?_);generalize World.drew _=wk_ at YR YC YW hHeld ⊢;refine P_ 0 21 ?_;refine P_ 1 22 ?_;refine P_ 2 23 ?_;refine take_ (i:=3) (N:=some 24) (v:= .agg (ints m).toArray) (a':=?_) #[true,true,true,true,false,false,false,false,false,false,false] rfl rfl (take_ofW HT_.out HW_.out (by kernel_rfl)) (fun _ _ _ h=>h) (yieldsIf_load_mid (by rfl) 83 _ rfl g 0 rfl (ints m) _ (fun w' s0=>range_stm s0.1) Tryz.underlying83 rfl (by rw[ints_len,HM.out.1];kernel_rfl)) hHeld ?_ ?_;rotate_left
  ·simp only[Act.put,List.setIfInBounds_toArray,List.set_cons_zero,List.set_cons_succ,i64_w,i32_w];rfl
  refine T_ 4 25 (y:=by rintro w' ⟨s0,s1⟩;have r0:=blk_cell s1 0;have r1:=blk_cell s1 1;have r2:=blk_cell s1 2;simp at r0 r1 r2;go_simp;with_reducible rfl) (h:=?_);refine O_ 5 26 fun K hK=>?_
  refine g_ Tryz.func133 #[.agg (ints m).toArray,.agg #[.int .i64 (cx0 l),.int .i64 (cx1 before l),.int .i64 (cx2 l)]] ?_;refine(modP_calls m (cx0 l) (cx1 before l) (cx2 l) _ (T0.out.below YW.out) HM.out (cx0_lt _) (cx1_lt _ _) (cx2_lt _)).mono ?_;rintro e wk_ ⟨rfl,hb⟩;refine⟨_,rfl,?_⟩;replace YR:=Z_ (blk_below YR.out hb);replace YC:=Z_ (blk_below YC.out hb);replace YW:=Z_ (below_step YW.out hb);clear hb;refine hK.out _ _ ⟨(blk_below G0.out YW.out),YC.out⟩ (fun hHeld=>?_);clear hK K;refine Nm_ 26 ?_;refine P_ 6 20 ?_;refine P_ 7 27 ?_;refine P_ 8 28 ?_;refine P_ 9 6 ?_;refine P_ 10 7 ?_;refine done_ (done_of HT_.out (by kernel_rfl)) ?_
  go_wp2_with fail
  replace YR:=Z_ (blk_drew YR.out);replace YC:=Z_ (blk_drew YC.out);replace YW:=Z_ (below_drew1 YW.out);refine start_ (n:=4) (S:=fun w'=>w'.heap[gb]?=some (.cells #[.int .i64 (cx0 l),.int .i64 (cx1 before l),.int .i64 (cx2 l)] 81 (0,0))) (ds:= [3]) #[false,false,false,false] (by kernel_rfl) rfl rfl YC.out (fun hHeld=>?_);refine with_tabW chc.tab3 chc.bits3 (fun HT_ HW_=>?_);generalize World.drew _=wk_ at YR YC YW hHeld ⊢;refine P_ 0 29 ?_;refine P_ 2 2 ?_;refine T_ 1 30 (y:=by rintro w' s1;have r0:=blk_cell s1 0;have r1:=blk_cell s1 1;have r2:=blk_cell s1 2;simp at r0 r1 r2;go_simp;with_reducible rfl) (h:=?_);refine last_ (i:=3) (N:=none) #[true,true,true,true] rfl rfl (one_of HT_.out (by kernel_rfl)) (by decide) (fun K hK=>?_);refine skip_ (w1:=wk_.setCells w.heap.size 0 [.int .i64 (cx0 l),.int .i64 (cx1 before l),.int .i64 (cx2 l)]) (by rfl) rfl (exec_store_mid 81 _ _ rfl w.heap.size 0 #[.int .i64 (cx0 l),.int .i64 (cx1 before l),.int .i64 (cx2 l)] rfl rfl (there_blk (vs:= [.int .i64 0,.int .i64 0,.int .i64 0]) YR.out 0 3 (by decide)) (by kernel_rfl) ONE.out) ?_;replace YR:=Z_ (setCells_all (vs:= [.int .i64 (cx0 l),.int .i64 (cx1 before l),.int .i64 (cx2 l)]) YR.out rfl);replace YW:=Z_ (below_setCells YW.out (Nat.le_refl _) [.int .i64 (cx0 l),.int .i64 (cx1 before l),.int .i64 (cx2 l)] 0);generalize World.setCells _ _ _ _=wk_ at YR YW ⊢;refine hK.out _ _ ?_;clear hK K;refine done_ (done_of HT_.out (by kernel_rfl)) ?_
  go_wp2_with fail
  refine bodyPost_ret (results_tc rfl _ _ w.heap.size 81 #[.int .i64 (cx0 l),.int .i64 (cx1 before l),.int .i64 (cx2 l)] (0,0) _ rfl YR.out Tryz.underlying81 rfl (by kernel_rfl)) rfl ⟨rfl,YW.out⟩
def lrn.T1:Bool×List (List Nat×List Nat):=(true,[([],[]),([],[]),([1],[1]),([2],[2]),([3],[3]),([],[]),([],[]),([4,5,6],[4,5,6]),([7],[7]),([8],[8]),([8],[8]),([0,0,1,2,3,4,5,6,7,8,9],[0]),([11,0,1,2,3,4,5,6,7,8,9],[11]),([12,9,7,0,1,2,3,4,5,6,7,8,9],[9,12])])
def lrn.B1:List Nat:= [0,0,2,6,14,0,0,126,254,510,510,1023,3071,7167]
theorem lrn.tab1:rtab .any (opsOf Tryz.f109 1)=lrn.T1:=by kernel_rfl
theorem lrn.bits1:waitsOk lrn.T1.2 lrn.B1=true:=by kernel_rfl
structure LearnPost(w0:World)(g gx t:Nat)(o:Option Obj)(m:List Int)(before:Int)(l:List Int)(rest:List Value)(w':World):Prop where
 out:∃v,w'.heap[g]?=some (.cells (stc m before v rest).toArray t (0,0))∧Kd.R (Kd.int .i64) 3 w' w0.heap.size (fun k=>k≠g∧k≠gx) v l∧Below w0.heap.size w0 w'∧Fr gx g o w'
theorem stLearn_calls(w0:World)(g gx t:Nat)(m:List Int)(before:Int)(v:Value)(l:List Int)(rest:List Value)(c0 c1 c2:Nat)(bit:Int)(w:World)(hT:Tabs w0)(hM:MOk m)(h0:c0<64)(h1:c1<64)(h2:c2<64)(hbit:bit=0∨bit=1)(hl:l.length≤100)
  (hg:w.heap[g]?=some (.cells (stc m before v rest).toArray t (0,0))) (hr:Kd.R (Kd.int .i64) 3 w w0.heap.size (fun k=>k≠g∧k≠gx) v l) (hgx:gx<w.heap.size) (hg0:w0.heap.size≤g) (hW:Below w0.heap.size w0 w):
  Calls Tryz.prog 109 #[.pointer (some ⟨g,0,none⟩),.agg #[.int .i64 (c0:Int),.int .i64 (c1:Int),.int .i64 (c2:Int)],.int .i64 bit] w fun e w'=>e= .returned (.tuple #[])∧LearnPost w0 g gx t w.heap[gx]? (mLearn m c0 c1 c2 bit) before (l++ [bit]) rest w':=by
 have lh:=Tryz.underlying81;have xK:=Tryz.underlying83;have T0:=Z_ hT;have HM:=Z_ hM;have HBit:=Z_ hbit;have HN:=Z_ (mLearn_ok (bit:=bit) hM h0 h1 h2);have SZ:Hid ((ints (mLearn m c0 c1 c2 bit)).toArray.size=195):=by show(ints (mLearn m c0 c1 c2 bit)).toArray.size=195;rw[List.size_toArray,ints_len,HN.out.1]
 have YG:=Z_ (blk_alloc hg (.cells #[.int .i64 (c0:Int),.int .i64 (c1:Int),.int .i64 (c2:Int)] 81));have YC:Aside0 ((w.alloc (.cells #[.int .i64 (c0:Int),.int .i64 (c1:Int),.int .i64 (c2:Int)] 81)).heap[w.heap.size]?=some (.cells #[.int .i64 (c0:Int),.int .i64 (c1:Int),.int .i64 (c2:Int)] 81 (0,0))):=⟨blk_new w _⟩;have HV:=Z_ (Kd.R_alloc hr (.cells #[.int .i64 (c0:Int),.int .i64 (c1:Int),.int .i64 (c2:Int)] 81));have YW:=Z_ (below_alloc hW (.cells #[.int .i64 (c0:Int),.int .i64 (c1:Int),.int .i64 (c2:Int)] 81));have HGL:g<w.heap.size:=blk_lt hg;have YX:Aside0 (Fr gx g w.heap[gx]? (w.alloc (.cells #[.int .i64 (c0:Int),.int .i64 (c1:Int),.int .i64 (c2:Int)] 81))):=⟨Fr.below ⟨hgx,fun _=>rfl⟩ (below_alloc (Below.refl _ _) _)⟩;obtain⟨ox,hox⟩:∃o,w.heap[gx]?=o:=⟨_,rfl⟩;rw[hox] at YX ⊢;clear hT hM hg hr hW hbit hox
 go_enter Tryz.func109,Tryz.ntmps109
 go_wp2_with fail
 replace YG:=Z_ (blk_drew YG.out);replace YC:=Z_ (blk_drew YC.out);replace HV:=Z_ (Kd.R_drew HV.out);replace YW:=Z_ (below_drew1 YW.out);replace YX:=Z_ (Fr.drew YX.out);have hgx2:gx<w.heap.size:=hgx;generalize w.heap.size=gc at YC HGL hgx hgx2 ⊢;refine start_ (n:=14) (S:=fun w'=>w'.heap[g]?=some (.cells (stc m before v rest).toArray t (0,0))∧w'.heap[gc]?=some (.cells #[.int .i64 (c0:Int),.int .i64 (c1:Int),.int .i64 (c2:Int)] 81 (0,0))) (ds:= [13]) #[false,false,false,false,false,false,false,false,false,false,false,false,false,false] (by kernel_rfl) rfl rfl ⟨YG.out,YC.out⟩ (fun hHeld=>?_);refine with_tabW lrn.tab1 lrn.bits1 (fun HT_ HW_=>?_);generalize World.drew _=wk_ at YG YC HV YW YX hHeld ⊢;refine P_ 0 7 ?_;refine P_ 1 8 ?_;refine P_ 2 9 ?_;refine P_ 3 10 ?_;refine P_ 6 13 ?_;refine take_ (i:=4) (N:=some 11) (v:= .agg (ints m).toArray) (a':=?_) #[true,true,true,true,true,false,true,false,false,false,false,false,false,false] rfl rfl (take_ofW HT_.out HW_.out (by kernel_rfl)) (fun _ _ _ h=>h) (yieldsIf_load_mid (by rfl) 83 _ rfl g 0 rfl (ints m) _ (fun w' s0=>range_stm s0.1) Tryz.underlying83 rfl (by rw[ints_len,HM.out.1];kernel_rfl)) hHeld ?_ ?_;rotate_left
 ·simp only[Act.put,List.setIfInBounds_toArray,List.set_cons_zero,List.set_cons_succ,i64_w,i32_w];rfl
 refine T_ 5 12 (y:=by rintro w' ⟨s0,s1⟩;have r0:=blk_cell s1 0;have r1:=blk_cell s1 1;have r2:=blk_cell s1 2;simp at r0 r1 r2;go_simp;with_reducible rfl) (h:=?_);refine O_ 7 14 fun K hK=>?_
 refine g_ Tryz.func138 #[.agg (ints m).toArray,.agg #[.int .i64 (c0:Int),.int .i64 (c1:Int),.int .i64 (c2:Int)],.int .i64 bit] ?_;refine(modLearn_calls m c0 c1 c2 bit _ (T0.out.below YW.out) HM.out h0 h1 h2 HBit.out).mono ?_;rintro e wk_ ⟨rfl,hb⟩;refine⟨_,rfl,?_⟩;replace YG:=Z_ (blk_below YG.out hb);replace YC:=Z_ (blk_below YC.out hb);replace HV:=Z_ (Kd.R_below HV.out hb);replace YW:=Z_ (below_step YW.out hb);replace YX:=Z_ (Fr.below YX.out hb);clear hb;refine hK.out _ _ ⟨YG.out,YC.out⟩ (fun hHeld=>?_);clear hK K;refine Nm_ 14 ?_;refine P_ 8 6 ?_;refine P_ 9 15 ?_;refine P_ 10 16 ?_;refine P_ 11 17 ?_;refine P_ 12 18 ?_;have TH:=Lib.hid (there_blk YG.out 0 195 (by rw[stc_len HM.out.1];omega));refine last_ (i:=13) (N:=none) #[true,true,true,true,true,true,true,true,true,true,true,true,true,true] rfl rfl (one_of HT_.out (by kernel_rfl)) (by decide) (fun K hK=>?_);refine skip_ (w1:=wk_.setCells g 0 (ints (mLearn m c0 c1 c2 bit))) (by rfl) rfl (exec_store_mid 83 _ _ rfl g 0 (ints (mLearn m c0 c1 c2 bit)).toArray rfl rfl (by rw[SZ.out];exact TH.out) (by rw[SZ.out];kernel_rfl) (all_oneCell_toArray (ints_one _))) ?_;replace YG:=Z_ (set_stm (m':=(mLearn m c0 c1 c2 bit)) YG.out (by rw[HM.out.1,HN.out.1]));replace HV:=Z_ (Kd.R_step HV.out (w1:=wk_.setCells g 0 (ints (mLearn m c0 c1 c2 bit))) (fun k hk _=>heap_setCells_far hk.1 _ _ _));replace YW:=Z_ (below_setCells YW.out hg0 (ints (mLearn m c0 c1 c2 bit)) 0);replace YX:=Z_ (Fr.setCells YX.out (ints (mLearn m c0 c1 c2 bit)) 0);clear YC;generalize World.setCells _ _ _ (ints (mLearn m c0 c1 c2 bit))=wk_ at YG HV YW YX ⊢;refine hK.out _ _ ?_;clear hK K;refine done_ (done_of HT_.out (by kernel_rfl)) ?_;have lv:=blk_lt YG.out;have cv:=cell_st 1 YG.out HN.out.1;simp at cv;have cf:=blk_frozen YG.out
 go_wp2_with ((with_reducible refine gate_builtin (b:= .append) (xs:= #[.tmp 23,.tmp 25]) rfl ?_);at_builtin;refine Kd.R_append (Kd.int .i64) (w0:=w0) w0.heap.size rfl (.tmp 23) (.tmp 25) 36 3 (.int .i64 0) 8 rfl Tryz.underlying36 info3 rfl (by decide) (by omega) v l bit [.int .i64 bit] (fun k=>k≠g∧k≠gx) (fun _=>False) rfl rfl rfl (fun _ hk=>hk.elim) (fun k hk=>⟨by omega,by have:=YX.out.lt;omega⟩) HV.out YW.out (below_size YW.out) (by omega) ?_;intro v8 w9 ho hb hgr hat;obtain⟨A8,c8,Vu,_⟩:=Kd.R_reads ho;subst Vu;simp only[List.length_append,List.length_singleton] at ho;have bU:=Z_ (blk_grown YG.out hgr (fun e_=>(HV.out.1 _ e_.symm).1 rfl));have uy:=Z_ (Fr.grown YX.out hgr (fun _ e_=>(HV.out.1 _ e_.symm).2 rfl));clear YG HV YW YX hat hgr lv cv cf;have YG:=bU;have YX:=uy;clear uy;have HV:=Z_ ho;have YW:=Z_ hb;clear bU ho hb;have lv:=blk_lt YG.out;have cv:=cell_st 1 YG.out HN.out.1;simp at cv;have cf:=blk_frozen YG.out)
 refine bodyPost_end (results_none rfl _ _ _) rfl ⟨rfl,⟨_,set_stv YG.out HN.out.1 _,Kd.R_far HV.out (p:=⟨g,196,none⟩) (fun k hk=>hk.1) _,below_set YW.out hg0,Fr.setCell YX.out 196 _⟩⟩
theorem stNext_calls(w0:World)(g gx t:Nat)(m:List Int)(before:Int)(v:Value)(l:List Int)(rest:List Value)(w:World)(hm:m.length=195)(hl:l.length≤100)
  (hg:w.heap[g]?=some (.cells (stc m before v rest).toArray t (0,0))) (hr:Kd.R (Kd.int .i64) 3 w w0.heap.size (fun k=>k≠g∧k≠gx) v l) (hgx:gx<w.heap.size) (hg0:w0.heap.size≤g) (hW:Below w0.heap.size w0 w):
  Calls Tryz.prog 77 #[.pointer (some ⟨g,0,none⟩)] w fun e w'=>e= .returned (.tuple #[])∧LearnPost w0 g gx t w.heap[gx]? m (onesL l) [] rest w':=by
 obtain⟨A,c,rfl,hlc,hC⟩:=Kd.R_reads hr;have HM:=Lib.hid hm;have YG:=Z_ hg;have HC:=Z_ hC;have YW:=Z_ hW;have YX:Aside0 (Fr gx g w.heap[gx]? w):=⟨hgx,fun _=>rfl⟩;obtain⟨ox,hox⟩:∃o,w.heap[gx]?=o:=⟨_,rfl⟩;rw[hox] at YX ⊢;have cv:=cell_st 1 hg hm;simp at cv;have lv:=blk_lt hg;clear hr hg hC hW hm hox
 go_enter Tryz.func77,Tryz.ntmps77
 go_wp2_with fail
 refine(ones_calls A c l _ HC.out hlc (by omega)).mono ?_;rintro e w1 ⟨rfl,⟨nd,rfl⟩⟩;replace YG:=Z_ (blk_drewN YG.out nd);replace YW:=Z_ (pw_below_drewN YW.out nd);replace YX:=Z_ (Fr.below YX.out (pw_below_drewN (Below.refl _ _) nd));clear cv lv;generalize World.drewN _ _=w1 at YG YW YX ⊢;have lv:=blk_lt YG.out;have cv:=cell_st 1 YG.out HM.out;have cb:=cell_st 0 YG.out HM.out;simp at cv cb;have cf:=blk_frozen YG.out;go_wp2;refine bodyPost_end (results_none rfl _ _ _) rfl ⟨rfl,⟨.slice none 0 0,set_stv (set_stb YG.out HM.out _) HM.out _,Kd.R_nil _ _ _ _ _,below_set (below_set YW.out hg0) hg0,Fr.setCell (Fr.setCell YX.out 195 _) 196 _⟩⟩
def wrb.T4:Bool×List (List Nat×List Nat):=(true,[([],[]),([0],[0]),([1],[1]),([],[]),([],[]),([2,3,4],[2,3,4])])
def wrb.B4:List Nat:= [0,1,3,0,0,31]
theorem wrb.tab4:rtab .any (opsOf Tryz.f76 4)=wrb.T4:=by kernel_rfl
theorem wrb.bits4:waitsOk wrb.T4.2 wrb.B4=true:=by kernel_rfl
theorem wbit_calls(w0:World)(g gx:Nat)(m:List Int)(before:Nat)(v:Value)(l:List Int)(lo hi:Int)(out:ByteArray)(b:Int)(r1 r2:Int)(r3:ByteArray)(w:World)(hT:Tabs w0)(hM:MOk m)(hb0:before≤63)(hl:l.length≤63)(hbits:l.any ctxOdd=false)(hbit:b=0∨b=1)
  (hmay:Cd.may lo hi out=true) (hrr:Cd.bit lo hi out b (mP m (cx0 l) (cx1 before l) (cx2 l))=(r1,r2,r3,0))
  (hg:w.heap[g]?=some (.cells (stc m before v [.int .i64 lo,.int .i64 hi,.string out]).toArray 91 (0,0))) (hr:Kd.R (Kd.int .i64) 3 w w0.heap.size (fun k=>k≠g∧k≠gx) v l) (hgx:gx<w.heap.size) (hg0:w0.heap.size≤g) (hW:Below w0.heap.size w0 w):
  Calls Tryz.prog 76 #[.pointer (some ⟨g,0,none⟩),.int .i64 b] w fun e w'=>e= .returned (.int .i64 0)∧LearnPost w0 g gx 91 w.heap[gx]? (mLearn m (cx0 l) (cx1 before l) (cx2 l) b) before (l++ [b]) [.int .i64 r1,.int .i64 r2,.string r3] w':=by
 have lh:=Tryz.underlying81;have wX:=Tryz.underlying88;obtain⟨A,c,rfl,hlc,hC⟩:=Kd.R_reads hr;have CH:=Lib.hid (stChance_calls g 91 m before A c l [.int .i64 lo,.int .i64 hi,.string out] w (hT.below hW) hM hb0 hl hlc hbits hg hC);have T0:=Z_ hT;have HM:=Z_ hM;have HBit:=Z_ hbit;have HMAY:=Lib.hid hmay
 have HCH:Hid (Cd.chance (mP m (cx0 l) (cx1 before l) (cx2 l))=true):=by
  have:=mP_bd m (cx0 l) (cx1 before l) (cx2 l);show _=_;exact dt_ this
 have HR:=Lib.hid hrr;have YG:=Z_ hg;have HV:=Z_ hr;have YW:=Z_ hW;have HGL:g<w.heap.size:=blk_lt hg;have YX:Aside0 (Fr gx g w.heap[gx]? w):=⟨hgx,fun _=>rfl⟩;obtain⟨ox,hox⟩:∃o,w.heap[gx]?=o:=⟨_,rfl⟩;rw[hox] at YX ⊢;clear hox;generalize hv:Value.slice A l.length c=v at YG HV CH;clear hT hM hg hr hW hbit hmay hrr hbits hC hv
 go_enter Tryz.func76,Tryz.ntmps76
 go_wp2_with fail
 refine CH.out.mono ?_;rintro e wk_ ⟨rfl,hb⟩;replace YG:=Z_ (blk_below YG.out hb);replace HV:=Z_ (Kd.R_below HV.out hb);replace YW:=Z_ (below_step YW.out hb);replace YX:=Z_ (Fr.below YX.out hb);clear hb CH
 go_wp2_with (first|(refine X_ 6 #[.int .i64 0,.int .i64 0,.int .i64 0] 81 ?_;intro gc hg wk_ hbox hb;have HGC:=Z_ (show g<gc by have:=blk_lt YG.out;omega);have HG_:=Z_ hg;have HB_:=Z_ hb;have YC:=Z_ hbox;clear hbox hb hg)|((with_reducible refine gate_store (t:=81) (p:=6) rfl ?_);refine wpList_store_mid rfl 81 _ _ rfl gc 0 #[.int .i64 (cx0 l),.int .i64 (cx1 before l),.int .i64 (cx2 l)] rfl rfl (there_blk (vs:= [.int .i64 0,.int .i64 0,.int .i64 0]) YC.out 0 3 (by decide)) (by kernel_rfl) (by simp[Value.oneCell']) ?_;have nc_:=Z_ (setCells_all (vs:= [.int .i64 (cx0 l),.int .i64 (cx1 before l),.int .i64 (cx2 l)]) (old:= [.int .i64 0,.int .i64 0,.int .i64 0]) YC.out rfl);have hb:=below_setCells HB_.out (Nat.le_of_eq HG_.out.symm) [.int .i64 (cx0 l),.int .i64 (cx1 before l),.int .i64 (cx2 l)] 0;replace YG:=Z_ (blk_below YG.out hb);replace HV:=Z_ (Kd.R_below HV.out hb);replace YW:=Z_ (below_step YW.out hb);replace YX:=Z_ (Fr.below YX.out hb);clear hb HB_ HG_ YC;have YC:=nc_;clear nc_;generalize World.setCells _ _ _ _=wk_ at YG HV YW YX YC ⊢)|((with_reducible refine gate_dst (N:=20) rfl ?_);refine wpList_load_mid rfl 88 _ rfl g 197 rfl [.int .i64 lo,.int .i64 hi,.string out] _ (range_str YG.out HM.out.1) Tryz.underlying88 rfl (by kernel_rfl) ?_)|(go_at_call 108;refine(coderBit_calls lo hi out b (mP m (cx0 l) (cx1 before l) (cx2 l)) _ HMAY.out HCH.out HBit.out).mono ?_;rintro e wk_ ⟨rfl,hb⟩;rw[HR.out];unfold resV;replace YG:=Z_ (blk_below YG.out hb);replace HV:=Z_ (Kd.R_below HV.out hb);replace YW:=Z_ (below_step YW.out hb);replace YX:=Z_ (Fr.below YX.out hb);replace YC:=Z_ (blk_below YC.out hb);clear hb)|(refine X_ 7 #[.int .i64 0,.int .i64 0,.string ⟨#[]⟩] 88 ?_;intro gd hg wk_ hbox hb;have HGD:=Z_ (show g<gd by have:=blk_lt YG.out;omega);have HG_:=Z_ hg;have HB_:=Z_ hb;have YD:=Z_ hbox;clear hbox hb hg)|((with_reducible refine gate_store (t:=88) (p:=7) rfl ?_);refine wpList_store_mid rfl 88 _ _ rfl gd 0 #[.int .i64 r1,.int .i64 r2,.string r3] rfl rfl (there_blk (vs:= [.int .i64 0,.int .i64 0,.string ⟨#[]⟩]) YD.out 0 3 (by decide)) (by kernel_rfl) (by simp[Value.oneCell']) ?_;have nc_:=Z_ (setCells_all (vs:= [.int .i64 r1,.int .i64 r2,.string r3]) (old:= [.int .i64 0,.int .i64 0,.string ⟨#[]⟩]) YD.out rfl);have hb:=below_setCells HB_.out (Nat.le_of_eq HG_.out.symm) [.int .i64 r1,.int .i64 r2,.string r3] 0;replace YG:=Z_ (blk_below YG.out hb);replace HV:=Z_ (Kd.R_below HV.out hb);replace YW:=Z_ (below_step YW.out hb);replace YX:=Z_ (Fr.below YX.out hb);replace YC:=Z_ (blk_below YC.out hb);clear hb HB_ HG_ YD;have YD:=nc_;clear nc_;generalize World.setCells _ _ _ _=wk_ at YG HV YW YX YC YD ⊢)|((with_reducible refine gate_dst (N:=27) rfl ?_);refine wpList_load_mid rfl 88 _ rfl gd 0 rfl [.int .i64 r1,.int .i64 r2,.string r3] _ (range_all YD.out) Tryz.underlying88 rfl (by kernel_rfl) ?_)|((with_reducible refine gate_store (t:=88) (p:=29) rfl ?_);refine wpList_store_mid rfl 88 _ _ rfl g 197 #[.int .i64 r1,.int .i64 r2,.string r3] rfl rfl (there_blk YG.out 197 3 (by rw[stc_len HM.out.1];exact Nat.le_refl _)) (by kernel_rfl) (by simp[Value.oneCell']) ?_;replace YG:=Z_ (set_str (rest':= [.int .i64 r1,.int .i64 r2,.string r3]) YG.out HM.out.1 rfl);replace HV:=Z_ (Kd.R_step HV.out (w1:=World.setCells wk_ g 197 [.int .i64 r1,.int .i64 r2,.string r3]) (fun k hk _=>heap_setCells_far hk.1 _ _ _));replace YW:=Z_ (below_setCells YW.out hg0 [.int .i64 r1,.int .i64 r2,.string r3] 197);replace YC:=Z_ (setCells_far (g:=g) (k:=gc) (Nat.ne_of_gt HGC.out) [.int .i64 r1,.int .i64 r2,.string r3] _ 197 YC.out);replace YX:=Z_ (Fr.setCells YX.out [.int .i64 r1,.int .i64 r2,.string r3] 197);clear YD;generalize World.setCells _ _ _ _=wk_ at YG HV YW YC YX ⊢))
 replace YG:=Z_ (blk_drew YG.out);replace YC:=Z_ (blk_drew YC.out);replace HV:=Z_ (Kd.R_drew HV.out);replace YW:=Z_ (below_drew1 YW.out);replace YX:=Z_ (Fr.drew YX.out);refine start_ (n:=6) (S:=fun w'=>w'.heap[gc]?=some (.cells #[.int .i64 (cx0 l),.int .i64 (cx1 before l),.int .i64 (cx2 l)] 81 (0,0))) (ds:= [5]) #[false,false,false,false,false,false] (by kernel_rfl) rfl rfl YC.out (fun hHeld=>?_);refine with_tabW wrb.tab4 wrb.bits4 (fun HT_ HW_=>?_);generalize World.drew _=wk_ at YG YC HV YW YX hHeld ⊢;refine P_ 0 30 ?_;refine P_ 1 31 ?_;refine P_ 2 32 ?_;refine P_ 4 34 ?_;refine T_ 3 33 (y:=by rintro w' s1;have r0:=blk_cell s1 0;have Qu:=blk_cell s1 1;have Qv:=blk_cell s1 2;simp at r0 Qu Qv;go_simp;with_reducible rfl) (h:=?_);refine last_ (i:=5) (N:=some 35) #[true,true,true,true,true,true] rfl rfl (one_of HT_.out (by kernel_rfl)) (by decide) (fun K hK=>?_);refine g_ Tryz.func109 #[.pointer (some ⟨g,0,none⟩),.agg #[.int .i64 (cx0 l),.int .i64 (cx1 before l),.int .i64 (cx2 l)],.int .i64 b] ?_;refine(stLearn_calls w0 g gx 91 m before v l [.int .i64 r1,.int .i64 r2,.string r3] (cx0 l) (cx1 before l) (cx2 l) b _ T0.out HM.out (cx0_lt _) (cx1_lt _ _) (cx2_lt _) HBit.out (by omega) YG.out HV.out YX.out.lt hg0 YW.out).mono ?_;rintro e wk_ ⟨rfl,hp⟩;refine⟨_,rfl,?_⟩;have HP:=Z_ hp;have YE:=Z_ YX.out.eq;clear hp YG YC HV YW YX hHeld;refine hK.out _ _ ?_;clear hK K;refine Nm_ 35 ?_;refine done_ (done_of HT_.out (by kernel_rfl)) ?_;go_wp2;go_ret;obtain⟨v1,q1,q2,q3,q4⟩:=HP.out.out;exact⟨rfl,⟨v1,q1,q2,q3,q4.lt,fun hn=>(q4.eq hn).trans (YE.out hn)⟩⟩
namespace Dd
def at_(s:ByteArray)(i:Int):Int:=if i<(s.size:Int) then(if 0≤i then((s.data.toList.getD i.toNat 0).toNat:Int) else 0) else 0
theorem at_bd(s:ByteArray)(i:Int):0≤at_ s i∧at_ s i≤255:=by
 unfold at_
 split
 ·split
  ·have:=(s.data.toList.getD i.toNat 0).toNat_lt;omega
  ·omega
 ·omega
def may(lo hi now:Int)(t:ByteArray)(at':Int):Bool:=decide (0≤lo∧hi≤4294967295∧lo / 16777216<hi / 16777216∧lo≤now∧now≤hi∧t.size≤65536∧4≤at'∧at'≤65544)
def sh:Nat→Int→Int→Int→ByteArray→Int→Int×Int×Int×Int
 |0,lo,hi,now,_,a=>(lo,hi,now,a)
 |n+1,lo,hi,now,t,a=>if lo / 16777216=hi / 16777216 then sh n (lo*256%4294967296) (hi*256%4294967296+255) (now*256%4294967296+at_ t a) t (a+1) else(lo,hi,now,a)
def bad:Int×Int×Int×ByteArray×Int×Int×Int:=(0,0,0,⟨#[]⟩,0,0,500)
def fin(r:Int×Int×Int×Int)(t:ByteArray)(b:Int):Int×Int×Int×ByteArray×Int×Int×Int:=if r.2.2.2≤65544 then(r.1,r.2.1,r.2.2.1,t,r.2.2.2,b,0) else bad
def bit(lo hi now:Int)(t:ByteArray)(a p:Int):Int×Int×Int×ByteArray×Int×Int×Int:=
 if may lo hi now t a=true∧Cd.chance p=true then(if now≤Cd.mid lo hi p then fin (sh 4 lo (Cd.mid lo hi p) now t a) t 1 else fin (sh 4 (Cd.mid lo hi p+1) hi now t a) t 0) else bad
def first(s:ByteArray):Int:=((at_ s 0*256+at_ s 1)*256+at_ s 2)*256+at_ s 3
def new(s:ByteArray):Int×Int×Int×ByteArray×Int×Int:=if s.size≤65536 then(0,4294967295,first s,s,4,0) else(0,0,0,⟨#[]⟩,0,500)
theorem stop{d:Nat}{lo hi now:Int}{t:ByteArray}{a:Int}(hn:¬lo / 16777216=hi / 16777216):sh d lo hi now t a=(lo,hi,now,a):=by
 cases d with
 |zero=>rfl
 |succ d=>simp only[sh];rw[if_neg hn]
end Dd
namespace Dd
theorem at_app_left(a b:ByteArray)(j:Int)(h0:0≤j)(h:j<(a.size:Int)):at_ (a++b) j=at_ a j:=by
 unfold at_;rw[if_pos h,if_pos (by rw[ByteArray.size_append];omega),if_pos h0,if_pos h0]
 congr 2
 rw[ByteArray.data_append,Array.toList_append,gD_,gD_,List.getElem?_append_left];have:a.data.toList.length=a.size:=by rw[Array.length_toList];rfl
 omega
theorem at_app_right(a b:ByteArray)(j:Int)(h:(a.size:Int)≤j):at_ (a++b) j=at_ b (j - a.size):=by
 unfold at_
 by_cases h1:j - a.size<(b.size:Int)
 ·rw[if_pos (by rw[ByteArray.size_append];omega),if_pos h1,if_pos (by omega),if_pos (by omega)]
  congr 2
  have e:a.data.toList.length=a.size:=by rw[Array.length_toList];rfl
  rw[ByteArray.data_append,Array.toList_append,gD_,gD_,List.getElem?_append_right (by omega),e]
  congr 2
  omega
 ·rw[if_neg (by rw[ByteArray.size_append];omega),if_neg h1]
theorem at_one(x:Int)(h0:0≤x)(h:x<256):at_ (strOfNums [x]) 0=x:=by
 unfold at_;rw[strOfNums_size,if_pos (by simp),if_pos (by omega)];simp only[strOfNums,List.map_cons,List.map_nil,gD_];simp;omega
def val(s:ByteArray)(a:Int):Int:=((at_ s a*256+at_ s (a+1))*256+at_ s (a+2))*256+at_ s (a+3)
theorem first_val(s:ByteArray):first s=val s 0:=rfl
theorem val_bd(s:ByteArray)(a:Int):0≤val s a∧val s a≤4294967295:=by
 unfold val;have b0:=at_bd s a;have b1:=at_bd s (a+1);have b2:=at_bd s (a+2);have b3:=at_bd s (a+3);omega
theorem val_next(s:ByteArray)(a:Int):val s a*256%4294967296+at_ s (a+4)=val s (a+1):=by
 unfold val;have b0:=at_bd s a;have b1:=at_bd s (a+1);have b2:=at_bd s (a+2);have b3:=at_bd s (a+3);have b4:=at_bd s (a+4);rw[show a+1+1=a+2 by omega,show a+1+2=a+3 by omega,show a+1+3=a+4 by omega];omega
theorem val_top(s:ByteArray)(a:Int):val s a=at_ s a*16777216+val s (a+1) / 256∧val s a / 16777216=at_ s a:=by
 unfold val;have b0:=at_bd s a;have b1:=at_bd s (a+1);have b2:=at_bd s (a+2);have b3:=at_bd s (a+3);have b4:=at_bd s (a+4);rw[show a+1+1=a+2 by omega,show a+1+2=a+3 by omega,show a+1+3=a+4 by omega];omega
def Has(s:ByteArray)(a:Int)(t:ByteArray):Prop:=∀j:Int,0≤j→j<t.size→at_ s (a+j)=at_ t j
theorem Has.nil(s:ByteArray)(a:Int):Has s a ⟨#[]⟩:=fun j h0 h=>by
 have:(ByteArray.mk #[]).size=0:=rfl;omega
theorem Has.app{s:ByteArray}{a:Int}{t u:ByteArray}(h:Has s a t)(g:Has s (a+t.size) u):Has s a (t++u):=fun j h0 hj=>by
 rw[ByteArray.size_append] at hj
 by_cases hl:j<(t.size:Int)
 ·rw[h j h0 hl,at_app_left t u j h0 hl]
 ·rw[at_app_right t u j (by omega),←g (j - t.size) (by omega) (by omega)]
  congr 1
  omega
theorem Has.left{s:ByteArray}{a:Int}{t u:ByteArray}(h:Has s a (t++u)):Has s a t:=fun j h0 hj=>by
 rw[h j h0 (by rw[ByteArray.size_append];omega),at_app_left t u j h0 hj]
theorem Has.right{s:ByteArray}{a:Int}{t u:ByteArray}(h:Has s a (t++u)):Has s (a+t.size) u:=fun j h0 hj=>by
 have:=h (t.size+j) (by omega) (by rw[ByteArray.size_append];omega);rw[at_app_right t u _ (by omega)] at this;rw[show a+(t.size:Int)+j=a+(t.size+j) by omega,this]
 congr 1
 omega
theorem Has.self(s t:ByteArray):Has (s++t) 0 s:=fun j h0 hj=>by rw[Int.zero_add,at_app_left s t j h0 hj]
theorem four_bytes(lo:Int)(h0:0≤lo)(h:lo≤4294967295):val (strOfNums (Cd.four lo)) 0=lo:=by
 have e:∀k:Nat,k<4→at_ (strOfNums (Cd.four lo)) (k:Int)=(Cd.four lo).getD k 0:=by
  intro k hk;unfold at_;rw[strOfNums_size,if_pos (by show(k:Int)<((Cd.four lo).length:Int);simp[Cd.four];omega),if_pos (by omega)];have:k=0∨k=1∨k=2∨k=3:=by omega
  unfold strOfNums Cd.four
  rcases this with rfl|rfl|rfl|rfl<;>simp[gD_]<;>omega
 unfold val;have e0:=e 0 (by omega);have e1:=e 1 (by omega);have e2:=e 2 (by omega);have e3:=e 3 (by omega);simp only[Cd.four,List.getD_cons_zero,List.getD_cons_succ] at e0 e1 e2 e3;have f0:at_ (strOfNums (Cd.four lo)) 0=lo / 16777216%256:=e0;have f1:at_ (strOfNums (Cd.four lo)) (0+1)=lo / 65536%256:=e1;have f2:at_ (strOfNums (Cd.four lo)) (0+2)=lo / 256%256:=e2;have f3:at_ (strOfNums (Cd.four lo)) (0+3)=lo%256:=e3;rw[f0,f1,f2,f3];omega
theorem val_app(s t:ByteArray):val (s++t) s.size=val t 0:=by
 unfold val;rw[at_app_right s t _ (by omega),at_app_right s t _ (by omega),at_app_right s t _ (by omega),at_app_right s t _ (by omega)];rw[show(s.size:Int) - s.size=0 by omega,show(s.size:Int)+1 - s.size=0+1 by omega,show(s.size:Int)+2 - s.size=0+2 by omega,show(s.size:Int)+3 - s.size=0+3 by omega]
theorem turns(d:Nat):∀(a c:Int) (out s:ByteArray) (x:Int),Cd.Inv d a c→a≤c→
  ∃(lo hi:Int) (t:ByteArray),Cd.sh d a c out=(lo,hi,out++t)∧t.size≤d∧0≤lo∧hi≤4294967295∧lo / 16777216<hi / 16777216∧
   sh d a c (val s x) s (x+4)=(lo,hi,val s (x+t.size),x+t.size+4)∧
   (Has s x t→lo≤val s (x+t.size)→val s (x+t.size)≤hi→a≤val s x∧val s x≤c)∧
   (a≤val s x→val s x≤c→Has s x t∧lo≤val s (x+t.size)∧val s (x+t.size)≤hi):=by
 induction d with
 |zero=>
  intro a c out s x hI hac;have hz:=hI.zero;obtain⟨h1,h2,h3,h4,h5,-⟩:=hI;have e0:((ByteArray.mk #[]).size:Int)=0:=rfl;refine⟨a,c,⟨#[]⟩,?_,Nat.le_refl _,h2,h5,by omega,?_,?_,?_⟩
  ·simp only[Cd.sh]
   congr 2
   apply ByteArray.ext;simp
  ·rw[e0,Int.add_zero];rfl
  ·rw[e0,Int.add_zero];exact fun _ h g=>⟨h,g⟩
  ·rw[e0,Int.add_zero];exact fun h g=>⟨Has.nil s x,h,g⟩
 |succ d ih=>
  intro a c out s x hI hac
  by_cases hg:a / 16777216=c / 16777216
  ·have hn:=hI.next hg
   have hr:Cd.sh (d+1) a c out=Cd.sh d (a*256%4294967296) (c*256%4294967296+255) (out++strOfNums [a / 16777216%256]):=by
    simp only[Cd.sh];rw[if_pos hg]
   have hr2:sh (d+1) a c (val s x) s (x+4)=sh d (a*256%4294967296) (c*256%4294967296+255) (val s (x+1)) s (x+1+4):=by
    simp only[sh];rw[if_pos hg,val_next,show x+1+4=x+4+1 by omega]
   obtain⟨h1,h2,h3,h4,h5,-⟩:=hI;obtain⟨lo,hi,t,q1,q2,q3,q4,q5,q6,q7,q8⟩:=ih _ _ (out++strOfNums [a / 16777216%256]) s (x+1) hn (by omega);have hz:(strOfNums [a / 16777216%256]).size=1:=strOfNums_size _;have hs:((strOfNums [a / 16777216%256]++t).size:Int)=1+t.size:=by rw[ByteArray.size_append,hz];omega
   have h1b:at_ (strOfNums [a / 16777216%256]) 0=a / 16777216%256:=at_one _ (by omega) (by omega);have hx:x+1+(t.size:Int)=x+((strOfNums [a / 16777216%256]++t).size:Int):=by omega
   rw[hx] at q6 q7 q8;have hv:=val_bd s x;have hv1:=val_bd s (x+1);have hvt:=val_top s x;refine⟨lo,hi,strOfNums [a / 16777216%256]++t,by rw[hr,q1,ByteArray.append_assoc],by omega,q3,q4,q5,by rw[hr2,q6],?_,?_⟩
   ·intro hh k1 k2;have hl:=hh.left 0 (by omega) (by rw[hz];decide);rw[Int.add_zero,h1b] at hl;have hrt:=hh.right;rw[hz] at hrt;obtain⟨z1,z2⟩:=q7 hrt k1 k2;omega
   ·intro k1 k2;have hl:at_ s x=a / 16777216%256:=by omega
    obtain⟨z1,z2,z3⟩:=q8 (by omega) (by omega);refine⟨Has.app ?_ (by rw[hz];exact z1),z2,z3⟩;intro j h0 hj;rw[hz] at hj;obtain rfl:j=0:=by omega
    rw[Int.add_zero,h1b,hl]
  ·rw[hI.stop out hg];obtain⟨h1,h2,h3,h4,h5,-⟩:=hI;have e0:((ByteArray.mk #[]).size:Int)=0:=rfl;refine⟨a,c,⟨#[]⟩,?_,Nat.zero_le _,h2,h5,by omega,?_,?_,?_⟩
   ·congr 2
    apply ByteArray.ext;simp
   ·rw[e0,Int.add_zero];exact stop hg
   ·rw[e0,Int.add_zero];exact fun _ h g=>⟨h,g⟩
   ·rw[e0,Int.add_zero];exact fun h g=>⟨Has.nil s x,h,g⟩
theorem bits(lo hi:Int)(out:ByteArray)(p:Int)(hm:Cd.may lo hi out=true)(hp:1≤p)(hp2:p≤4095)(hs:out.size+4≤65536)(s:ByteArray)(hss:s.size≤65536)(b:Int)(hb:b=0∨b=1):
  ∃lo' hi' t,Cd.bit lo hi out b p=(lo',hi',out++t,0)∧t.size≤4∧Cd.may lo' hi' (out++t)=true∧
   (Has s out.size t→lo'≤val s (out++t).size→val s (out++t).size≤hi'→
    lo≤val s out.size∧val s out.size≤hi∧bit lo hi (val s out.size) s ((out.size:Int)+4) p=(lo',hi',val s (out++t).size,s,((out++t).size:Int)+4,b,0))∧
   (lo≤val s out.size→val s out.size≤hi→(b=1↔val s out.size≤Cd.mid lo hi p)→
    Has s out.size t∧lo'≤val s (out++t).size∧val s (out++t).size≤hi'∧bit lo hi (val s out.size) s ((out.size:Int)+4) p=(lo',hi',val s (out++t).size,s,((out++t).size:Int)+4,b,0)):=by
 obtain⟨h1,h2,h3,h4⟩:0≤lo∧hi≤4294967295∧lo / 16777216<hi / 16777216∧out.size≤65536:=od_ hm;have hlo:=Cd.mid_lo (show lo≤hi by omega) (show 0≤p by omega);have hhi:=Cd.mid_hi (show lo<hi by omega) (show 0≤p by omega) hp2;have hc:Cd.chance p=true:=dt_ ⟨hp,hp2⟩;have hmay:∀v:Int,lo≤v→v≤hi→may lo hi v s (out.size+4)=true:=fun v k1 k2=>dt_ ⟨h1,h2,h3,k1,k2,hss,by omega,by omega⟩
 have key:∀a c:Int,(b=1→a=lo∧c=Cd.mid lo hi p)→(b=0→a=Cd.mid lo hi p+1∧c=hi)→∃lo' hi' t,Cd.bit lo hi out b p=(lo',hi',out++t,0)∧t.size≤4∧Cd.may lo' hi' (out++t)=true∧
   (Has s out.size t→lo'≤val s (out++t).size→val s (out++t).size≤hi'→
    lo≤val s out.size∧val s out.size≤hi∧bit lo hi (val s out.size) s ((out.size:Int)+4) p=(lo',hi',val s (out++t).size,s,((out++t).size:Int)+4,b,0))∧
   (lo≤val s out.size→val s out.size≤hi→(b=1↔val s out.size≤Cd.mid lo hi p)→
    Has s out.size t∧lo'≤val s (out++t).size∧val s (out++t).size≤hi'∧bit lo hi (val s out.size) s ((out.size:Int)+4) p=(lo',hi',val s (out++t).size,s,((out++t).size:Int)+4,b,0)):=by
  intro a c e1 e0
  have hac:0≤a∧a≤c∧c≤4294967295∧lo≤a∧c≤hi:=by
   rcases hb with rfl|rfl
   ·obtain⟨rfl,rfl⟩:=e0 rfl;omega
   ·obtain⟨rfl,rfl⟩:=e1 rfl;omega
  obtain⟨lo',hi',t,q1,q2,q3,q4,q5,q6,q7,q8⟩:=turns 4 a c out s out.size (Cd.Inv.start (by omega) (by omega) (by omega) (by omega)) hac.2.1;have hsz:((out++t).size:Int)=out.size+t.size:=by rw[ByteArray.size_append];omega
  rw[←hsz] at q6 q7 q8
  have hcb:Cd.bit lo hi out b p=(lo',hi',out++t,0):=by
   unfold Cd.bit;rw[if_pos ⟨hm,hb,hc⟩]
   have e:(if b=1 then Cd.sh 4 lo (Cd.mid lo hi p) out else Cd.sh 4 (Cd.mid lo hi p+1) hi out)=Cd.sh 4 a c out:=by
    rcases hb with rfl|rfl
    ·rw[if_neg (by decide),(e0 rfl).1,(e0 rfl).2]
    ·rw[if_pos rfl,(e1 rfl).1,(e1 rfl).2]
   rw[e,q1];unfold Cd.fin;rw[if_pos (by rw[ByteArray.size_append];omega)]
  have hdb:lo≤val s out.size→val s out.size≤hi→(b=1↔val s out.size≤Cd.mid lo hi p)→bit lo hi (val s out.size) s ((out.size:Int)+4) p=(lo',hi',val s (out++t).size,s,((out++t).size:Int)+4,b,0):=by
   intro k1 k2 hbit;unfold bit;rw[if_pos ⟨hmay _ k1 k2,hc⟩]
   have hfin:∀bb:Int,fin (lo',hi',val s (out++t).size,((out++t).size:Int)+4) s bb=(lo',hi',val s (out++t).size,s,((out++t).size:Int)+4,bb,0):=fun bb=>by
    unfold fin;rw[if_pos (by show((out++t).size:Int)+4≤65544;omega)]
   by_cases hn:val s out.size≤Cd.mid lo hi p
   ·rw[if_pos hn];have h1:=hbit.2 hn;rw[←(e1 h1).1,←(e1 h1).2] at*;rw[q6,hfin,h1]
   ·rw[if_neg hn];have h0:b=0:=hb.resolve_right fun h=>hn (hbit.1 h)
    have q6':=q6;rw[(e0 h0).1,(e0 h0).2] at q6';rw[q6',hfin,h0]
  refine⟨lo',hi',t,hcb,q2,dt_ ⟨q3,q4,q5,by rw[ByteArray.size_append];omega⟩,?_,?_⟩
  ·intro hh k1 k2;obtain⟨z1,z2⟩:=q7 hh k1 k2;refine⟨by omega,by omega,hdb (by omega) (by omega) ?_⟩
   rcases hb with rfl|rfl
   ·obtain⟨r1,r2⟩:=e0 rfl;exact⟨fun h=>absurd h (by decide),fun h=>by omega⟩
   ·obtain⟨r1,r2⟩:=e1 rfl;exact⟨fun _=>by omega,fun _=>rfl⟩
  ·intro k1 k2 hbit
   have:a≤val s out.size∧val s out.size≤c:=by
    rcases hb with rfl|rfl
    ·obtain⟨r1,r2⟩:=e0 rfl;have:¬val s out.size≤Cd.mid lo hi p:=fun h=>absurd (hbit.2 h) (by decide)
     omega
    ·obtain⟨r1,r2⟩:=e1 rfl;have:=hbit.1 rfl;omega
   obtain⟨z1,z2,z3⟩:=q8 this.1 this.2;exact⟨z1,z2,z3,hdb k1 k2 hbit⟩
 rcases hb with rfl|rfl
 ·exact key _ _ (fun h=>absurd h (by decide)) (fun _=>⟨rfl,rfl⟩)
 ·exact key _ _ (fun _=>⟨rfl,rfl⟩) (fun h=>absurd h (by decide))
end Dd
namespace Tz
theorem and_neg(t m:Nat)(hm:m%2=1)(h:2 ^ t*m<2 ^ 64):(2 ^ t*m) &&& (2 ^ 64 - 2 ^ t*m)=2 ^ t:=by
 obtain⟨q,rfl⟩:∃q,m=2*q+1:=⟨m / 2,by omega⟩;have hp:=Nat.two_pow_pos t;have e1:2 ^ t*(2*q+1)=2 ^ (t+1)*q+2 ^ t:=by rw[Nat.pow_succ,Nat.mul_add,Nat.mul_one,Nat.mul_assoc]
 have e2:2 ^ (t+1)*q+2 ^ t=(2 ^ (t+1)*q+(2 ^ t - 1))+1:=by omega
 have hl:2 ^ t<2 ^ (t+1):=Nat.pow_lt_pow_right (by omega) (by omega)
 have ht:t<64:=by
  apply Classical.byContradiction;intro hn;have h1:2 ^ 64≤2 ^ t:=Nat.pow_le_pow_right (by omega) (by omega);have h2:2 ^ t*1≤2 ^ t*(2*q+1):=Nat.mul_le_mul_left _ (by omega);omega
 apply Nat.eq_of_testBit_eq;intro i;rw[Nat.testBit_and]
 have e3:(2 ^ 64 - 2 ^ t*(2*q+1)).testBit i=(decide (i<64) && !(2 ^ (t+1)*q+(2 ^ t - 1)).testBit i):=by
  rw[e1,e2] at h ⊢;exact Nat.testBit_two_pow_sub_succ (by omega) i
 rw[e3,e1,Nat.testBit_two_pow_mul_add q hl,Nat.testBit_two_pow_mul_add q (show 2 ^ t - 1<2 ^ (t+1) by omega),Nat.testBit_two_pow,Nat.testBit_two_pow_sub_one]
 by_cases hi:i<t+1
 ·rw[if_pos hi,if_pos hi]
  by_cases h0:t=i
  ·subst h0;simp[ht]
  ·simp[h0]
 ·rw[if_neg hi,if_neg hi];have:¬t=i:=by omega
  cases q.testBit (i - (t+1))<;>simp[this]
theorem deb_at:∀t:Fin 64,Sq.deb.getD ((2 ^ t.val*285870213051353865)%18446744073709551616 / 288230376151711744) 0=(t.val:Int):=by decide+kernel
def tz:Nat→Nat→Nat
 |0,_=>0
 |f+1,x=>if x%2=1 then 0 else tz f (x / 2)+1
theorem tz_spec:∀f x,0<x→x<2 ^ f→∃m,m%2=1∧x=2 ^ tz f x*m:=by
 intro f
 induction f with
 |zero=>intro x h0 h1;rw[Nat.pow_zero] at h1;omega
 |succ f ih=>
  intro x h0 h1
  by_cases hx:x%2=1
  ·exact⟨x,hx,by rw[tz,if_pos hx,Nat.pow_zero,Nat.one_mul]⟩
  ·obtain⟨m,hm,he⟩:=ih (x / 2) (by omega) (by rw[Nat.pow_succ] at h1;omega);refine⟨m,hm,?_⟩;rw[tz,if_neg hx,Nat.pow_succ,Nat.mul_right_comm,←he];omega
end Tz
theorem tz64_calls(t m:Nat)(w:World)(hT:Tabs w)(hm:m%2=1)(h:2 ^ t*m<2 ^ 64)(ht:t<64):Calls Tryz.prog 158 #[.int .u64 ((2 ^ t*m:Nat):Int)] w fun e w'=>e= .returned (.int .i64 t)∧∃n,w'=w.drewN n:=by
 have ha:=Tz.and_neg t m hm h;have hp:0<2 ^ t*m:=Nat.mul_pos (Nat.two_pow_pos t) (by omega);obtain⟨x,hx⟩:∃x,2 ^ t*m=x:=⟨_,rfl⟩;rw[hx] at ha h hp ⊢;obtain⟨y,hy⟩:∃y,2 ^ t=y:=⟨_,rfl⟩;rw[hy] at ha;have hd:=Tz.deb_at ⟨t,ht⟩;have hd':Sq.deb.getD ((y*285870213051353865)%18446744073709551616 / 288230376151711744) 0=(t:Int):=by rw[←hy];exact hd
 have e1:(-(x:Int))%18446744073709551616=((2 ^ 64 - x:Nat):Int):=by omega
 have e2:Go.bits .and .u64 (x:Int) ((2 ^ 64 - x:Nat):Int)=(y:Int):=by rw[u64_and_nat x (2 ^ 64 - x) (by omega) (by omega),ha]
 obtain⟨i,hi⟩:∃i,(y*285870213051353865)%18446744073709551616 / 288230376151711744=i:=⟨_,rfl⟩;rw[hi] at hd';have Qw:i<64:=by omega
 have e3:(y:Int)*285870213051353865%18446744073709551616 / 288230376151711744=(i:Int):=by rw[←hi,Int.natCast_ediv,Int.natCast_emod,Int.natCast_mul];rfl
 have hc:=hT.db i Qw;rw[hd'] at hc;have hne:((x:Int)==0)=false:=beq_eq_false_iff_ne.mpr (by omega);have ht':(t:Int)<64:=by omega
 have hoff:IntKind.u64.wrap (Go.bits .and .u64 (x:Int) (IntKind.u64.wrap (-(x:Int)))*285870213051353865) / 288230376151711744=(i:Int):=by
  rw[IntKind.wrap_u64,IntKind.wrap_u64,e1,e2,e3]
 have hi0:(0:Int)≤i:=by omega
 have hi1:(i:Int)<64:=by omega
 clear hT ha h hm hx hy hd hd' e1 e2 e3 hi hp
 go_enter Tryz.func158,Tryz.ntmps158
 go_wp2;go_ret;exact⟨rfl,0,rfl⟩
theorem tz_calls(t m:Nat)(w:World)(hT:Tabs w)(hm:m%2=1)(h:2 ^ t*m<2 ^ 64)(ht:t<64):Calls Tryz.prog 141 #[.int .u64 ((2 ^ t*m:Nat):Int)] w fun e w'=>e= .returned (.int .i64 t)∧∃n,w'=w.drewN n:=by
 have C:=Lib.hid (tz64_calls t m w hT hm h ht);obtain⟨x,hx⟩:∃x,2 ^ t*m=x:=⟨_,rfl⟩;rw[hx] at C ⊢;clear hT h hx
 go_enter Tryz.func141,Tryz.ntmps141
 go_wp2_with fail
 refine C.out.mono ?_;rintro e w1 ⟨rfl,⟨n,rfl⟩⟩;go_wp2;go_ret;exact⟨rfl,n,rfl⟩
def uu(x:Int):Nat:=(x%18446744073709551616).toNat
theorem uu_lt(x:Int):uu x<2 ^ 64:=by unfold uu;omega
theorem uu_or(a b:Int):uu (Go.bits .or .i64 a b)=uu a ||| uu b:=by
 have h:Go.bits .or .i64 a b=IntKind.i64.wrap ((BitVec.ofInt 64 a ||| BitVec.ofInt 64 b).toNat:Int):=rfl;have h1:=(BitVec.ofInt 64 a ||| BitVec.ofInt 64 b).isLt
 have h2:(BitVec.ofInt 64 a ||| BitVec.ofInt 64 b).toNat=uu a ||| uu b:=by
  rw[BitVec.toNat_or,BitVec.toNat_ofInt,BitVec.toNat_ofInt];rfl
 rw[h2] at h1;rw[h,h2,IntKind.wrap_i64];generalize uu a ||| uu b=n at h1;unfold uu;omega
theorem or_range(a b:Int): -9223372036854775808≤Go.bits .or .i64 a b∧Go.bits .or .i64 a b≤9223372036854775807:=by
 have h:Go.bits .or .i64 a b=IntKind.i64.wrap ((BitVec.ofInt 64 a ||| BitVec.ofInt 64 b).toNat:Int):=rfl;rw[h,IntKind.wrap_i64];omega
def orL(l:List Int):Int:=l.foldl (Go.bits .or .i64) 0
theorem orL_snoc(l:List Int)(x:Int):orL (l++ [x])=Go.bits .or .i64 (orL l) x:=by unfold orL;rw[List.foldl_append];rfl
theorem foldl_range(l:List Int):∀a,-9223372036854775808≤a∧a≤9223372036854775807→ -9223372036854775808≤l.foldl (Go.bits .or .i64) a∧l.foldl (Go.bits .or .i64) a≤9223372036854775807:=by
 induction l with
 |nil=>intro a h;exact h
 |cons x r ih=>intro a _;exact ih _ (or_range a x)
theorem orL_range(l:List Int): -9223372036854775808≤orL l∧orL l≤9223372036854775807:=foldl_range l 0 ⟨by decide,by decide⟩
def wastedOne(l:List Int):Nat:=if orL l=0 then 0 else min (Tz.tz 64 (uu (orL l))) 15
theorem or_mod{a b t:Nat}(h:(a ||| b)%2 ^ t=0):a%2 ^ t=0∧b%2 ^ t=0:=by
 have hb:∀i,i<t→a.testBit i=false∧b.testBit i=false:=by
  intro i hi;have h1:=Nat.testBit_mod_two_pow (a ||| b) t i;rw[h,Nat.zero_testBit,Nat.testBit_or] at h1;simp[hi] at h1;exact h1
 constructor
 ·apply Nat.eq_of_testBit_eq;intro i;rw[Nat.testBit_mod_two_pow,Nat.zero_testBit]
  by_cases hi:i<t
  ·rw[(hb i hi).1,Bool.and_false]
  ·simp[hi]
 ·apply Nat.eq_of_testBit_eq;intro i;rw[Nat.testBit_mod_two_pow,Nat.zero_testBit]
  by_cases hi:i<t
  ·rw[(hb i hi).2,Bool.and_false]
  ·simp[hi]
theorem foldl_mod(t:Nat)(l:List Int):∀a,uu (l.foldl (Go.bits .or .i64) a)%2 ^ t=0→uu a%2 ^ t=0∧∀x∈l,uu x%2 ^ t=0:=by
 induction l with
 |nil=>intro a h;exact⟨h,fun x hx=>by cases hx⟩
 |cons x r ih=>
  intro a h;obtain⟨h1,h2⟩:=ih _ h;rw[uu_or] at h1;obtain⟨h3,h4⟩:=or_mod h1;refine⟨h3,fun y hy=>?_⟩
  rcases List.mem_cons.1 hy with rfl|hy
  ·exact h4
  ·exact h2 y hy
theorem uu_dvd{x:Int}{t:Nat}(ht:t≤15)(h:uu x%2 ^ t=0):x%(2 ^ t:Nat)=0:=by
 unfold uu at h
 have hd:((2 ^ t:Nat):Int) ∣ 18446744073709551616:=by
  have:(2 ^ t) ∣ (2 ^ 64):=Nat.pow_dvd_pow 2 (by omega);exact Int.natCast_dvd_natCast.2 this
 have h1:((x%18446744073709551616).toNat:Int)%(2 ^ t:Nat)=0:=by rw[←Int.natCast_emod,h];rfl
 rw[Int.toNat_of_nonneg (Int.emod_nonneg _ (by decide)),Int.emod_emod_of_dvd _ hd] at h1;exact h1
theorem tz_mod{x:Nat}(h0:0<x)(h:x<2 ^ 64)(k:Nat)(hk:k≤Tz.tz 64 x):x%2 ^ k=0:=by
 obtain⟨m,hm,he⟩:=Tz.tz_spec 64 x h0 h
 have:2 ^ k ∣ x:=by
  rw[he];exact Nat.dvd_trans (Nat.pow_dvd_pow 2 hk) (Nat.dvd_mul_right _ _)
 exact Nat.mod_eq_zero_of_dvd this
theorem uu_pos{x:Int}(h:x≠0)(h1: -9223372036854775808≤x∧x≤9223372036854775807):0<uu x:=by unfold uu;omega
theorem wastedOne_dvd(l:List Int)(k:Nat)(hk:k≤wastedOne l):∀x∈l,x%(2 ^ k:Nat)=0:=by
 intro x hx;unfold wastedOne at hk
 by_cases h0:orL l=0
 ·rw[if_pos h0] at hk;obtain rfl:k=0:=by omega
  show x%((1:Nat):Int)=0;omega
 ·rw[if_neg h0] at hk;have h1:=tz_mod (uu_pos h0 (orL_range l)) (uu_lt _) k (by omega);exact uu_dvd (by omega) ((foldl_mod k l 0 h1).2 x hx)
theorem wasted1_calls(A0:Option Addr)(c0:Nat)(l:List Int)(w:World)(hT:Tabs w)(hr0:Kd.C (Kd.int .i64) w A0 l.length l)(hc0:l.length≤c0)(hs:l.any smOdd=false):
  Calls Tryz.prog 115 #[.slice A0 l.length c0] w fun e w'=>e= .returned (.tuple #[.int .i64 (wastedOne l),.int .i64 0])∧∃n,w'=w.drewN n:=by
 have MAY:=Lib.hid (shift_may.calls A0 c0 l 0 true w hr0 hc0 (by unfold shift_may.f;rw[hs];rfl));have cO:=Z_ hr0;have hl:=hr0.2.1;have T0:=Z_ hT;clear hr0 hT hs
 go_enter Tryz.func115,Tryz.ntmps115
 go_wp2_with fail
 refine MAY.out.mono ?_;rintro e w1 ⟨rfl,⟨⟨n0,rfl⟩⟩⟩;go_wp2
 go_loopg [4,12] l.length (fun d v4 v12 wr=>∃i:Nat,v12= .int .i64 i∧i+d=l.length∧v4= .int .i64 (orL (l.take i))∧Drawn0 w wr)
 case atStart=>exact⟨0,rfl,by omega,rfl,⟨⟨_,rfl⟩⟩⟩
 case round=>
  obtain⟨i,rfl,hi,rfl,⟨⟨n1,rfl⟩⟩⟩:=hrel
  cases gk with
  |zero=>
   obtain rfl:i=l.length:=by omega
   rw[List.take_of_length_le (Nat.le_refl _)];have hrg:=orL_range l;have R:Hid (wastedOne l=if orL l=0 then 0 else min (Tz.tz 64 (uu (orL l))) 15):=rfl;obtain⟨a,ha⟩:∃a,orL l=a:=⟨_,rfl⟩;rw[ha] at hrg R ⊢
   by_cases h0:a=0
   ·have RR:Hid ((wastedOne l:Int)=0):=by show _=_;rw[R.out,if_pos h0];rfl
    have h0':(a==0)=true:=beq_iff_eq.mpr h0;clear ha R h0;go_wp2;go_ret2;exact⟨by rw[RR.out];rfl,n1,rfl⟩
   ·have RR:Hid ((wastedOne l:Int)=((min (Tz.tz 64 (uu a)) 15:Nat):Int)):=by show _=_;rw[R.out,if_neg h0]
    have h0':(a==0)=false:=beq_eq_false_iff_ne.mpr h0;obtain⟨m,hm,he⟩:=Tz.tz_spec 64 (uu a) (uu_pos h0 hrg) (uu_lt a);obtain⟨t,ht⟩:∃t,Tz.tz 64 (uu a)=t:=⟨_,rfl⟩;rw[ht] at he RR
    have Qx:t<64:=by
     apply Classical.byContradiction;intro hn;have h1:2 ^ 64≤2 ^ t:=Nat.pow_le_pow_right (by omega) (by omega);have h2:2 ^ t*1≤2 ^ t*m:=Nat.mul_le_mul_left _ (by omega);have h3:=uu_lt a;omega
    have hu:IntKind.u64.wrap a=((2 ^ t*m:Nat):Int):=by rw[IntKind.wrap_u64,←he];unfold uu;omega
    have CALL:=Lib.hid (tz_calls t m (w.drewN n1) (T0.out.below (pw_below_drewN (Below.refl _ _) n1)) hm (he▸uu_lt a) Qx);rw[←hu] at CALL;clear ha R h0 hm he ht hu
    go_wp2_with fail
    refine CALL.out.mono ?_;rintro e w2 ⟨rfl,⟨n2,rfl⟩⟩
    by_cases Vv:¬(15:Int)<t
    ·have RT:Hid ((wastedOne l:Int)=t):=by show _=_;rw[RR.out];omega
     go_wp2;go_ret2;exact⟨by rw[RT.out];rfl,_,rfl⟩
    ·have RT:Hid ((wastedOne l:Int)=15):=by show _=_;rw[RR.out];omega
     have Vw:(15:Int)<t:=by omega
     go_wp2;go_ret2;exact⟨by rw[RT.out];rfl,_,rfl⟩
  |succ d=>
   have hlt:i<l.length:=by omega
   have hlt':(i:Int)<l.length:=by omega
   have hi0:(0:Int)≤i:=by omega
   obtain⟨ad,e_,hx_⟩:=Kd.at_int (Kd.C_below cO.out (pw_below_drewN (Below.refl _ _) n1)) (i:Int) hi0 hlt'
   cases e_
   rw[nC_] at hx_;have hrd:rd l (i:Int)=l.getD i 0:=by unfold rd;rw[nC_]
   rw[hrd] at hx_
   have hs:l.take (i+1)=l.take i++ [l.getD i 0]:=by
    rw[List.take_succ_eq_append_getElem hlt,gD_,gE_ hlt];rfl
   have ho:=orL_snoc (l.take i) (l.getD i 0);rw[←hs] at ho;obtain⟨x,hx⟩:∃x,l.getD i 0=x:=⟨_,rfl⟩;rw[hx] at hx_ ho;obtain⟨a,ha⟩:∃a,orL (l.take i)=a:=⟨_,rfl⟩;rw[ha] at ho ⊢;have HO:=Lib.hid ho;clear hrd hs ho hx ha;go_wp2
   go_roundg d
   case measure=>omega
   case rel=>exact⟨i+1,by go_num,by omega,by rw[HO.out],⟨⟨_,rfl⟩⟩⟩
def wstep(o:Nat)(xs:List Int):Nat:=if xs.any nz=true then min o (wastedOne xs) else o
def wastedL(chs:List (List Int)):Nat:=chs.foldl wstep 15
theorem wstep_le(o:Nat)(xs:List Int):wstep o xs≤o:=by unfold wstep;split<;>omega
theorem foldl_wstep_le(l:List (List Int)):∀o,l.foldl wstep o≤o:=by
 induction l with
 |nil=>intro o;exact Nat.le_refl _
 |cons x r ih=>intro o;exact Nat.le_trans (ih _) (wstep_le o x)
theorem wastedL_le(l:List (List Int)):wastedL l≤15:=foldl_wstep_le l 15
theorem foldl_wstep_dvd(l:List (List Int)):∀o,∀xs∈l,∀x∈xs,x%(2 ^ (l.foldl wstep o):Nat)=0:=by
 induction l with
 |nil=>intro o xs hx;cases hx
 |cons y r ih=>
  intro o xs hx x hxx
  rcases List.mem_cons.1 hx with rfl|hx
  ·have hle:(xs::r).foldl wstep o≤wstep o xs:=foldl_wstep_le r _
   by_cases hn:xs.any nz=true
   ·have e:wstep o xs=min o (wastedOne xs):=by unfold wstep;rw[if_pos hn]
    rw[e] at hle;exact wastedOne_dvd xs _ (by omega) x hxx
   ·have h0:x=0:=by
     have:=List.any_eq_false.1 (Bool.eq_false_iff.mpr hn) x hxx;unfold nz at this
     simpa using this
    rw[h0];exact Int.zero_emod _
  ·exact ih _ xs hx x hxx
theorem wastedL_dvd(l:List (List Int)):∀xs∈l,∀x∈xs,x%(2 ^ wastedL l:Nat)=0:=foldl_wstep_dvd l 15
theorem wastedL_take(l:List (List Int))(i:Nat)(h:i<l.length):wastedL (l.take (i+1))=wstep (wastedL (l.take i)) (l.getD i []):=by
 have hs:l.take (i+1)=l.take i++ [l.getD i []]:=by
  rw[List.take_succ_eq_append_getElem h,gD_,gE_ h];rfl
 rw[hs];unfold wastedL;rw[List.foldl_append];rfl
theorem wasted_calls(A0:Option Addr)(c0:Nat)(l0:List (List Int))(w:World)(hT:Tabs w)(hr0:Kd.C (Kd.slice 3 (Kd.int .i64)) w A0 l0.length l0)(hs:∀xs∈l0,xs.any smOdd=false):
  Calls Tryz.prog 82 #[.slice A0 l0.length c0] w fun e w'=>e= .returned (.int .i64 (wastedL l0))∧∃n,w'=w.drewN n:=by
 have cO:=Z_ hr0;have T0:=Z_ hT;have HS:=Z_ hs;have hlm:l0.length≤9223372036854775807:=hr0.2.1;clear hr0 hT hs
 go_enter Tryz.func82,Tryz.ntmps82
 go_wp2
 go_loopg [3,10] l0.length (fun d v3 v10 wr=>∃i:Nat,v10= .int .i64 i∧i+d=l0.length∧v3= .int .i64 (wastedL (l0.take i))∧Drawn0 w wr)
 case atStart=>exact⟨0,rfl,by omega,rfl,Drawn0.refl _⟩
 case round=>
  obtain⟨i,rfl,hi,rfl,⟨⟨n1,rfl⟩⟩⟩:=hrel
  cases gk with
  |zero=>
   obtain rfl:i=l0.length:=by omega
   rw[List.take_of_length_le (Nat.le_refl _)];go_wp2;go_ret;exact⟨rfl,n1,rfl⟩
  |succ d=>
   have hlt:i<l0.length:=by omega
   have hlt':(i:Int)<l0.length:=by omega
   have hi0:(0:Int)≤i:=by omega
   obtain⟨ad,A1,c1,e_,hx_,hl_,hi_⟩:=at_L1 cO.out (i:Int) hi0 hlt'
   cases e_
   have r1:rd_L1 l0 (i:Int)=l0.getD i []:=by unfold rd_L1;rw[nC_]
   rw[r1] at hx_ hi_ hl_;rw[nC_] at hx_;have hst:=wastedL_take l0 i hlt;have hso:=HS.out (l0.getD i []) (by rw[gD_,gE_ hlt];exact List.getElem_mem _);obtain⟨xs,hxs⟩:∃x,l0.getD i []=x:=⟨_,rfl⟩;rw[hxs] at hx_ hi_ hl_ hst hso;obtain⟨o,ho⟩:∃o,wastedL (l0.take i)=o:=⟨_,rfl⟩;rw[ho] at hst ⊢;have HC:=Lib.hid hi_;have HL:=Lib.hid hl_;have HO:=Lib.hid hso;have CC:=Lib.hid (fun m=>nzAny_calls A1 c1 xs (w.drewN m) (Kd.C_drewN HC.out m) hi_.2.1)
   by_cases hp:xs.any nz=true
   ·have e2:wstep o xs=min o (wastedOne xs):=by unfold wstep;rw[if_pos hp]
    rw[e2] at hst;have CW:=Lib.hid (fun m=>wasted1_calls A1 c1 xs (w.drewN m) (T0.out.below (pw_below_drewN (Below.refl _ _) m)) (Kd.C_drewN HC.out m) HL.out HO.out);obtain⟨q,hq⟩:∃q,wastedOne xs=q:=⟨_,rfl⟩;rw[hq] at hst CW;have HP:=Lib.hid hp;have HST:=Lib.hid hst;clear hxs r1 hi_ hl_ hst hso ho e2 hq hp
    go_wp2_with fail
    refine(CC.out _).mono ?_;rintro e w1 ⟨rfl,⟨n2,rfl⟩⟩;rw[HP.out]
    by_cases hlt2:(q:Int)<o
    ·have R:Hid (((wastedL (l0.take (i+1)):Nat):Int)=q):=by show _=_;rw[HST.out];omega
     go_wp2_with fail
     refine(CW.out _).mono ?_;rintro e w1 ⟨rfl,⟨n3,rfl⟩⟩;go_wp2
     go_roundg d
     case measure=>omega
     case rel=>exact⟨i+1,by go_num,by omega,by rw[R.out],⟨⟨_,rfl⟩⟩⟩
    ·have R:Hid (((wastedL (l0.take (i+1)):Nat):Int)=o):=by show _=_;rw[HST.out];omega
     go_wp2_with fail
     refine(CW.out _).mono ?_;rintro e w1 ⟨rfl,⟨n3,rfl⟩⟩;go_wp2
     go_roundg d
     case measure=>omega
     case rel=>exact⟨i+1,by go_num,by omega,by rw[R.out],⟨⟨_,rfl⟩⟩⟩
   ·have e2:wstep o xs=o:=by unfold wstep;rw[if_neg hp]
    rw[e2] at hst;replace hp:xs.any nz=false:=Bool.eq_false_iff.mpr hp;have HP:=Lib.hid hp;have HST:=Lib.hid hst;clear hxs r1 hi_ hl_ hst hso ho e2 hp
    go_wp2_with fail
    refine(CC.out _).mono ?_;rintro e w1 ⟨rfl,⟨n2,rfl⟩⟩;rw[HP.out];go_wp2
    go_roundg d
    case measure=>omega
    case rel=>exact⟨i+1,by go_num,by omega,by rw[HST.out],⟨⟨_,rfl⟩⟩⟩
end Go.Proofs.YtfghldonnffldaaGreatDoor
