/- TopMono: for every slice of numbers the law's call returns true (two channels that are the same take at most four bytes a frame more than one) and its input reads as it did; the call begins where the three listed tables hold what the program's own text lays. -/
import Derived.Test.YtfghldonnffldaaGreatDoorProg
import Derived.Below
import Derived.Deep.Draws
import Derived.Deep.AppendLies
import Derived.Maps.AppendAt
import Derived.OwnWalk
import Derived.Laws.BytesArg
import Derived.Laws.MakeOwn
import Derived.Laws.OwnMore
import Derived.Deep.OwnRows
import Derived.Tactics
import Derived.Lib.ConvBytes
import Derived.Laws.Slices
import Derived.WalkKit
import Derived.KernelRfl
import Derived.RowKit3
import Derived.Deep.LoopGhost
import Derived.Deep.QuietTactic
import Derived.BigQuiet
import Derived.WideLaws
import Derived.Deep.DeepCutAuto
import Derived.Deep.CutBlock
import Derived.Deep.RegionHeld3
import Derived.Laws.Rows
import Derived.Lib.AppendStr
import Derived.ArgAppend
import Derived.Laws.IdiomCopy
import Derived.OrdersHeld
import Derived.Laws.BitsLemmas
import Derived.RowKit
import Derived.Test.YtfghldonnffldaaGreatDoorRows
import Derived.Lib.LaidTab
import Derived.Stop.LaidErr
import Derived.Deep.DeepHandedRow
import Derived.ProofKit
import Derived.OpenShut
import Derived.ShutString
import Derived.ChangeOld
import Derived.SizedLaws
import Derived.Test.YtfghldonnffldaaGreatDoorCards
import Derived.Test.YtfghldonnffldaaGreatDoorTie
import Derived.SevenTiedAt
import Derived.LaidLaws
import Derived.Test.YtfghldonnffldaaGreatDoorMono4
set_option linter.unusedVariables false
set_option linter.unusedSimpArgs false
set_option maxRecDepth 100000
set_option maxHeartbeats 8000000
namespace Go.Proofs.YtfghldonnffldaaGreatDoor
open Go.RowKit Go.Proofs.YtfghldonnffldaaGreatDoorW.PrintWords Go.Proofs.YtfghldonnffldaaGreatDoorW.PrintLast Go.Proofs.YtfghldonnffldaaGreatDoorW.PrintMore Go.Proofs.YtfghldonnffldaaGreatDoor.TBase
open Go.Proofs.YtfghldonnffldaaGreatDoor.YFou Go.Proofs.YtfghldonnffldaaGreatDoor.ESev Go.Proofs.YtfghldonnffldaaGreatDoor.ZFiv
def dec.T13 : Bool × List (List Nat × List Nat) := (true, [([], []), ([0], [0]), ([], []), ([2], [2]), ([], []), ([], []), ([5], [5]), ([1, 3, 4, 6], [1, 3, 4, 6]), ([7, 4], [7]), ([8], [8]), ([9], [9]), ([9], [9]), ([10, 8, 0, 1, 2, 3, 4, 5, 6, 7, 8, 9, 10], [10]), ([11, 12, 0, 1, 2, 3, 4, 5, 6, 7, 8, 9, 10, 11, 12], [11])])
def dec.B13 : List Nat := [0, 1, 0, 4, 0, 0, 32, 127, 255, 511, 1023, 1023, 2047, 8191]
theorem dec.tab13 : rtab .any (opsOf Tryz.f13 13) = dec.T13 := by kernel_rfl
theorem dec.bits13 : waitsOk dec.T13.2 dec.B13 = true := by kernel_rfl
theorem decode_calls (k k2 : Nat) (s : ByteArray) (ch bi sz fr : Nat) (hd tl : ByteArray) (l D : List ByteArray) (p1 p2 p3 p5 q : Nat) (r : ByteArray) (w : World) (hT : Tabs w) (ho : StrOk s ch bi sz fr hd tl l p1 p2 p3 p5 q) (hD : D.length = l.length) (hds : ∀ i, i < l.length → file_whole_data.f k ch bi sz fr hd tl l (i : Int) = some (D.getD i ByteArray.empty, true)) (hdt : tot D ≤ 140737488355328) (hb : wave_Build.f k2 ch bi hd ⟨(flat D).toArray⟩ tl = some (r, 0)) :
  Calls Tryz.prog 13 #[.string s] w fun e w' => e = .returned (.tuple #[.string r, .int .i64 0]) ∧ Below w.heap.size w w' := by
 have hu49 := Tryz.underlying49
 have hu23 := Tryz.underlying23
 have hu57 := Tryz.underlying57
 have HT := Z_ hT
 have HDS := Z_ hds
 have HBD := Lib.hid hb
 have HDL := Lib.hid hD
 have hll : l.length ≤ 65536 := by have h2 := ho.hq; have h3 := ho.fin; have h4 := ho.size; omega
 have SG := Lib.hid (sget_calls s ch bi sz fr hd tl l p1 p2 p3 p5 q w ho)
 clear hT hds hb hD ho
 go_enter Tryz.func13, Tryz.ntmps13
 go_wp2_with fail
 refine SG.out.mono ?_
 rintro e w1 ⟨v0, rfl, hr, hb⟩
 obtain ⟨As, cs_, he, hcs, _⟩ := Kd.R_reads hr
 subst he
 have HS := Z_ hr
 have YW := Z_ hb
 clear hr hb
 go_wp2_with (first | (refine X_ 4 #[.int .i64 0, .int .i64 0, .int .i64 0, .int .i64 0, .string ⟨#[]⟩, .string ⟨#[]⟩, .slice none 0 0] 49 ?_; intro gt hg wk_ hbox hb; have HGT0 : Aside0 (w.heap.size ≤ gt) := ⟨by rw [hg]; exact YW.out.size⟩; have HG_ := Z_ hg; have HB_ := Z_ hb; have YT := Z_ hbox; clear hbox hb hg) | ((with_reducible refine gate_store (t := 49) (p := 4) rfl ?_); refine wpList_store_mid rfl 49 _ _ rfl gt 0 #[.int .i64 ch, .int .i64 bi, .int .i64 sz, .int .i64 fr, .string hd, .string tl, .slice As l.length cs_] rfl rfl (there_blk (vs := [.int .i64 0, .int .i64 0, .int .i64 0, .int .i64 0, .string ⟨#[]⟩, .string ⟨#[]⟩, .slice none 0 0]) YT.out 0 7 (by decide)) (by kernel_rfl) (by simp [Value.oneCell']) ?_; have nc_ := Z_ (setCells_all (vs := [.int .i64 ch, .int .i64 bi, .int .i64 sz, .int .i64 fr, .string hd, .string tl, .slice As l.length cs_]) (old := [.int .i64 0, .int .i64 0, .int .i64 0, .int .i64 0, .string ⟨#[]⟩, .string ⟨#[]⟩, .slice none 0 0]) YT.out rfl); have hb := below_setCells HB_.out (Nat.le_of_eq HG_.out.symm) [.int .i64 ch, .int .i64 bi, .int .i64 sz, .int .i64 fr, .string hd, .string tl, .slice As l.length cs_] 0; replace HS := Z_ (Kd.R_below HS.out hb); replace YW := Z_ (below_step YW.out hb); clear hb HB_ HG_ YT; have YT := nc_; clear nc_; generalize World.setCells _ _ _ _ = wk_ at HS YW YT ⊢) | (refine X_ 6 #[.pointer none, .slice none 0 0] 66 ?_; intro gb hg wk_ hbox hb; have HGT : Aside0 (gt < gb) := ⟨by rw [hg]; exact blk_lt YT.out⟩; have HGB : Aside0 (w.heap.size ≤ gb) := ⟨by rw [hg]; exact YW.out.size⟩; have n9_ := Z_ (Kd.R_mono (Kd.R_bound HS.out) (ok' := fun k => k < gb) (fun k hk => by rw [hg]; exact hk.2.2.1)); clear HS; have HS := n9_; clear n9_; replace HS := Z_ (Kd.R_below HS.out hb); replace YW := Z_ (below_step YW.out hb); replace YT := Z_ (blk_below YT.out hb); have YBX := Z_ hbox; clear hbox hb hg; have r6 := blk_cell YT.out 6; simp at r6))
 have YB := Z_ (bldF_new YBX.out)
 have HGB2 := Z_ (Nat.le_of_lt (blk_lt YBX.out))
 clear YBX
 go_loopg [21] l.length (fun d v21 wr => ∃ i : Nat, v21 = .int .i64 i ∧ i + d = l.length ∧ Aside0 (wr.heap[gt]? = some (.cells #[.int .i64 ch, .int .i64 bi, .int .i64 sz, .int .i64 fr, .string hd, .string tl, .slice As l.length cs_] 49 (0, 0))) ∧ Aside0 (Below w.heap.size w wr) ∧ Aside0 (Lib.IsBuilderF 66 5 gb gb (Lib.byteCells (flat (D.take i))) wr) ∧ Aside0 (gb ≤ wr.heap.size) ∧ Aside0 (Kd.R Kd.string 9 wr w.heap.size (fun k => k < gb) (.slice As l.length cs_) l))
 case atStart => exact ⟨0, rfl, by omega, YT, YW, ⟨by rw [List.take_zero]; exact YB.out⟩, HGB2, HS⟩
 case round =>
  clear YT YW YB HGB2 HS r6
  obtain ⟨i, rfl, hi, YT, YW, YB, HGB2, HS⟩ := hrel
  cases gk with
  | zero =>
   obtain rfl : l.length = i := by omega
   have e1 : D.take l.length = D := List.take_of_length_le (by rw [HDL.out]; exact Nat.le_refl _)
   rw [e1] at YB
   obtain ⟨LL, hL⟩ : ∃ L, flat D = L := ⟨_, rfl⟩
   rw [hL] at YB HBD
   clear hL e1
   go_wp2
   replace YT := Z_ (blk_drew YT.out)
   replace YW := Z_ (below_drew1 YW.out)
   replace YB := Z_ (bldF_below YB.out (below_drew (Below.refl _ _)))
   replace HGB2 := Z_ (size_drew HGB2.out)
   replace HS := Z_ (Kd.R_drew HS.out)
   refine start_ (n := 14) (S := fun w' => w'.heap[gt]? = some (.cells #[.int .i64 ch, .int .i64 bi, .int .i64 sz, .int .i64 fr, .string hd, .string tl, .slice As l.length cs_] 49 (0, 0))) (ds := []) #[false, false, false, false, false, false, false, false, false, false, false, false, false, false] (by kernel_rfl) rfl rfl YT.out (fun hHeld => ?_); refine with_tabW dec.tab13 dec.bits13 (fun HT_ HW_ => ?_)
   generalize World.drew _ = wk_ at YT YW YB HGB2 HS hHeld ⊢
   refine P_ 0 36 ?_
   refine P_ 2 38 ?_
   refine P_ 5 41 ?_
   refine T_ 1 37 (y := by rintro w' s0; have r0 := blk_cell s0 0; have r1 := blk_cell s0 1; have r2 := blk_cell s0 2; have r3 := blk_cell s0 3; have r4 := blk_cell s0 4; have r5 := blk_cell s0 5; simp at r0 r1 r2 r3 r4 r5; go_simp; with_reducible rfl) (h := ?_)
   refine T_ 3 39 (y := by rintro w' s0; have r0 := blk_cell s0 0; have r1 := blk_cell s0 1; have r2 := blk_cell s0 2; have r3 := blk_cell s0 3; have r4 := blk_cell s0 4; have r5 := blk_cell s0 5; simp at r0 r1 r2 r3 r4 r5; go_simp; with_reducible rfl) (h := ?_)
   refine T_ 6 42 (y := by rintro w' s0; have r0 := blk_cell s0 0; have r1 := blk_cell s0 1; have r2 := blk_cell s0 2; have r3 := blk_cell s0 3; have r4 := blk_cell s0 4; have r5 := blk_cell s0 5; simp at r0 r1 r2 r3 r4 r5; go_simp; with_reducible rfl) (h := ?_)
   refine O_ 4 40 fun K hK => ?_
   refine g_ Tryz.func34 #[.pointer (some ⟨gb, 0, none⟩)] ?_
   refine (str_calls gb LL _ YB.out HGB2.out).mono ?_
   rintro e wk_ ⟨rfl, hbb, hbw⟩
   refine ⟨_, rfl, ?_⟩
   replace YT := Z_ ((hbw.block gt HGT.out).trans YT.out)
   replace YW := Z_ (YW.out.trans (hbw.mono HGB.out))
   replace YB := Z_ hbb
   replace HGB2 := Z_ (Nat.le_trans HGB2.out hbw.size)
   replace HS := Z_ (Kd.R_step HS.out (fun k_ hk_ _ => hbw.block k_ hk_))
   clear hbw hbb
   refine hK.out _ _ YT.out (fun hHeld => ?_)
   clear hK K
   refine Nm_ 40 ?_
   refine P_ 7 43 ?_
   refine O_ 8 44 fun K hK => ?_
   refine g_ Tryz.func33 #[.agg #[.int .i64 ch, .int .i64 bi, .string hd, .string ⟨LL.toArray⟩, .string tl]] ?_
   refine (wave_Build.calls k2 ch bi hd ⟨LL.toArray⟩ tl _ _ _ HBD.out).mono ?_
   rintro e wk_ ⟨rfl, hb⟩
   refine ⟨_, rfl, ?_⟩
   replace HS := Z_ (Kd.R_below HS.out hb)
   replace YW := Z_ (below_step YW.out hb)
   replace YT := Z_ (blk_below YT.out hb)
   replace YB := Z_ (bldF_below YB.out hb)
   replace HGB2 := Z_ (Nat.le_trans HGB2.out hb.size)
   clear hb
   refine hK.out _ _ YT.out (fun hHeld => ?_)
   clear hK K
   refine Nm_ 44 ?_
   refine P_ 9 35 ?_
   refine P_ 10 45 ?_
   refine P_ 11 46 ?_
   refine P_ 12 10 ?_
   refine P_ 13 5 ?_
   refine done_ (done_of HT_.out (by kernel_rfl)) ?_
   go_wp2
   go_ret2
   exact ⟨rfl, YW.out⟩
  | succ d =>
   have hlt : i < l.length := by omega
   have hlt' : (i : Int) < l.length := by omega
   have hi0 : (0 : Int) ≤ i := by omega
   have HF := Lib.hid (HDS.out i hlt)
   have hst := flat_at D i (by rw [HDL.out]; exact hlt)
   have hsn : D.take (i + 1) = D.take i ++ [D.getD i ByteArray.empty] := by
    have h9 : i < D.length := by rw [HDL.out]; exact hlt
    rw [List.take_succ_eq_append_getElem h9, List.getD_eq_getElem?_getD, List.getElem?_eq_getElem h9]; rfl
   have hfl : flat (D.take (i + 1)) = flat (D.take i) ++ (D.getD i ByteArray.empty).data.toList := by
    rw [hsn]
    unfold flat
    rw [List.map_append, List.flatten_append]
    simp
   have hle := tot_le D (i + 1)
   rw [← flat_len (D.take (i + 1)), hfl, List.length_append, data_length] at hle
   obtain ⟨x, hx⟩ : ∃ x, D.getD i ByteArray.empty = x := ⟨_, rfl⟩
   rw [hx] at HF hfl hle
   obtain ⟨L, hL⟩ : ∃ L, flat (D.take i) = L := ⟨_, rfl⟩
   rw [hL] at YB hfl hle
   have HFL := Lib.hid hfl
   have hbd : L.length + x.size ≤ 140737488355328 := by omega
   clear hst hsn hfl hle hx hL
   go_wp2_with (first | ((with_reducible refine gate_dst (N := 25) rfl ?_); refine wpList_load_mid rfl 49 _ rfl gt 0 rfl [.int .i64 ch, .int .i64 bi, .int .i64 sz, .int .i64 fr, .string hd, .string tl, .slice As l.length cs_] _ (range_all YT.out) Tryz.underlying49 rfl (by kernel_rfl) ?_))
   refine (file_Data.calls k ch bi sz fr hd tl As cs_ l i _ _ _ (Kd.R_reads' HS.out).2.2 hcs HF.out (Tabs.below HT.out YW.out)).mono ?_
   rintro e wk_ ⟨rfl, hb⟩
   replace HS := Z_ (Kd.R_below HS.out hb)
   replace YW := Z_ (below_step YW.out hb)
   replace YT := Z_ (blk_below YT.out hb)
   replace YB := Z_ (bldF_below YB.out hb)
   replace HGB2 := Z_ (Nat.le_trans HGB2.out hb.size)
   clear hb
   go_wp2_with fail
   refine (wstr_calls gb L x _ YB.out hbd HGB2.out).mono ?_
   rintro e wk_ ⟨rfl, hbb, hbw⟩
   replace YT := Z_ ((hbw.block gt HGT.out).trans YT.out)
   replace YW := Z_ (YW.out.trans (hbw.mono HGB.out))
   replace YB := Z_ hbb
   replace HGB2 := Z_ (Nat.le_trans HGB2.out hbw.size)
   replace HS := Z_ (Kd.R_step HS.out (fun k_ hk_ _ => hbw.block k_ hk_))
   clear hbw hbb
   go_wp2
   go_roundg d
   case measure => omega
   case rel => exact ⟨i + 1, by go_num, by omega, YT, YW, ⟨by rw [HFL.out]; exact YB.out⟩, HGB2, HS⟩
def rng.T17 : Bool × List (List Nat × List Nat) := (true, [([], []), ([0], [0]), ([1], [1]), ([], []), ([], []), ([4], [4]), ([3, 5], [3, 5]), ([2, 2, 0, 1, 2], [2]), ([6, 7, 0, 1, 2, 3, 4, 5, 6, 7], [6])])
def rng.B17 : List Nat := [0, 1, 3, 0, 0, 16, 56, 7, 255]
theorem rng.tab17 : rtab .any (opsOf Tryz.f19 17) = rng.T17 := by kernel_rfl
theorem rng.bits17 : waitsOk rng.T17.2 rng.B17 = true := by kernel_rfl
theorem w_sub (a u x : Nat) (h : u ≤ a) (hb : a ≤ 4096) (e : a - u = x) : wrap64 ((a : Int) - u) = (x : Int) := by unfold wrap64; omega
theorem w_mul (x y z : Nat) (e : x * y = z) (hb : z ≤ 9223372036854775807) : wrap64 ((x : Int) * (y : Int)) = (z : Int) := by
 rw [← Int.natCast_mul, e]
 unfold wrap64
 omega
theorem w_succ (i : Nat) (h : i ≤ 65536) : wrap64 ((i : Int) + 1) = ((i + 1 : Nat) : Int) := by unfold wrap64; omega
theorem w_id (x : Nat) (hb : x ≤ 9223372036854775807) : wrap64 (x : Int) = (x : Int) := by unfold wrap64; omega
theorem range_calls (k : Nat) (s : ByteArray) (ch bi sz fr : Nat) (hd tl : ByteArray) (l D : List ByteArray) (p1 p2 p3 p5 q : Nat) (a b f0 e0 fs_ : Nat) (w : World) (hT : Tabs w) (ho : StrOk s ch bi sz fr hd tl l p1 p2 p3 p5 q) (hab : a < b) (hb : b ≤ fr) (hf0 : a / sz = f0) (he0 : ∀ i : Nat, i < e0 ↔ i * sz < b) (hel : e0 ≤ l.length) (hfe : f0 ≤ e0) (hds : ∀ i, f0 ≤ i → i < e0 → file_whole_data.f k ch bi sz fr hd tl l (i : Int) = some (D.getD i ByteArray.empty, true)) (hD : D.length = l.length) (hdt : tot D ≤ 140737488355328) (hfr : pcm_Frame.f ch bi = some (fs_ : Int)) (hfs : fs_ ≤ 4) (hlen : (b - f0 * sz) * fs_ ≤ tot ((D.drop f0).take (e0 - f0))) :
  Calls Tryz.prog 19 #[.string s, .int .i64 a, .int .i64 b] w fun e w' => e = .returned (.tuple #[.string ((⟨(flat ((D.drop f0).take (e0 - f0))).toArray⟩ : ByteArray).extract ((a - f0 * sz) * fs_) ((b - f0 * sz) * fs_)), .int .i64 0]) ∧ Below w.heap.size w w' := by
 have hu49 := Tryz.underlying49
 have hu23 := Tryz.underlying23
 have HT := Z_ hT
 have HDS := Z_ hds
 have HFR := Lib.hid hfr
 have HDL := Lib.hid hD
 have HE0 := Z_ he0
 have hll : l.length ≤ 65536 := by have h2 := ho.hq; have h3 := ho.fin; have h4 := ho.size; omega
 have hok := ho.ok
 obtain ⟨_, _, hz1, hz2, _, hz3, _, _⟩ := hok
 have SG := Lib.hid (sget_calls s ch bi sz fr hd tl l p1 p2 p3 p5 q w ho)
 clear hT hds hfr hD ho
 have b1 : ¬ ((a : Int) < 0) := by omega
 have b2 : ¬ ((b : Int) < a) := by omega
 have b3 : ¬ ((fr : Int) < b) := by omega
 have b4 : ¬ ((a : Int) = b) := by omega
 have b5 : ¬ ((sz : Int) = 0) := by omega
 have b6 : Int.tdiv (a : Int) (sz : Int) = (f0 : Int) := by rw [← hf0]; rfl
 have b7 := w_id f0 (by omega)
 have hu : f0 * sz ≤ a := by rw [← hf0]; exact Nat.div_mul_le_self a sz
 have hzb : ∀ i : Nat, i ≤ e0 → i * sz ≤ 65536 * 64 := fun i hi => Nat.mul_le_mul (by omega) (by omega)
 have HZB := Z_ hzb
 have hx2 : (b - f0 * sz) * fs_ ≤ 4096 * 4 := Nat.mul_le_mul (by omega) hfs
 have hx1 : (a - f0 * sz) * fs_ ≤ (b - f0 * sz) * fs_ := Nat.mul_le_mul_right _ (by omega)
 obtain ⟨res, hres⟩ : ∃ r, (⟨(flat ((D.drop f0).take (e0 - f0))).toArray⟩ : ByteArray).extract ((a - f0 * sz) * fs_) ((b - f0 * sz) * fs_) = r := ⟨_, rfl⟩
 rw [hres]
 obtain ⟨u1, hu1⟩ : ∃ u, f0 * sz = u := ⟨_, rfl⟩
 rw [hu1] at hu hx2 hx1 hlen hres
 have hb4 : b ≤ 4096 := by clear hlen hdt hx1 hx2; omega
 have ha4 : a ≤ 4096 := Nat.le_trans (Nat.le_of_lt hab) hb4
 have g1 := w_mul f0 sz u1 hu1 (Nat.le_trans hu (Nat.le_trans ha4 (by decide)))
 obtain ⟨x1, hx1e⟩ : ∃ u, a - u1 = u := ⟨_, rfl⟩
 obtain ⟨x2, hx2e⟩ : ∃ u, b - u1 = u := ⟨_, rfl⟩
 have g2 := w_sub a u1 x1 hu ha4 hx1e
 have g3 := w_sub b u1 x2 (Nat.le_trans hu (Nat.le_of_lt hab)) hb4 hx2e
 rw [hx1e] at hx1 hres
 rw [hx2e] at hx2 hx1 hlen hres
 obtain ⟨y1, hy1⟩ : ∃ u, x1 * fs_ = u := ⟨_, rfl⟩
 obtain ⟨y2, hy2⟩ : ∃ u, x2 * fs_ = u := ⟨_, rfl⟩
 rw [hy1] at hx1 hres
 rw [hy2] at hx2 hx1 hlen hres
 have g4 := w_mul x1 fs_ y1 hy1 (Nat.le_trans hx1 (Nat.le_trans hx2 (by decide)))
 have g5 := w_mul x2 fs_ y2 hy2 (Nat.le_trans hx2 (by decide))
 have RES := Lib.hid hres
 have HLEN := Z_ hlen
 have G1 := Lib.hid g1
 have G2 := Lib.hid g2
 have G3 := Lib.hid g3
 have G4 := Lib.hid g4
 have G5 := Lib.hid g5
 have HX1 := Z_ hx1
 have HX2 := Z_ hx2
 clear g1 g2 g3 g4 g5 hx1 hx2 ha4 hb4
 clear hres hlen hu1 hx1e hx2e hy1 hy2 hzb hu
 have HDT := Z_ hdt
 have HLL0 := Z_ hll
 clear he0 hf0 hfs hdt hz3 hll
 go_enter Tryz.func19, Tryz.ntmps19
 go_wp2_with fail
 refine SG.out.mono ?_
 rintro e w1 ⟨v0, rfl, hr, hb⟩
 obtain ⟨As, cs_, he, hcs, _⟩ := Kd.R_reads hr
 subst he
 have HS := Z_ hr
 have YW := Z_ hb
 clear hr hb
 go_wp2_with (first | (refine X_ 8 #[.int .i64 0, .int .i64 0, .int .i64 0, .int .i64 0, .string ⟨#[]⟩, .string ⟨#[]⟩, .slice none 0 0] 49 ?_; intro gt hg wk_ hbox hb; have HGT0 : Aside0 (w.heap.size ≤ gt) := ⟨by rw [hg]; exact YW.out.size⟩; have HG_ := Z_ hg; have HB_ := Z_ hb; have YT := Z_ hbox; clear hbox hb hg) | ((with_reducible refine gate_store (t := 49) (p := 8) rfl ?_); refine wpList_store_mid rfl 49 _ _ rfl gt 0 #[.int .i64 ch, .int .i64 bi, .int .i64 sz, .int .i64 fr, .string hd, .string tl, .slice As l.length cs_] rfl rfl (there_blk (vs := [.int .i64 0, .int .i64 0, .int .i64 0, .int .i64 0, .string ⟨#[]⟩, .string ⟨#[]⟩, .slice none 0 0]) YT.out 0 7 (by decide)) (by kernel_rfl) (by simp [Value.oneCell']) ?_; have nc_ := Z_ (setCells_all (vs := [.int .i64 ch, .int .i64 bi, .int .i64 sz, .int .i64 fr, .string hd, .string tl, .slice As l.length cs_]) (old := [.int .i64 0, .int .i64 0, .int .i64 0, .int .i64 0, .string ⟨#[]⟩, .string ⟨#[]⟩, .slice none 0 0]) YT.out rfl); have hb := below_setCells HB_.out (Nat.le_of_eq HG_.out.symm) [.int .i64 ch, .int .i64 bi, .int .i64 sz, .int .i64 fr, .string hd, .string tl, .slice As l.length cs_] 0; replace HS := Z_ (Kd.R_below HS.out hb); replace YW := Z_ (below_step YW.out hb); clear hb HB_ HG_ YT; have YT := nc_; clear nc_; generalize World.setCells _ _ _ _ = wk_ at HS YW YT ⊢; have r2 := blk_cell YT.out 2; have r3 := blk_cell YT.out 3; simp at r2 r3) | (refine X_ 11 #[.pointer none, .slice none 0 0] 66 ?_; intro gb hg wk_ hbox hb; have HGT : Aside0 (gt < gb) := ⟨by rw [hg]; exact blk_lt YT.out⟩; have HGB : Aside0 (w.heap.size ≤ gb) := ⟨by rw [hg]; exact YW.out.size⟩; have n9_ := Z_ (Kd.R_mono (Kd.R_bound HS.out) (ok' := fun k => k < gb) (fun k hk => by rw [hg]; exact hk.2.2.1)); clear HS; have HS := n9_; clear n9_; replace HS := Z_ (Kd.R_below HS.out hb); replace YW := Z_ (below_step YW.out hb); replace YT := Z_ (blk_below YT.out hb); have YBX := Z_ hbox; clear hbox hb hg; have r1 := blk_cell YT.out 2; simp at r1))
 have YB := Z_ (bldF_new YBX.out)
 have HGB2 := Z_ (Nat.le_of_lt (blk_lt YBX.out))
 clear YBX
 go_loopg [12] (e0 - f0) (fun d v12 wr => ∃ i : Nat, v12 = .int .i64 i ∧ i + d = e0 ∧ f0 ≤ i ∧ Aside0 (wr.heap[gt]? = some (.cells #[.int .i64 ch, .int .i64 bi, .int .i64 sz, .int .i64 fr, .string hd, .string tl, .slice As l.length cs_] 49 (0, 0))) ∧ Aside0 (Below w.heap.size w wr) ∧ Aside0 (Lib.IsBuilderF 66 5 gb gb (Lib.byteCells (flat ((D.drop f0).take (i - f0)))) wr) ∧ Aside0 (gb ≤ wr.heap.size) ∧ Aside0 (Kd.R Kd.string 9 wr w.heap.size (fun k => k < gb) (.slice As l.length cs_) l))
 case atStart => exact ⟨f0, rfl, Nat.add_sub_cancel' hfe, Nat.le_refl _, YT, YW, ⟨by rw [Nat.sub_self, List.take_zero]; exact YB.out⟩, HGB2, HS⟩
 case round =>
  clear YT YW YB HGB2 HS r1 r2 r3
  obtain ⟨i, rfl, hi, hi2, YT, YW, YB, HGB2, HS⟩ := hrel
  have r2 := blk_cell YT.out 2
  simp at r2
  have hib := HZB.out i (hi ▸ Nat.le_add_right i _)
  have hlz := HE0.out i
  obtain ⟨z, hz⟩ : ∃ z, i * sz = z := ⟨_, rfl⟩
  rw [hz] at hib hlz
  have g6 := w_mul i sz z hz (Nat.le_trans hib (by decide))
  clear hz
  cases gk with
  | zero =>
   obtain rfl : e0 = i := (show i = e0 from hi).symm
   have g7 : ¬ ((z : Int) < b) := by
    intro h
    exact absurd (hlz.2 (Int.ofNat_lt.1 h)) (Nat.lt_irrefl _)
   have g1 := G1.out
   have g2 := G2.out
   have g3 := G3.out
   have g4 := G4.out
   have g5 := G5.out
   have hx1 := HX1.out
   have hx2 := HX2.out
   have h8 := flat_len ((D.drop f0).take (e0 - f0))
   have h9 := HLEN.out
   rw [← h8] at h9
   obtain ⟨LL, hL⟩ : ∃ L, flat ((D.drop f0).take (e0 - f0)) = L := ⟨_, rfl⟩
   rw [hL] at YB h9
   have HLL := Lib.hid hL
   clear hL h8 hlz
   have c1 : ((y2 : Nat) : Int) ≤ ((⟨LL.toArray⟩ : ByteArray).size : Int) := Int.ofNat_le.2 (by
    have : (⟨LL.toArray⟩ : ByteArray).size = LL.length := List.size_toArray
    rw [this]
    exact h9)
   have c2 : (y1 : Int) ≤ (y2 : Int) := Int.ofNat_le.2 hx1
   have c3 : (0 : Int) ≤ (y1 : Int) := Int.natCast_nonneg _
   obtain ⟨t, ht⟩ : ∃ t : ByteArray, ⟨LL.toArray⟩ = t := ⟨_, rfl⟩
   rw [ht] at c1
   have CS := Lib.hid (fun W h1 h2 => str_calls gb LL W h1 h2)
   rw [ht] at CS
   have HTT := Lib.hid ht
   clear ht
   go_wp2
   replace YT := Z_ (blk_drew YT.out)
   replace YW := Z_ (below_drew1 YW.out)
   replace YB := Z_ (bldF_below YB.out (below_drew (Below.refl _ _)))
   replace HGB2 := Z_ (size_drew HGB2.out)
   replace HS := Z_ (Kd.R_drew HS.out)
   refine start_ (n := 9) (S := fun w' => w'.heap[gt]? = some (.cells #[.int .i64 ch, .int .i64 bi, .int .i64 sz, .int .i64 fr, .string hd, .string tl, .slice As l.length cs_] 49 (0, 0))) (ds := []) #[false, false, false, false, false, false, false, false, false] (by kernel_rfl) rfl rfl YT.out (fun hHeld => ?_); refine with_tabW rng.tab17 rng.bits17 (fun HT_ HW_ => ?_)
   generalize World.drew _ = wk_ at YT YW YB HGB2 HS hHeld ⊢
   refine P_ 0 66 ?_
   refine P_ 3 69 ?_
   refine P_ 4 70 ?_
   refine T_ 1 67 (y := by rintro w' s0; have r0 := blk_cell s0 0; have r1 := blk_cell s0 1; have r2 := blk_cell s0 2; have r3 := blk_cell s0 3; have r4 := blk_cell s0 4; have r5 := blk_cell s0 5; simp at r0 r1 r2 r3 r4 r5; go_simp; with_reducible rfl) (h := ?_)
   refine T_ 5 71 (y := by rintro w' s0; have r0 := blk_cell s0 0; have r1 := blk_cell s0 1; have r2 := blk_cell s0 2; have r3 := blk_cell s0 3; have r4 := blk_cell s0 4; have r5 := blk_cell s0 5; simp at r0 r1 r2 r3 r4 r5; go_simp; with_reducible rfl) (h := ?_)
   refine P_ 6 72 ?_
   refine O_ 2 68 fun K hK => ?_
   refine g_ Tryz.func29 #[.agg #[.int .i64 ch, .int .i64 bi]] ?_
   refine (pcm_Frame.calls ch bi fs_ _ HFR.out).mono ?_
   rintro e wk_ ⟨rfl, hb⟩
   refine ⟨_, rfl, ?_⟩
   replace HS := Z_ (Kd.R_below HS.out hb)
   replace YW := Z_ (below_step YW.out hb)
   replace YT := Z_ (blk_below YT.out hb)
   replace YB := Z_ (bldF_below YB.out hb)
   replace HGB2 := Z_ (Nat.le_trans HGB2.out hb.size)
   clear hb
   refine hK.out _ _ YT.out (fun hHeld => ?_)
   clear hK K
   refine Nm_ 68 ?_
   refine P_ 7 15 ?_
   refine P_ 8 16 ?_
   refine done_ (done_of HT_.out (by kernel_rfl)) ?_
   go_wp2_with fail
   refine (CS.out _ YB.out HGB2.out).mono ?_
   rintro e wk_ ⟨rfl, hbb, hbw⟩
   replace YT := Z_ ((hbw.block gt HGT.out).trans YT.out)
   replace YW := Z_ (YW.out.trans (hbw.mono HGB.out))
   replace YB := Z_ hbb
   replace HGB2 := Z_ (Nat.le_trans HGB2.out hbw.size)
   replace HS := Z_ (Kd.R_step HS.out (fun k_ hk_ _ => hbw.block k_ hk_))
   clear hbw hbb
   go_wp2
   go_ret2
   exact ⟨by rw [← RES.out, HLL.out, HTT.out]; rfl, YW.out⟩
  | succ d =>
   have g7 : (z : Int) < b := by
    have hie : i < e0 := by rw [← hi]; exact Nat.lt_add_of_pos_right (Nat.succ_pos d)
    exact Int.ofNat_lt.2 (hlz.1 hie)
   have hie : i < e0 := by rw [← hi]; exact Nat.lt_add_of_pos_right (Nat.succ_pos d)
   clear hlz
   have hlt : i < l.length := Nat.lt_of_lt_of_le hie hel
   have hlt' : (i : Int) < l.length := Int.ofNat_lt.2 hlt
   have hi0 : (0 : Int) ≤ i := Int.natCast_nonneg _
   have HF := Lib.hid (HDS.out i hi2 hie)
   have hsn : (D.drop f0).take (i + 1 - f0) = (D.drop f0).take (i - f0) ++ [D.getD i ByteArray.empty] := by
    have h9 : i - f0 < (D.drop f0).length := by rw [List.length_drop, HDL.out]; exact Nat.sub_lt_sub_right hi2 hlt
    have e9 : i + 1 - f0 = i - f0 + 1 := Nat.sub_add_comm hi2
    rw [e9, List.take_succ_eq_append_getElem h9, List.getElem_drop]
    congr 2
    have e8 : f0 + (i - f0) = i := Nat.add_sub_cancel' hi2
    rw [List.getD_eq_getElem?_getD, List.getElem?_eq_getElem (by rw [HDL.out]; exact hlt)]
    simp only [e8]
    rfl
   have hfl : flat ((D.drop f0).take (i + 1 - f0)) = flat ((D.drop f0).take (i - f0)) ++ (D.getD i ByteArray.empty).data.toList := by
    rw [hsn]
    unfold flat
    rw [List.map_append, List.flatten_append]
    simp
   have hle := tot_le (D.drop f0) (i + 1 - f0)
   rw [← flat_len ((D.drop f0).take (i + 1 - f0)), hfl, List.length_append, data_length] at hle
   have hle2 : tot (D.drop f0) ≤ tot D := by
    have : tot D = tot (D.take f0) + tot (D.drop f0) := by
     unfold tot
     rw [← List.sum_append, ← List.map_append, List.take_append_drop]
    rw [this]
    exact Nat.le_add_left _ _
   obtain ⟨x, hx⟩ : ∃ x, D.getD i ByteArray.empty = x := ⟨_, rfl⟩
   rw [hx] at HF hfl hle
   obtain ⟨L, hL⟩ : ∃ L, flat ((D.drop f0).take (i - f0)) = L := ⟨_, rfl⟩
   rw [hL] at YB hfl hle
   have HFL := Lib.hid hfl
   have hbd : L.length + x.size ≤ 140737488355328 := Nat.le_trans hle (Nat.le_trans hle2 HDT.out)
   clear hsn hfl hle hle2 hx hL
   go_wp2_with (first | ((with_reducible refine gate_dst (N := 57) rfl ?_); refine wpList_load_mid rfl 49 _ rfl gt 0 rfl [.int .i64 ch, .int .i64 bi, .int .i64 sz, .int .i64 fr, .string hd, .string tl, .slice As l.length cs_] _ (range_all YT.out) Tryz.underlying49 rfl (by kernel_rfl) ?_))
   clear r2
   refine (file_Data.calls k ch bi sz fr hd tl As cs_ l i _ _ _ (Kd.R_reads' HS.out).2.2 hcs HF.out (Tabs.below HT.out YW.out)).mono ?_
   rintro e wk_ ⟨rfl, hb⟩
   replace HS := Z_ (Kd.R_below HS.out hb)
   replace YW := Z_ (below_step YW.out hb)
   replace YT := Z_ (blk_below YT.out hb)
   replace YB := Z_ (bldF_below YB.out hb)
   replace HGB2 := Z_ (Nat.le_trans HGB2.out hb.size)
   clear hb
   go_wp2_with fail
   refine (wstr_calls gb L x _ YB.out hbd HGB2.out).mono ?_
   rintro e wk_ ⟨rfl, hbb, hbw⟩
   replace YT := Z_ ((hbw.block gt HGT.out).trans YT.out)
   replace YW := Z_ (YW.out.trans (hbw.mono HGB.out))
   replace YB := Z_ hbb
   replace HGB2 := Z_ (Nat.le_trans HGB2.out hbw.size)
   replace HS := Z_ (Kd.R_step HS.out (fun k_ hk_ _ => hbw.block k_ hk_))
   clear hbw hbb
   go_wp2
   go_roundg d
   case measure => clear hlt' hi0 g7 g6; omega
   case rel =>
    have hll := HLL0.out
    have hws := w_succ i (Nat.le_trans (Nat.le_of_lt hlt) hll)
    clear b1 b2 b3 b4 b5 b6 b7 g6 g7
    exact ⟨i + 1, by first | (rw [hws]) | (simp only [hws]) | go_num, by rw [← hi, Nat.add_assoc, Nat.add_comm 1 d], Nat.le_succ_of_le hi2, YT, YW, ⟨by rw [HFL.out]; exact YB.out⟩, HGB2, HS⟩
end Go.Proofs.YtfghldonnffldaaGreatDoor
namespace Go.Proofs.YtfghldonnffldaaGreatDoor
open Go.RowKit Go.Proofs.YtfghldonnffldaaGreatDoorW.PrintWords Go.Proofs.YtfghldonnffldaaGreatDoorW.PrintLast Go.Proofs.YtfghldonnffldaaGreatDoorW.PrintMore Go.Proofs.YtfghldonnffldaaGreatDoor.TBase
open Go.Proofs.YtfghldonnffldaaGreatDoor.VTwo Go.Proofs.YtfghldonnffldaaGreatDoor.QSix Go.Proofs.YtfghldonnffldaaGreatDoor.ZFiv Go.Proofs.YtfghldonnffldaaGreatDoor.ESev
def W0 : ByteArray := ⟨#[82, 73, 70, 70, 54, 0, 0, 0, 87, 65, 86, 69, 102, 109, 116, 32, 16, 0, 0, 0, 1, 0, 1, 0, 114, 97, 116, 101, 97, 110, 100, 98, 2, 0, 16, 0, 100, 97, 116, 97, 6, 0, 0, 0, 5, 0, 6, 0, 7, 0, 109, 111, 114, 101, 3, 0, 0, 0, 97, 98, 99, 100]⟩
def E0 : ByteArray := ⟨#[68, 83, 67, 84, 1, 16, 2, 3, 44, 12, 82, 73, 70, 70, 54, 0, 0, 0, 87, 65, 86, 69, 102, 109, 116, 32, 16, 0, 0, 0, 1, 0, 1, 0, 114, 97, 116, 101, 97, 110, 100, 98, 2, 0, 16, 0, 100, 97, 116, 97, 6, 0, 0, 0, 109, 111, 114, 101, 3, 0, 0, 0, 97, 98, 99, 100, 13, 0, 11, 0, 217, 2, 14, 228, 0, 0, 2, 4, 0, 5, 0, 6, 0, 37, 16, 131, 139, 2, 0, 1, 2, 0, 7, 0, 171, 185, 219, 210]⟩
def HD0 : ByteArray := W0.extract 0 44
def TL0 : ByteArray := W0.extract 50 62
def S1 : ByteArray := E0.extract 74 87
def S2 : ByteArray := E0.extract 87 98
theorem sp0 : sput 1 16 2 3 HD0 TL0 [S1, S2] = E0 := by kernel_rfl
theorem many0 : stream_Many.f 3 2 = some 2 := by kernel_rfl
theorem d1 : file_whole_data.f 30 1 16 2 3 HD0 TL0 [S1, S2] 0 = some (⟨#[5, 0, 6, 0]⟩, true) := by kernel_rfl
theorem d2 : file_whole_data.f 30 1 16 2 3 HD0 TL0 [S1, S2] 1 = some (⟨#[7, 0]⟩, true) := by kernel_rfl
theorem b0 : wave_Build.f 30 1 16 HD0 ⟨(flat [⟨#[5, 0, 6, 0]⟩, ⟨#[7, 0]⟩]).toArray⟩ TL0 = some (W0, 0) := by kernel_rfl
theorem w0 : descanttop_wav.f 20 1 16 ⟨#[5,0,6,0,7,0]⟩ = some W0 := by kernel_rfl
theorem e0 : file_Encode.f 30 W0 2 = some (E0, 0) := by kernel_rfl
theorem pw0 : wave_Parse.f 30 W0 = some (1, 16, HD0, W0.extract 44 50, TL0, 0) := by kernel_rfl
theorem fr0 : pcm_Frame.f 1 16 = some 2 := by kernel_rfl
theorem rr0 : ((⟨(flat (([⟨#[5, 0, 6, 0]⟩, ⟨#[7, 0]⟩] : List ByteArray).drop 0 |>.take (2 - 0))).toArray⟩ : ByteArray).extract ((0 - 0 * 2) * 2) ((3 - 0 * 2) * 2)) = W0.extract 44 50 := by kernel_rfl
theorem ok0 : ∃ p1 p2 p3 p5 q, StrOk E0 1 16 2 3 HD0 TL0 [S1, S2] p1 p2 p3 p5 q := by
 have h := sput_ok 1 16 2 3 HD0 TL0 [S1, S2] (by decide) many0 (fun x hx => List.all_eq_true.1 (show [S1, S2].all szB = true by kernel_rfl) x hx) (by rw [sp0]; decide)
 rw [sp0] at h
 exact h
theorem ds0 : ∀ i, i < [S1, S2].length → file_whole_data.f 30 1 16 2 3 HD0 TL0 [S1, S2] (i : Int) = some (([⟨#[5, 0, 6, 0]⟩, ⟨#[7, 0]⟩] : List ByteArray).getD i ByteArray.empty, true) := by
 intro i hi
 match i, hi with
 | 0, _ => exact d1
 | 1, _ => exact d2
theorem pg0 : pcm_Get.f 30 (W0.extract 44 50) 1 16 = some ([[5, 6, 7]], 0) := by kernel_rfl
theorem sg0 : segment_Get.f 30 S1 1 16 = some (⟨#[5, 0, 6, 0]⟩, 0) := by kernel_rfl
theorem sl0 : descantlaw0_SameLists.f 30 [[5, 6, 7]] [[5, 6, 7]] = some true := by kernel_rfl
theorem seg0 {w : World} {ad : Addr} (h : Kd.string.C w (some ad) ([S1, S2] : List ByteArray).length [S1, S2]) : w.cell? ad = some (.string S1) := by
 obtain ⟨ad', e, hx⟩ := Kd.at_string h 0 (by decide) (by decide)
 obtain rfl := Option.some.inj e
 cases ad
 exact hx
def awk.T11 : Bool × List (List Nat × List Nat) := (true, [([], []), ([0], [0]), ([1], [1]), ([2], [2]), ([], []), ([3, 4], [3, 4]), ([5], [5]), ([6], [6]), ([6], [6]), ([7, 5, 0, 1, 2, 3, 4, 5, 6, 7], [7]), ([8, 9, 0, 1, 2, 3, 4, 5, 6, 7, 8, 9], [8])])
def awk.B11 : List Nat := [0, 1, 3, 7, 0, 31, 63, 127, 127, 255, 1023]
theorem awk.tab11 : rtab .any (opsOf Tryz.f8 11) = awk.T11 := by kernel_rfl
theorem awk.bits11 : waitsOk awk.T11.2 awk.B11 = true := by kernel_rfl
theorem num0 (w : World) : Calls Tryz.prog 12 #[.int .i64 0] w fun e w' => e = .returned (.int .i64 0) ∧ w' = w := by
 go_enter Tryz.func12, Tryz.ntmps12
 go_wp2
 go_ret
 exact ⟨rfl, rfl⟩
section
variable {P : Program} {ops : Array Oper} {rest : List Oper} {o : Oper} {a : Act} {Q : Exit → Act → World → Prop}
theorem lit_event {W : World} (hgd : o.guard = none) {N : Tmp} (_hd : o.dst = some N) {cs : Array Value} {t n : Nat}
  (hrun : (execOp a.eval o).run P W = .ok (.value (.slice (some ⟨W.heap.size, 0, none⟩) n n)) (W.alloc (.cells cs t (0, 0))))
  (h : ∀ g, g = W.heap.size → ∀ w1, w1.heap[g]? = some (.cells cs t (0, 0)) → Below W.heap.size W w1 → wpList P ops Q rest (a.put o.dst (.slice (some ⟨g, 0, none⟩) n n)) w1) : wpList P ops Q (o :: rest) a W :=
 Kd.event_run hgd hrun (h _ rfl _ (blk_new W _) (below_alloc (Below.refl _ _) _))
end
theorem lists0 (w : World) (g1 g2 : Nat) (h1 : w.heap[g1]? = some (.cells #[.int .i64 5, .int .i64 6, .int .i64 7] 3 (0, 0))) (h2 : w.heap[g2]? = some (.cells #[.slice (some ⟨g1, 0, none⟩) 3 3] 36 (0, 0))) :
  Kd.C (Kd.slice 3 (Kd.int .i64)) w (some ⟨g2, 0, none⟩) ([[5, 6, 7]] : List (List Int)).length [[5, 6, 7]] := by
 refine ⟨rfl, by decide, fun _ => ⟨_, rfl, fun j p hj => ?_⟩⟩
 obtain _ | j := j
 ·obtain rfl := Option.some.inj hj
  refine ⟨[.slice (some ⟨g1, 0, none⟩) 3 3], rfl, ⟨some ⟨g1, 0, none⟩, 3, rfl, by decide, rfl, by decide, fun _ => ⟨_, rfl, fun j p hj => ?_⟩⟩, fun i u hu => ?_⟩
  ·match j, hj with
   | 0, hj => obtain rfl := Option.some.inj hj; exact ⟨[.int .i64 5], rfl, rfl, fun i u hu => match i, hu with | 0, hu => (blk_cell h1 0).trans hu | _ + 1, hu => nomatch hu⟩
   | 1, hj => obtain rfl := Option.some.inj hj; exact ⟨[.int .i64 6], rfl, rfl, fun i u hu => match i, hu with | 0, hu => (blk_cell h1 1).trans hu | _ + 1, hu => nomatch hu⟩
   | 2, hj => obtain rfl := Option.some.inj hj; exact ⟨[.int .i64 7], rfl, rfl, fun i u hu => match i, hu with | 0, hu => (blk_cell h1 2).trans hu | _ + 1, hu => nomatch hu⟩
  ·obtain _ | i := i
   ·exact (blk_cell h2 0).trans hu
   ·cases hu
 ·cases hj
theorem awake_calls (w : World) (hT : Tabs w) : Calls Tryz.prog 8 #[] w fun e w' => e = .returned (.bool true) ∧ Below w.heap.size w w' := by
 have HT := Z_ hT
 clear hT
 have Y1 : Aside0 ((w.alloc (.cells #[.int .i64 1, .int .i64 16] 23)).heap[w.heap.size]? = some (.cells #[.int .i64 1, .int .i64 16] 23 (0, 0))) := ⟨blk_new w _⟩
 have YW : Aside0 (Below w.heap.size w (w.alloc (.cells #[.int .i64 1, .int .i64 16] 23))) := ⟨below_alloc (Below.refl _ _) _⟩
 go_enter Tryz.func8, Tryz.ntmps8
 go_wp2_with fail
 refine (descanttop_wav.calls 20 1 16 _ _ _ w0).mono ?_
 rintro e wk_ ⟨rfl, hb⟩
 replace Y1 := Z_ (blk_below Y1.out hb)
 replace YW := Z_ (below_step YW.out hb)
 clear hb
 go_wp2_with fail
 refine (file_Encode.calls 30 W0 2 _ _ _ e0 (Tabs.below HT.out YW.out)).mono ?_
 rintro e wk_ ⟨rfl, hb⟩
 replace Y1 := Z_ (blk_below Y1.out hb)
 replace YW := Z_ (below_step YW.out hb)
 clear hb
 go_wp2_with fail
 obtain ⟨p1, p2, p3, p5, q, ho⟩ := ok0
 refine (decode_calls 30 30 E0 1 16 2 3 HD0 TL0 [S1, S2] [⟨#[5, 0, 6, 0]⟩, ⟨#[7, 0]⟩] p1 p2 p3 p5 q W0 _ (Tabs.below HT.out YW.out) ho rfl ds0 (by decide) b0).mono ?_
 rintro e wk_ ⟨rfl, hb⟩
 replace Y1 := Z_ (blk_below Y1.out hb)
 replace YW := Z_ (below_step YW.out hb)
 clear hb
 go_wp2_with fail
 refine (sget_calls E0 1 16 2 3 HD0 TL0 [S1, S2] p1 p2 p3 p5 q _ ho).mono ?_
 rintro e wk_ ⟨v0, rfl, hr, hb⟩
 obtain ⟨As, cs_, he, hcs, _⟩ := Kd.R_reads hr
 subst he
 have HS := Z_ (Kd.R_lower hr YW.out.size)
 clear hr
 replace Y1 := Z_ (blk_below Y1.out hb)
 replace YW := Z_ (below_step YW.out hb)
 clear hb
 go_wp2_with (first | (refine X_ 7 #[.int .i64 0, .int .i64 0, .int .i64 0, .int .i64 0, .string ⟨#[]⟩, .string ⟨#[]⟩, .slice none 0 0] 49 ?_; intro g7 hg wk_ hbox hb; have HG_ := Z_ hg; have HB_ := Z_ hb; have Y7 := Z_ hbox; clear hbox hb hg) | ((with_reducible refine gate_store (t := 49) (p := 7) rfl ?_); refine wpList_store_mid rfl 49 _ _ rfl g7 0 #[.int .i64 1, .int .i64 16, .int .i64 2, .int .i64 3, .string HD0, .string TL0, .slice As [S1, S2].length cs_] rfl rfl (there_blk (vs := [.int .i64 0, .int .i64 0, .int .i64 0, .int .i64 0, .string ⟨#[]⟩, .string ⟨#[]⟩, .slice none 0 0]) Y7.out 0 7 (by decide)) (by kernel_rfl) (by simp [Value.oneCell']) ?_; have nc_ := Z_ (setCells_all (vs := [.int .i64 1, .int .i64 16, .int .i64 2, .int .i64 3, .string HD0, .string TL0, .slice As [S1, S2].length cs_]) (old := [.int .i64 0, .int .i64 0, .int .i64 0, .int .i64 0, .string ⟨#[]⟩, .string ⟨#[]⟩, .slice none 0 0]) Y7.out rfl); have hb := below_setCells HB_.out (Nat.le_of_eq HG_.out.symm) [.int .i64 1, .int .i64 16, .int .i64 2, .int .i64 3, .string HD0, .string TL0, .slice As [S1, S2].length cs_] 0; replace Y1 := Z_ (blk_below Y1.out hb); replace YW := Z_ (below_step YW.out hb); replace HS := Z_ (Kd.R_below HS.out hb); clear hb HB_ HG_ Y7; have Y7 := nc_; clear nc_; generalize World.setCells _ _ _ _ = wk_ at Y1 YW HS Y7 ⊢))
 refine (wave_Parse.calls 30 W0 _ _ _ _ _ _ _ pw0).mono ?_
 rintro e wk_ ⟨rfl, hb⟩
 replace Y1 := Z_ (blk_below Y1.out hb)
 replace YW := Z_ (below_step YW.out hb)
 replace HS := Z_ (Kd.R_below HS.out hb)
 replace Y7 := Z_ (blk_below Y7.out hb)
 clear hb
 go_wp2_with (first | (refine X_ 9 #[.int .i64 0, .int .i64 0, .string ⟨#[]⟩, .string ⟨#[]⟩, .string ⟨#[]⟩] 57 ?_; intro g9 hg wk_ hbox hb; have HG_ := Z_ hg; have HB_ := Z_ hb; have Y9 := Z_ hbox; clear hbox hb hg) | ((with_reducible refine gate_store (t := 57) (p := 9) rfl ?_); refine wpList_store_mid rfl 57 _ _ rfl g9 0 #[.int .i64 1, .int .i64 16, .string HD0, .string (W0.extract 44 50), .string TL0] rfl rfl (there_blk (vs := [.int .i64 0, .int .i64 0, .string ⟨#[]⟩, .string ⟨#[]⟩, .string ⟨#[]⟩]) Y9.out 0 5 (by decide)) (by kernel_rfl) (by simp [Value.oneCell']) ?_; have nc_ := Z_ (setCells_all (vs := [.int .i64 1, .int .i64 16, .string HD0, .string (W0.extract 44 50), .string TL0]) (old := [.int .i64 0, .int .i64 0, .string ⟨#[]⟩, .string ⟨#[]⟩, .string ⟨#[]⟩]) Y9.out rfl); have hb := below_setCells HB_.out (Nat.le_of_eq HG_.out.symm) [.int .i64 1, .int .i64 16, .string HD0, .string (W0.extract 44 50), .string TL0] 0; replace Y1 := Z_ (blk_below Y1.out hb); replace YW := Z_ (below_step YW.out hb); replace HS := Z_ (Kd.R_below HS.out hb); replace Y7 := Z_ (blk_below Y7.out hb); clear hb HB_ HG_ Y9; have Y9 := nc_; clear nc_; generalize World.setCells _ _ _ _ = wk_ at Y1 YW HS Y7 Y9 ⊢))
 refine (range_calls 30 E0 1 16 2 3 HD0 TL0 [S1, S2] [⟨#[5, 0, 6, 0]⟩, ⟨#[7, 0]⟩] p1 p2 p3 p5 q 0 3 0 2 2 _ (Tabs.below HT.out YW.out) ho (by decide) (by decide) rfl (fun i => by omega) (by decide) (by decide) (fun i _ h => ds0 i h) rfl (by decide) fr0 (by decide) (by decide)).mono ?_
 rintro e wk_ ⟨rfl, hb⟩
 rw [rr0]
 replace Y1 := Z_ (blk_below Y1.out hb)
 replace YW := Z_ (below_step YW.out hb)
 replace HS := Z_ (Kd.R_below HS.out hb)
 replace Y7 := Z_ (blk_below Y7.out hb)
 replace Y9 := Z_ (blk_below Y9.out hb)
 clear hb
 have r0 := blk_cell Y1.out 0
 have r1 := blk_cell Y1.out 1
 have q3 := blk_cell Y9.out 3
 simp at r0 r1 q3
 go_wp2_with (first | ((with_reducible refine gate_dst (N := 48) rfl ?_); refine wpList_load_mid rfl 23 _ rfl w.heap.size 0 rfl [.int .i64 1, .int .i64 16] _ (range_all Y1.out) Tryz.underlying23 rfl (by kernel_rfl) ?_))
 refine (pcm_Get.calls 30 (W0.extract 44 50) 1 16 [[5, 6, 7]] 0 _ pg0).mono ?_
 rintro e wk_ ⟨v0, rfl, hra, hb⟩
 obtain ⟨Aa, ca, he, hca, hCa⟩ := Kd.S_reads hra
 subst he
 have HA := Z_ hCa
 clear hra hCa
 clear r0 r1 q3
 replace Y1 := Z_ (blk_below Y1.out hb)
 replace YW := Z_ (below_step YW.out hb)
 replace HS := Z_ (Kd.R_below HS.out hb)
 replace Y7 := Z_ (blk_below Y7.out hb)
 replace Y9 := Z_ (blk_below Y9.out hb)
 clear hb
 have q6 := blk_cell Y7.out 6
 simp at q6
 go_wp2_with fail
 clear q6
 obtain ⟨ad, hAd, _⟩ := Kd.at_string (Kd.R_reads' HS.out).2.2 0 (by decide) (by decide)
 subst hAd
 replace Y1 := Z_ (blk_drew Y1.out)
 replace YW := Z_ (below_drew1 YW.out)
 replace HS := Z_ (Kd.R_drew HS.out)
 replace Y7 := Z_ (blk_drew Y7.out)
 replace Y9 := Z_ (blk_drew Y9.out)
 replace HA := Z_ (Kd.C_drew HA.out)
 refine start_ (n := 11) (S := fun w' => w'.heap[g7]? = some (.cells #[.int .i64 1, .int .i64 16, .int .i64 2, .int .i64 3, .string HD0, .string TL0, .slice (some ad) [S1, S2].length cs_] 49 (0, 0)) ∧ w'.heap[w.heap.size]? = some (.cells #[.int .i64 1, .int .i64 16] 23 (0, 0)) ∧ w'.cell? ad = some (.string S1)) (ds := []) #[false, false, false, false, false, false, false, false, false, false, false] (by kernel_rfl) rfl rfl ⟨Y7.out, Y1.out, seg0 (Kd.R_reads' HS.out).2.2⟩ (fun hHeld => ?_); refine with_tabW awk.tab11 awk.bits11 (fun HT_ HW_ => ?_)
 generalize World.drew _ = wk_ at Y1 YW HS Y7 Y9 HA hHeld ⊢
 refine P_ 0 57 ?_
 refine T_ 1 58 (y := by rintro w' s0; have r6 := blk_cell s0.1 6; have r0 := blk_cell s0.2.1 0; have r1 := blk_cell s0.2.1 1; simp at r0 r1 r6; have r7 := s0.2.2; go_simp; with_reducible rfl) (h := ?_)
 refine T_ 2 59 (y := by rintro w' s0; have r6 := blk_cell s0.1 6; have r0 := blk_cell s0.2.1 0; have r1 := blk_cell s0.2.1 1; simp at r0 r1 r6; have r7 := s0.2.2; go_simp; with_reducible rfl) (h := ?_)
 refine T_ 3 60 (y := by rintro w' s0; have r6 := blk_cell s0.1 6; have r0 := blk_cell s0.2.1 0; have r1 := blk_cell s0.2.1 1; simp at r0 r1 r6; have r7 := s0.2.2; go_simp; with_reducible rfl) (h := ?_)
 refine T_ 4 61 (y := by rintro w' s0; have r6 := blk_cell s0.1 6; have r0 := blk_cell s0.2.1 0; have r1 := blk_cell s0.2.1 1; simp at r0 r1 r6; have r7 := s0.2.2; go_simp; with_reducible rfl) (h := ?_)
 refine O_ 5 62 fun K hK => ?_
 refine g_ Tryz.func26 #[.string S1, .agg #[.int .i64 1, .int .i64 16]] ?_
 refine (segment_Get.calls 30 S1 1 16 _ _ _ sg0 (Tabs.below HT.out YW.out)).mono ?_
 rintro e wk_ ⟨rfl, hb⟩
 refine ⟨_, rfl, ?_⟩
 replace Y1 := Z_ (blk_below Y1.out hb)
 replace YW := Z_ (below_step YW.out hb)
 replace HS := Z_ (Kd.R_below HS.out hb)
 replace Y7 := Z_ (blk_below Y7.out hb)
 replace Y9 := Z_ (blk_below Y9.out hb)
 replace HA := Z_ (Kd.C_below HA.out hb)
 clear hb
 refine hK.out _ _ ⟨Y7.out, Y1.out, seg0 (Kd.R_reads' HS.out).2.2⟩ (fun hHeld => ?_)
 clear hK K
 refine Nm_ 62 ?_
 refine P_ 6 56 ?_
 refine P_ 7 63 ?_
 refine P_ 8 64 ?_
 refine P_ 9 15 ?_
 refine P_ 10 16 ?_
 refine done_ (done_of HT_.out (by kernel_rfl)) ?_
 have q3 := blk_cell Y9.out 3
 simp at q3
 go_wp2_with (first | ((with_reducible refine gate_dst (N := 101) rfl ?_); (try (refine gate_guard (by rfl) ?_; dsimp only)); refine lit_event ?hg (N := 101) ?hd (cs := #[.int .i64 5, .int .i64 6, .int .i64 7]) (t := 3) (n := 3) ?hr ?_; (case hd => rfl); (case hg => rfl); (case hr => first | (go_simp; done) | (go_simp; rfl)); intro gl1 hg wk_ hbox hb; replace YW := Z_ (below_step YW.out hb); replace HA := Z_ (Kd.C_below HA.out hb); have L1 := Z_ hbox; clear hbox hb hg) | ((with_reducible refine gate_dst (N := 102) rfl ?_); (try (refine gate_guard (by rfl) ?_; dsimp only)); refine lit_event ?hg (N := 102) ?hd (cs := #[.slice (some ⟨gl1, 0, none⟩) 3 3]) (t := 36) (n := 1) ?hr ?_; (case hd => rfl); (case hg => rfl); (case hr => first | (go_simp; done) | (go_simp; rfl)); intro gl2 hg wk_ hbox hb; replace YW := Z_ (below_step YW.out hb); replace HA := Z_ (Kd.C_below HA.out hb); replace L1 := Z_ (blk_below L1.out hb); have L2 := Z_ hbox; clear hbox hb hg) | (go_at_call 12; refine (num0 _).mono ?_; rintro e wk_ ⟨rfl, rfl⟩) | (go_at_call 27; refine (descantlaw0_SameLists.calls 30 Aa ca [[5, 6, 7]] (some ⟨gl2, 0, none⟩) 1 [[5, 6, 7]] true _ HA.out hca (lists0 _ _ _ L1.out L2.out) (by decide) sl0).mono ?_; rintro e wk_ ⟨rfl, ⟨⟨nd, rfl⟩⟩⟩; replace YW := Z_ (pw_below_drewN YW.out nd); generalize World.drewN _ nd = wk_ at YW ⊢))
 go_ret
 exact ⟨rfl, YW.out⟩
end Go.Proofs.YtfghldonnffldaaGreatDoor
namespace Go.Proofs.YtfghldonnffldaaGreatDoor
open Go.RowKit Go.Proofs.YtfghldonnffldaaGreatDoorW.PrintWords Go.Proofs.YtfghldonnffldaaGreatDoorW.PrintLast Go.Proofs.YtfghldonnffldaaGreatDoorW.PrintMore Go.Proofs.YtfghldonnffldaaGreatDoor.TBase
def descanttop_awake.f : Option Bool := some true
theorem descanttop_awake.calls (r : Bool) (w : World) (h : descanttop_awake.f = some r) (hT : Tabs w := by exact Tabs.below hT B_) :
  Calls Tryz.prog 8 #[] w fun e w' => e = .returned (.bool r) ∧ Below w.heap.size w w' := by
 obtain rfl := Option.some.inj h
 exact awake_calls w hT
end Go.Proofs.YtfghldonnffldaaGreatDoor
namespace Go.Proofs.YtfghldonnffldaaGreatDoor.MTopMono
open Go.RowKit Go.Proofs.YtfghldonnffldaaGreatDoor Go.Proofs.YtfghldonnffldaaGreatDoor.TBase Go.Proofs.YtfghldonnffldaaGreatDoor.UOne Go.Proofs.YtfghldonnffldaaGreatDoor.VTwo Go.Proofs.YtfghldonnffldaaGreatDoor.XThr Go.Proofs.YtfghldonnffldaaGreatDoor.YFou Go.Proofs.YtfghldonnffldaaGreatDoor.ZFiv Go.Proofs.YtfghldonnffldaaGreatDoor.QSix Go.Proofs.YtfghldonnffldaaGreatDoor.ESev Go.Proofs.YtfghldonnffldaaGreatDoorW.PrintWords Go.Proofs.YtfghldonnffldaaGreatDoorW.PrintLast Go.Proofs.YtfghldonnffldaaGreatDoorW.PrintMore
attribute [local go_sem] max2_int min2_int max_two min_two max_three min_three max_four min_four
theorem info3 : (Tryz.prog.info? 3).map (fun i => (i.zero, i.size, i.bytes)) = some (some (.int .i64 0), 1, 8) := by kernel_rfl
def rd_L1 (xs : List (List Int)) (i : Int) : (List Int) := xs.getD i.toNat ([] : List Int)
theorem at_L1 {w : World} {A : Option Addr} {n : Nat} {xs : List (List Int)} (h : Kd.C (Kd.slice 3 (Kd.int .i64)) w A n xs) (i : Int) (h0 : 0 ≤ i) (h1 : i < n) : ∃ ad A0 c0, A = some ad ∧ w.cell? (ad.add i.toNat) = some (.slice A0 (rd_L1 xs i).length c0) ∧ (rd_L1 xs i).length ≤ c0 ∧ (Kd.int .i64).C w A0 (rd_L1 xs i).length (rd_L1 xs i) := by
 obtain ⟨ad, c, e, _, hK, hc0⟩ := Kd.C_get h ([] : List Int) i h0 h1
 have hc : ∀ j u, c[j]? = some u → w.cell? (ad.add (i.toNat * 1 + j)) = some u := hc0
 obtain ⟨A0, c0, rfl, l0, g0⟩ := hK
 exact ⟨ad, A0, c0, e, by have hq := hc 0 _ rfl; rwa [Nat.mul_one, Nat.add_zero] at hq, l0, g0⟩
theorem w4_ (x : Int) (h : 0 ≤ x) (h2 : x ≤ 40) : wrap64 (4 * x) = 4 * x := by unfold wrap64; omega
mutual
def descanttop_TopMono.l0 : Nat → List Int → List Int → Int → Int → Option (Bool)
 | 0, _, _, _, _ => none
 | k + 1, x0, x3, x4, x5 => if x5 < x4 then (if 0 ≤ x5 then (if x5 < (x0.length : Int) then (if x3.length < 17592186044416 then (descanttop_TopMono.l0 k x0 (x3 ++ [wrap64 ((Go.bits .and .i64 (rd x0 x5) 4095) - 2048)]) x4 (wrap64 (x5 + 1))) else (none)) else (none)) else (none)) else ((side_Put.f k (([x3, x3] : List (List Int)))).bind fun bt109 => ((descantlaw0_Num.f bt109.2).bind fun t113 => (if t113 = 0 then (descanttop_TopMono.j1 k x3 x4 bt109.1 ((bt109.1.length : Int) != 2)) else (descanttop_TopMono.j1 k x3 x4 bt109.1 true))))
def descanttop_TopMono.j1 : Nat → List Int → Int → List (List Int) → Bool → Option (Bool)
 | 0, _, _, _, _ => none
 | k + 1, x3, x4, x6, x50 => if x50 = true then (some false) else (if 1 < (x6.length : Int) then ((line_Put.f (rd_L1 x6 1)).bind fun bt115 => ((line_Put.f x3).bind fun bt119 => ((residual_Put.f bt119.1).bind fun bt123 => ((some (([] : List Int) : List Int)).bind fun y125 => (if y125.length + bt119.1.length < 17592186044416 then ((some (y125 ++ bt119.1 : List Int)).bind fun y128 => (if y128.length + bt115.1.length < 17592186044416 then ((residual_Put.f (y128 ++ bt115.1)).bind fun bt134 => ((descantlaw0_Num.f bt115.2).bind fun t136 => (if t136 = 0 then (if 0 ≤ x4 then (if (x4 : Int).toNat ≤ 35184372088832 then ((descantlaw0_SameInts.f k bt115.1 (List.replicate (x4 : Int).toNat 0)).bind fun t140 => (if t140 = true then ((descantlaw0_Num.f bt119.2).bind fun t141 => (if t141 = 0 then ((descantlaw0_Num.f bt123.2).bind fun t142 => (if t142 = 0 then ((descantlaw0_Num.f bt134.2).bind fun t143 => (if t143 = 0 then (some (decide ((bt134.1.size : Int) ≤ (wrap64 ((bt123.1.size : Int) + (wrap64 (4 * x4))))))) else (some false))) else (some false))) else (some false))) else (some false))) else (none)) else (none)) else (some false)))) else (none))) else (none)))))) else (none))
end
def descanttop_TopMono.f (k : Nat) (l0 : List Int) : Option (Bool) := (descanttop_awake.f).bind fun t101 => (if t101 = true then (descanttop_TopMono.l0 k l0 ([] : List Int) (mn (l0.length : Int) 40) 0) else (some false))
theorem descanttop_TopMono.calls (k : Nat) (A0 : Option Addr) (c0 : Nat) (l0 : List Int) (r : Bool) (w : World) (hr0 : Kd.C (Kd.int .i64) w A0 l0.length l0) (hc0 : l0.length ≤ c0) (h : descanttop_TopMono.f k l0 = some r) (hT : Tabs w := by exact Tabs.below hT B_) :
  Calls Tryz.prog 4 #[.slice A0 l0.length c0] w fun e w' => e = .returned (.bool r) ∧ Below w.heap.size w w' := by
 have HR0 := Z_ hr0
 have HC0 := Z_ hc0
 clear hr0 hc0
 have HB := Z_ (Below.refl w.heap.size w)
 have H : ((descanttop_awake.f).bind fun t101 => (if t101 = true then (descanttop_TopMono.l0 k l0 ([] : List Int) (mn (l0.length : Int) 40) 0) else (some false))) = some r := h
 clear h
 replace H := Option.bind_eq_some_iff.mp H
 obtain ⟨t101, A20, H⟩ := H
 (try dsimp only at H)
 have A2 := Z_ A20
 clear A20
 by_cases c3 : t101 = true
 ·subst c3
  rw [if_pos rfl] at H
  obtain ⟨ji4, hji4⟩ : ∃ j_ : Int, (mn (l0.length : Int) 40) = j_ := ⟨_, rfl⟩
  (first | rw [hji4] at H | simp only [hji4] at H)
  (try rw [hji4] at A2)
  (try (have hji4h : ji4 ≤ 40 := by (rw [← hji4]; unfold mn; (repeat' split) <;> omega)))
  (try (have hji4g : ji4 ≤ 64 := by omega))
  (try (have hji4l : 0 ≤ ji4 := by (rw [← hji4]; unfold mn; (repeat' split) <;> omega)))
  (try (have hji4m : 0 ≤ ji4 := by omega))
  have hji4_ : (if 40 < (l0.length : Int) then 40 else (l0.length : Int)) = ji4 := hji4
  have H' := Z_ H
  clear H
  go_enter Tryz.func4, Tryz.ntmps4
  go_wp2_with (first | (refine G_ 17 Tryz.func8 #[] ?_; (with_reducible refine (descanttop_awake.calls  true _ A2.out).mono ?_); rintro e w5 ⟨rfl, hb⟩; refine ⟨_, rfl, ?_⟩; replace HB := Z_ (below_step B_ hb); (try clear hb)))
  go_loopg [3, 5] k (fun kq v3 v5 w' => ∃ (x3_1 : List Int) (x5_1 : Int), v5 = .int .i64 x5_1 ∧ Aside0 (descanttop_TopMono.l0 kq l0 x3_1 ji4 x5_1 = some r) ∧ Aside0 (kq ≤ k) ∧ Aside0 (Kd.R (Kd.int .i64) 3 w' w.heap.size (fun _ => True) v3 x3_1) ∧ Aside0 (Below w.heap.size w w'))
  case atStart => exact ⟨(([] : List Int)), (0), (E1_), H', ⟨Nat.le_refl _⟩, ⟨by first | exact Kd.R_nil _ _ _ _ _ | exact Kd.N_nil _ _ _ _ _ | exact Kd.V_nil _ _ _ _ _ | exact Kd.Q_nil _ _ _ _ _ | exact Kd.S_nil _ _ _ _ _⟩, ⟨B_⟩⟩
  case round =>
   clear H'
   try clear p2
   try clear c3
   try clear c4
   obtain ⟨x3_1, x5_1, rfl, HA, HK1, HO_3, HB⟩ := hrel
   cases gk with
   | zero => exact absurd HA.out (by simp [descanttop_TopMono.l0])
   | succ k1 =>
    have H := HA.out
    clear HA
    simp only [descanttop_TopMono.l0] at H
    by_cases c6 : x5_1 < ji4
    ·rw [if_pos c6] at H
     have c6b0 := decide_eq_true c6
     clear c6
     by_cases c7 : 0 ≤ x5_1
     ·rw [if_pos c7] at H
      have c7b0 := decide_eq_true c7
      clear c7
      by_cases c8 : x5_1 < (l0.length : Int)
      ·rw [if_pos c8] at H
       have c8b0 := decide_eq_true c8
       clear c8
       by_cases c9 : x3_1.length < 17592186044416
       ·rw [if_pos c9] at H
        have LMc9 := Z_ c9
        clear c9
        obtain ⟨y103, hy103⟩ : ∃ y_ : List Int, y_ = (x3_1 ++ [wrap64 ((Go.bits .and .i64 (rd l0 x5_1) 4095) - 2048)]) := ⟨_, rfl⟩
        replace H : (descanttop_TopMono.l0 k1 l0 y103 ji4 (wrap64 (x5_1 + 1))) = some r := by first | (rw [hy103]; with_reducible exact H) | (have H2_ := (Option.bind_some _ _).symm.trans H; rw [hy103]; with_reducible exact H2_) | (have H2_ := (Option.bind_some _ _).symm.trans H; with_reducible exact H2_) | with_reducible exact H | (rw [hy103]; exact H) | exact H
        have Ny103 := Z_ hy103
        clear hy103
        have H' := Z_ H
        clear H
        have p102 : 0 ≤ (x5_1 : Int) := of_decide_eq_true A_
        have q102 : x5_1 < (l0.length : Int) := of_decide_eq_true A_
        obtain ⟨ad102, e102, hx102_0⟩ := Kd.at_int HR0.out x5_1 p102 q102
        cases e102
        replace hx102_0 := (HB.out.cell (World.block_lt_of_cell? w _ hx102_0)).trans hx102_0
        replace p102 := eq_true p102
        replace q102 := eq_true q102
        go_wp2_with (first | ((with_reducible refine gate_builtin (b := .append) (xs := #[.tmp 27, .tmp 34]) rfl ?_); (try (refine gate_guard (by rfl) ?_; dsimp only)); at_builtin; refine Kd.R_append (Kd.int .i64) (w0 := w) w.heap.size rfl (.tmp 27) (.tmp 34) 36 3 (.int .i64 0) 8 rfl Tryz.underlying36 info3 rfl (by decide) (by omega) u3 x3_1 (wrap64 ((Go.bits .and .i64 (rd l0 x5_1) 4095) - 2048)) [.int .i64 (wrap64 ((Go.bits .and .i64 (rd l0 x5_1) 4095) - 2048))] (fun _ => True) (fun _ => False) rfl rfl ?aP (fun _ hk => hk.elim) ?aF ?aO ?aB ?aS ?aL ?_; (case aP => exact rfl); (case aB => exact B_); (case aF => exact (fun _ _ => trivial)); (case aO => exact (R_ HO_3)); (case aS => exact (below_size B_)); (case aL => have := LMc9.out; omega); intro v104 w10 ho hb hg hat; rw [← Ny103.out] at ho; replace HB := Z_ (hb); have HO105 := Z_ (ho); clear HO_3; clear ho hb hg hat))
        go_roundg k1
        case measure => have := HK1.out; omega
        case rel => exact ⟨(y103), (wrap64 (x5_1 + 1)), (E1_), H', ⟨by have := HK1.out; omega⟩, ⟨R_ HO105⟩, ⟨B_⟩⟩
       ·rw [if_neg c9] at H
        exact absurd H (by simp)
      ·rw [if_neg c8] at H
       exact absurd H (by simp)
     ·rw [if_neg c7] at H
      exact absurd H (by simp)
    ·rw [if_neg c6] at H
     have c6b0 := decide_eq_false c6
     clear c6
     obtain ⟨y106, hy106⟩ : ∃ y_ : List (List Int), y_ = (([x3_1, x3_1] : List (List Int))) := ⟨_, rfl⟩
     replace H : ((side_Put.f k1 y106).bind fun bt109 => ((descantlaw0_Num.f bt109.2).bind fun t113 => (if t113 = 0 then (descanttop_TopMono.j1 k1 x3_1 ji4 bt109.1 ((bt109.1.length : Int) != 2)) else (descanttop_TopMono.j1 k1 x3_1 ji4 bt109.1 true)))) = some r := by first | (rw [hy106]; with_reducible exact H) | (have H2_ := (Option.bind_some _ _).symm.trans H; rw [hy106]; with_reducible exact H2_) | (have H2_ := (Option.bind_some _ _).symm.trans H; with_reducible exact H2_) | with_reducible exact H | (rw [hy106]; exact H) | exact H
     have Ny106 := Z_ hy106
     clear hy106
     replace H := Option.bind_eq_some_iff.mp H
     obtain ⟨⟨t109, t110⟩, A110, H⟩ := H
     (try dsimp only at H)
     have A11 := Z_ A110
     clear A110
     have HC12 := Z_ H
     clear H
     obtain ⟨Ao13, co13, eo13⟩ := Kd.R_slice HO_3.out
     subst eo13
     go_upto_region 10 with (first | ((with_reducible refine gate_dst (N := 39) rfl ?_); (try (refine gate_guard (by rfl) ?_; dsimp only)); refine Kd.N_lit (Kd.slice 3 (Kd.int .i64)) _ 36 ?hg (N' := 39) ?hd (xs := ([x3_1, x3_1] : List (List Int))) (inner := [.slice Ao13 x3_1.length co13, .slice Ao13 x3_1.length co13]) (ok := (fun _ => True)) (okp := (fun _ => True)) ?hr ?hp (fun _ hk => hk) ((show ∀ k_, wr.heap.size ≤ k_ → (fun _ => True) k_ from fun k_ hk => trivial) _ (Nat.le_refl _)) (Below.refl _ _) (Nat.le_refl _) (by simp) ?_; (case hd => rfl); (case hg => rfl); (case hr => first | (go_simp; done) | (go_simp; rfl)); (case hp => exact (Reps.one (show Kd.FK (Kd.slice 3 (Kd.int .i64)) _ _ x3_1 [.slice Ao13 x3_1.length co13] from (Kd.FK_slice_mk (Kd.R_reads' (Kd.R_mono (ok' := (fun _ => True)) (HO_3.out) (fun k_ hk => trivial))).2.1 (Kd.R_F (Kd.R_mono (ok' := (fun _ => True)) (HO_3.out) (fun k_ hk => trivial))))) (Reps.one (show Kd.FK (Kd.slice 3 (Kd.int .i64)) _ _ x3_1 [.slice Ao13 x3_1.length co13] from (Kd.FK_slice_mk (Kd.R_reads' (Kd.R_mono (ok' := (fun _ => True)) (HO_3.out) (fun k_ hk => trivial))).2.1 (Kd.R_F (Kd.R_mono (ok' := (fun _ => True)) (HO_3.out) (fun k_ hk => trivial))))) (Reps.none _ _)))); intro v107 w14 ho15 hb hg_ hnew_; clear hg_ hnew_; (first | rw [← Ny106.out] at ho15 | (simp only [Int.reduceToNat] at ho15; rw [← Ny106.out] at ho15)); have HO108 := Z_ (Kd.N_lower ho15 (below_size B_)); replace HB := Z_ (below_step B_ hb); replace HO_3 := Z_ (Kd.R_below HO_3.out hb); clear hb ho15; obtain ⟨Ao16, co16, eo16⟩ := Kd.N_slice HO108.out; subst eo16) | (refine G_ 40 Tryz.func15 #[.slice Ao16 y106.length co16] ?_; refine (side_Put.calls k1 _ _ y106 t109 t110 _ (C_ (Kd.N_reads' HO108.out).2.2) ((Kd.N_reads' HO108.out).2.1) A11.out).mono ?_; rintro e w17 ⟨v111, rfl, ho0, hb⟩; refine ⟨_, rfl, ?_⟩; have n0_ := Z_ (Kd.N_elder' (N_ HO108) (by first | exact Kd.N_base ho0 | exact Kd.S_base ho0 | exact Kd.R_base ho0) hb); have n1_ := Z_ (Kd.N_lower (Kd.N_mono (ok' := fun k_ => some k_ ≠ (.slice Ao16 y106.length co16 : Value).ownBlock) (Kd.S_N (Kd.S_bound ho0)) (fun k_ hk_ => (Kd.fresh' (Kd.N_lt (N_ HO108)) k_ hk_.2.1))) (below_size B_)); have n2_ := Z_ (below_step B_ hb); have n5_ := Z_ (Kd.R_below HO_3.out hb); clear HO_3; have HO_3 := n5_; clear n5_; clear HO108; clear HB; have HO108 := n0_; have HO112 := n1_; have HB := n2_; clear n0_ n1_ n2_; (try clear hb); (try clear ho0)))
     (try simp only [Act.put, List.setIfInBounds_toArray, List.set_cons_zero, List.set_cons_succ])
     go_cut [50] (fun v50 wc => ∃ (kq : Nat) (x50_11 : Bool), v50 = .bool x50_11 ∧ Aside0 (descanttop_TopMono.j1 kq x3_1 ji4 t109 x50_11 = some r) ∧ Aside0 (kq ≤ k1) ∧ Aside0 (Kd.R (Kd.int .i64) 3 wc w.heap.size (fun _ => True) (.slice Ao13 x3_1.length co13) x3_1) ∧ Aside0 (Kd.N (Kd.slice 3 (Kd.int .i64)) 36 wc w.heap.size (fun _ => True) v111 t109) ∧ Aside0 (Below w.heap.size w wc))
     case first =>
      have H := HC12.out
      clear HC12
      replace H := Option.bind_eq_some_iff.mp H
      obtain ⟨t113, A180, H⟩ := H
      (try dsimp only at H)
      have A18 := Z_ A180
      clear A180
      by_cases c19 : t113 = 0
      ·rw [if_pos c19] at H
       have c19b0 : (t113 == 0) = true := beq_iff_eq.mpr c19
       have c19b1 : (t113 != 0) = false := bne_eq_false_iff_eq.mpr c19
       clear c19
       (first | rw [c19b0] | (simp only [i64_w, i32_w]; rw [c19b0]) | skip)
       have H' := Z_ H
       clear H
       go_wp2_with (first | (refine G_ 44 Tryz.func12 #[.int .i64 t110] ?_; (with_reducible refine (descantlaw0_Num.calls t110 t113 _ A18.out).mono ?_); rintro e w' ⟨rfl, ⟨nd, rfl⟩⟩; refine ⟨_, rfl, ?_⟩; obtain ⟨Ao20, co20, eo20⟩ := Kd.N_slice HO112.out; subst eo20))
       go_meet
       case rel => exact ⟨_, (((t109.length : Int) != 2)), (E1_), H', ⟨by have := HK1.out; first | omega | exact Nat.le_refl _⟩, ⟨R_ HO_3⟩, ⟨by (with_reducible repeat (first | apply Kd.N_alloc | apply Kd.N_drewN | apply Kd.N_drew)); exact Kd.N_mono HO112.out (fun _ hk => trivial)⟩, ⟨B_⟩⟩
      ·rw [if_neg c19] at H
       have c19b0 : (t113 == 0) = false := beq_eq_false_iff_ne.mpr c19
       have c19b1 : (t113 != 0) = true := bne_iff_ne.mpr c19
       (first | rw [c19b0] | (simp only [i64_w, i32_w]; rw [c19b0]) | skip)
       have H' := Z_ H
       clear H
       go_wp2_with (first | (refine G_ 44 Tryz.func12 #[.int .i64 t110] ?_; (with_reducible refine (descantlaw0_Num.calls t110 t113 _ A18.out).mono ?_); rintro e w' ⟨rfl, ⟨nd, rfl⟩⟩; refine ⟨_, rfl, ?_⟩))
       go_meet
       case rel => exact ⟨_, (true), (E1_), H', ⟨by have := HK1.out; first | omega | exact Nat.le_refl _⟩, ⟨R_ HO_3⟩, ⟨by (with_reducible repeat (first | apply Kd.N_alloc | apply Kd.N_drewN | apply Kd.N_drew)); exact Kd.N_mono HO112.out (fun _ hk => trivial)⟩, ⟨B_⟩⟩
     case rest =>
      clear HC12
      try clear c1
      try clear p1
      try clear q1
      try clear hx1
      try clear p2
      try clear c3
      try clear c4
      try clear c6
      try clear c6b0
      try clear p6
      try clear c7
      try clear c7b0
      try clear c8
      try clear c8b0
      try clear c9
      try clear p10
      try clear q10
      try clear hx10
      try clear c12
      try clear c15
      try clear c19
      try clear c19b0
      try clear c19b1
      try clear hx102_0
      try clear p102
      try clear p2
      try clear q102
      obtain ⟨kq, x50_11, rfl, HA, HJ11, HO_3, HO_6, HB⟩ := hcut
      cases kq with
      | zero => exact absurd HA.out (by simp [descanttop_TopMono.j1])
      | succ kj11 =>
       have H := HA.out
       clear HA
       simp only [descanttop_TopMono.j1] at H
       by_cases c21 : x50_11 = true
       ·subst c21
        rw [if_pos rfl] at H
        obtain rfl := Option.some.inj H
        go_wp2
        go_ret
        exact ⟨by first | (rw [w4_ ji4 hji4m hji4h]; done) | (rw [w4_ ji4 hji4m hji4h]; rfl) | rfl | (simp [errW_none, errW_some] <;> rfl) | (simp only [← hji4]; first | rfl | (simp [errW_none, errW_some] <;> rfl)) | (simp [*, errW_none, errW_some] <;> rfl), B_⟩
       ·replace c21 := Bool.eq_false_iff.mpr c21
        subst c21
        rw [if_neg (show ¬ (false = true) by decide)] at H
        by_cases c22 : 1 < (t109.length : Int)
        ·rw [if_pos c22] at H
         have c22b0 := decide_eq_true c22
         have c22b1 : decide (1 < t109.length) = true := decide_eq_true (by omega)
         clear c22
         replace H := Option.bind_eq_some_iff.mp H
         obtain ⟨⟨t115, t116⟩, A230, H⟩ := H
         (try dsimp only at H)
         have A23 := Z_ A230
         clear A230
         replace H := Option.bind_eq_some_iff.mp H
         obtain ⟨⟨t119, t120⟩, A240, H⟩ := H
         (try dsimp only at H)
         have A24 := Z_ A240
         clear A240
         replace H := Option.bind_eq_some_iff.mp H
         obtain ⟨⟨t123, t124⟩, A250, H⟩ := H
         (try dsimp only at H)
         have A25 := Z_ A250
         clear A250
         obtain ⟨y125, hy125⟩ : ∃ y_ : List Int, y_ = (([] : List Int)) := ⟨_, rfl⟩
         replace H : (if y125.length + t119.length < 17592186044416 then ((some (y125 ++ t119 : List Int)).bind fun y128 => (if y128.length + t115.length < 17592186044416 then ((residual_Put.f (y128 ++ t115)).bind fun bt134 => ((descantlaw0_Num.f t116).bind fun t136 => (if t136 = 0 then (if 0 ≤ ji4 then (if (ji4 : Int).toNat ≤ 35184372088832 then ((descantlaw0_SameInts.f kj11 t115 (List.replicate (ji4 : Int).toNat 0)).bind fun t140 => (if t140 = true then ((descantlaw0_Num.f t120).bind fun t141 => (if t141 = 0 then ((descantlaw0_Num.f t124).bind fun t142 => (if t142 = 0 then ((descantlaw0_Num.f bt134.2).bind fun t143 => (if t143 = 0 then (some (decide ((bt134.1.size : Int) ≤ (wrap64 ((t123.size : Int) + (wrap64 (4 * ji4))))))) else (some false))) else (some false))) else (some false))) else (some false))) else (none)) else (none)) else (some false)))) else (none))) else (none)) = some r := by first | (rw [hy125]; with_reducible exact H) | (have H2_ := (Option.bind_some _ _).symm.trans H; rw [hy125]; with_reducible exact H2_) | (have H2_ := (Option.bind_some _ _).symm.trans H; with_reducible exact H2_) | with_reducible exact H | (rw [hy125]; exact H) | exact H
         have Ny125 := Z_ hy125
         clear hy125
         by_cases c26 : y125.length + t119.length < 17592186044416
         ·rw [if_pos c26] at H
          have LMc26 := Z_ c26
          clear c26
          obtain ⟨y128, hy128⟩ : ∃ y_ : List Int, y_ = (y125 ++ t119) := ⟨_, rfl⟩
          replace H : (if y128.length + t115.length < 17592186044416 then ((residual_Put.f (y128 ++ t115)).bind fun bt134 => ((descantlaw0_Num.f t116).bind fun t136 => (if t136 = 0 then (if 0 ≤ ji4 then (if (ji4 : Int).toNat ≤ 35184372088832 then ((descantlaw0_SameInts.f kj11 t115 (List.replicate (ji4 : Int).toNat 0)).bind fun t140 => (if t140 = true then ((descantlaw0_Num.f t120).bind fun t141 => (if t141 = 0 then ((descantlaw0_Num.f t124).bind fun t142 => (if t142 = 0 then ((descantlaw0_Num.f bt134.2).bind fun t143 => (if t143 = 0 then (some (decide ((bt134.1.size : Int) ≤ (wrap64 ((t123.size : Int) + (wrap64 (4 * ji4))))))) else (some false))) else (some false))) else (some false))) else (some false))) else (none)) else (none)) else (some false)))) else (none)) = some r := by first | (rw [hy128]; with_reducible exact H) | (have H2_ := (Option.bind_some _ _).symm.trans H; rw [hy128]; with_reducible exact H2_) | (have H2_ := (Option.bind_some _ _).symm.trans H; with_reducible exact H2_) | with_reducible exact H | (rw [hy128]; exact H) | exact H
          have Ny128 := Z_ hy128
          clear hy128
          by_cases c27 : y128.length + t115.length < 17592186044416
          ·rw [if_pos c27] at H
           have LMc27 := Z_ c27
           clear c27
           obtain ⟨y131, hy131⟩ : ∃ y_ : List Int, y_ = (y128 ++ t115) := ⟨_, rfl⟩
           replace H : ((residual_Put.f y131).bind fun bt134 => ((descantlaw0_Num.f t116).bind fun t136 => (if t136 = 0 then (if 0 ≤ ji4 then (if (ji4 : Int).toNat ≤ 35184372088832 then ((descantlaw0_SameInts.f kj11 t115 (List.replicate (ji4 : Int).toNat 0)).bind fun t140 => (if t140 = true then ((descantlaw0_Num.f t120).bind fun t141 => (if t141 = 0 then ((descantlaw0_Num.f t124).bind fun t142 => (if t142 = 0 then ((descantlaw0_Num.f bt134.2).bind fun t143 => (if t143 = 0 then (some (decide ((bt134.1.size : Int) ≤ (wrap64 ((t123.size : Int) + (wrap64 (4 * ji4))))))) else (some false))) else (some false))) else (some false))) else (some false))) else (none)) else (none)) else (some false)))) = some r := by first | (rw [hy131]; with_reducible exact H) | (have H2_ := (Option.bind_some _ _).symm.trans H; rw [hy131]; with_reducible exact H2_) | (have H2_ := (Option.bind_some _ _).symm.trans H; with_reducible exact H2_) | with_reducible exact H | (rw [hy131]; exact H) | exact H
           have Ny131 := Z_ hy131
           clear hy131
           replace H := Option.bind_eq_some_iff.mp H
           obtain ⟨⟨t134, t135⟩, A280, H⟩ := H
           (try dsimp only at H)
           have A28 := Z_ A280
           clear A280
           replace H := Option.bind_eq_some_iff.mp H
           obtain ⟨t136, A290, H⟩ := H
           (try dsimp only at H)
           have A29 := Z_ A290
           clear A290
           by_cases c30 : t136 = 0
           ·rw [if_pos c30] at H
            have c30b0 : (t136 == 0) = true := beq_iff_eq.mpr c30
            have c30b1 : (t136 != 0) = false := bne_eq_false_iff_eq.mpr c30
            clear c30
            by_cases c31 : 0 ≤ ji4
            ·rw [if_pos c31] at H
             have c31b0 := eq_true c31
             have c31b1 := decide_eq_true c31
             clear c31
             by_cases c32 : (ji4 : Int).toNat ≤ 35184372088832
             ·rw [if_pos c32] at H
              have c32b0 := eq_true c32
              have c32b1 := decide_eq_true c32
              (try simp only [Int.toNat_natCast] at c32b1)
              clear c32
              obtain ⟨y137, hy137⟩ : ∃ y_ : List Int, y_ = (List.replicate (ji4 : Int).toNat 0) := ⟨_, rfl⟩
              replace H : ((descantlaw0_SameInts.f kj11 t115 y137).bind fun t140 => (if t140 = true then ((descantlaw0_Num.f t120).bind fun t141 => (if t141 = 0 then ((descantlaw0_Num.f t124).bind fun t142 => (if t142 = 0 then ((descantlaw0_Num.f t135).bind fun t143 => (if t143 = 0 then (some (decide ((t134.size : Int) ≤ (wrap64 ((t123.size : Int) + (wrap64 (4 * ji4))))))) else (some false))) else (some false))) else (some false))) else (some false))) = some r := by first | (rw [hy137]; with_reducible exact H) | (have H2_ := (Option.bind_some _ _).symm.trans H; rw [hy137]; with_reducible exact H2_) | (have H2_ := (Option.bind_some _ _).symm.trans H; with_reducible exact H2_) | with_reducible exact H | (rw [hy137]; exact H) | exact H
              have Ny137 := Z_ hy137
              clear hy137
              replace H := Option.bind_eq_some_iff.mp H
              obtain ⟨t140, A330, H⟩ := H
              (try dsimp only at H)
              have A33 := Z_ A330
              clear A330
              by_cases c34 : t140 = true
              ·subst c34
               rw [if_pos rfl] at H
               replace H := Option.bind_eq_some_iff.mp H
               obtain ⟨t141, A350, H⟩ := H
               (try dsimp only at H)
               have A35 := Z_ A350
               clear A350
               by_cases c36 : t141 = 0
               ·rw [if_pos c36] at H
                have c36b0 : (t141 == 0) = true := beq_iff_eq.mpr c36
                have c36b1 : (t141 != 0) = false := bne_eq_false_iff_eq.mpr c36
                clear c36
                replace H := Option.bind_eq_some_iff.mp H
                obtain ⟨t142, A370, H⟩ := H
                (try dsimp only at H)
                have A37 := Z_ A370
                clear A370
                by_cases c38 : t142 = 0
                ·rw [if_pos c38] at H
                 have c38b0 : (t142 == 0) = true := beq_iff_eq.mpr c38
                 have c38b1 : (t142 != 0) = false := bne_eq_false_iff_eq.mpr c38
                 clear c38
                 replace H := Option.bind_eq_some_iff.mp H
                 obtain ⟨t143, A390, H⟩ := H
                 (try dsimp only at H)
                 have A39 := Z_ A390
                 clear A390
                 by_cases c40 : t143 = 0
                 ·rw [if_pos c40] at H
                  have c40b0 : (t143 == 0) = true := beq_iff_eq.mpr c40
                  have c40b1 : (t143 != 0) = false := bne_eq_false_iff_eq.mpr c40
                  clear c40
                  obtain rfl := Option.some.inj H
                  obtain ⟨Ao41, co41, eo41⟩ := Kd.N_slice HO_6.out
                  subst eo41
                  have p114 : 0 ≤ (1 : Int) := (by omega)
                  have q114 : 1 < (t109.length : Int) := of_decide_eq_true A_
                  obtain ⟨ad114, A114_0, c114_0, e114, hx114_0, hl114_0, hi114_0⟩ := at_L1 (Kd.N_reads' HO_6.out).2.2 1 p114 q114
                  cases e114
                  obtain ⟨ce114, hce114, hMe114, hcc114⟩ := Kd.N_get HO_6.out [] 1 p114 (by first | exact q114 | exact of_decide_eq_true A_ | (have e_ := (Kd.N_reads' HO_6.out).1; omega))
                  obtain ⟨ua114_0, uc114_0, rfl, ul114_0, ge114_0⟩ := Kd.FK_slice_open hMe114
                  have hv114_0 := hcc114 0 _ rfl
                  rw [Nat.add_zero, show ((Kd.slice 3 (Kd.int .i64))).sz = 1 from rfl, Nat.mul_one] at hv114_0
                  replace hv114_0 := Option.some.inj (hv114_0.symm.trans hx114_0)
                  injection hv114_0 with hva_ hvn_ hvc_
                  rw [hva_] at ge114_0
                  rw [hvc_] at ul114_0
                  have HL114_0 := Z_ (show Kd.V (Kd.int .i64) 3 _ w.heap.size _ _ (rd_L1 t109 1) from Kd.V_mk ul114_0 ge114_0)
                  clear hva_ hvn_ hvc_ ge114_0 ul114_0
                  clear hcc114 hce114
                  (try simp only [show (1 : Int).toNat = 1 from rfl, Nat.reduceMul, Nat.reduceEqDiff, Go.Addr.add, ↓reduceIte] at hx114_0)
                  have qi114 : (1 < t109.length) = True := eq_true (by omega)
                  (try rw [show ((1 : Int)).toNat = 1 from rfl] at hx114_0)
                  have HR114_0 := Z_ hi114_0
                  have HC114_0 := Z_ hl114_0
                  clear hi114_0 hl114_0
                  replace p114 := eq_true p114
                  replace q114 := eq_true q114
                  go_wp2_with (first | (refine G_ 55 Tryz.func16 #[.slice A114_0 (rd_L1 t109 1).length c114_0] ?_; refine (line_Put.calls _ _ (rd_L1 t109 1) t115 t116 _ (C_ HR114_0.out) HC114_0.out A23.out).mono ?_; rintro e w42 ⟨v117, rfl, ho0, hb⟩; refine ⟨_, rfl, ?_⟩; replace HO_6 := Z_ (Kd.N_elder' (N_ HO_6) (Kd.R_base ho0) hb); replace HL114_0 := Z_ (Kd.V_elder' (V_ HL114_0) (Kd.R_base ho0) hb); have HO118 := Z_ (Kd.R_lower (Kd.R_new' ho0 (Kd.R_lt (R_ HO_3))) (below_size B_)); replace HO_3 := Z_ (Kd.R_elder' (R_ HO_3) (Kd.R_base ho0) hb); replace HR114_0 := Z_ (Kd.C_below (C_ HR114_0.out) hb); replace HB := Z_ (below_step B_ hb); (try clear hb); (try clear ho0)) | (refine G_ 60 Tryz.func16 #[.slice Ao13 x3_1.length co13] ?_; refine (line_Put.calls _ _ x3_1 t119 t120 _ (C_ (Kd.R_reads' HO_3.out).2.2) ((Kd.R_reads' HO_3.out).2.1) A24.out).mono ?_; rintro e w43 ⟨v121, rfl, ho0, hb⟩; refine ⟨_, rfl, ?_⟩; replace HO_6 := Z_ (Kd.N_elder' (N_ HO_6) (Kd.R_base ho0) hb); replace HL114_0 := Z_ (Kd.V_elder' (V_ HL114_0) (Kd.R_base ho0) hb); have HO122 := Z_ (Kd.R_lower (Kd.R_new' (Kd.R_new' ho0 (Kd.R_lt (R_ HO_3))) (Kd.R_lt (R_ HO118))) (below_size B_)); replace HO_3 := Z_ (Kd.R_elder' (R_ HO_3) (Kd.R_base ho0) hb); replace HO118 := Z_ (Kd.R_elder' (R_ HO118) (Kd.R_base ho0) hb); replace HR114_0 := Z_ (Kd.C_below (C_ HR114_0.out) hb); replace HB := Z_ (below_step B_ hb); (try clear hb); (try clear ho0); obtain ⟨Ao44, co44, eo44⟩ := Kd.R_slice HO122.out; subst eo44) | (refine G_ 65 Tryz.func17 #[.slice Ao44 t119.length co44] ?_; refine (residual_Put.calls _ _ t119 t123 t124 _ (C_ (Kd.R_reads' HO122.out).2.2) ((Kd.R_reads' HO122.out).2.1) A25.out).mono ?_; rintro e w45 ⟨rfl, hb⟩; refine ⟨_, rfl, ?_⟩; replace HO_3 := Z_ (Kd.R_below (R_ HO_3) hb); replace HO_6 := Z_ (Kd.N_below (N_ HO_6) hb); replace HL114_0 := Z_ (Kd.V_below (V_ HL114_0) hb); replace HO118 := Z_ (Kd.R_below (R_ HO118) hb); replace HO122 := Z_ (Kd.R_below (R_ HO122) hb); replace HR114_0 := Z_ (Kd.C_below (C_ HR114_0.out) hb); replace HB := Z_ (below_step B_ hb); (try clear hb)) | ((with_reducible refine gate_dst (N := 68) rfl ?_); (try (refine gate_guard (by rfl) ?_; dsimp only)); refine Kd.R_lit (Kd.int .i64) _ 3 ?hg (N := 68) ?hd (xs := ([] : List Int)) (inner := []) (ok := fun _ => True) (okp := fun _ => True) ?hr ?hp (fun _ hk => hk) trivial (Below.refl _ _) (Nat.le_refl _) (by simp) ?_; (case hd => rfl); (case hg => rfl); (case hr => first | (go_simp; done) | (go_simp; rfl)); (case hp => exact (Reps.none _ _)); intro v126 w46 ho47 hb hg_ hnew_; clear hg_ hnew_; (first | rw [← Ny125.out] at ho47 | (simp only [Int.reduceToNat] at ho47; rw [← Ny125.out] at ho47)); replace HO_6 := Z_ (Kd.N_elder' (N_ HO_6) (Kd.R_base ho47) hb); replace HL114_0 := Z_ (Kd.V_elder' (V_ HL114_0) (Kd.R_base ho47) hb); have HO127 := Z_ (Kd.R_lower (Kd.R_new' (Kd.R_new' (Kd.R_new' ho47 (Kd.R_lt (R_ HO_3))) (Kd.R_lt (R_ HO118))) (Kd.R_lt (R_ HO122))) (below_size B_)); replace HO_3 := Z_ (Kd.R_elder' (R_ HO_3) (Kd.R_base ho47) hb); replace HO118 := Z_ (Kd.R_elder' (R_ HO118) (Kd.R_base ho47) hb); replace HO122 := Z_ (Kd.R_elder' (R_ HO122) (Kd.R_base ho47) hb); replace HR114_0 := Z_ (Kd.C_below (C_ HR114_0.out) hb); replace HB := Z_ (below_step B_ hb); clear hb ho47) | ((with_reducible refine gate_builtin (b := .append) (xs := #[.tmp 68, .tmp 69]) rfl ?_); (try (refine gate_guard (by rfl) ?_; dsimp only)); at_builtin; refine Kd.R_append_rows (Kd.int .i64) (w0 := w) w.heap.size rfl (.tmp 68) (.tmp 69) 36 3 (.int .i64 0) 8 rfl Tryz.underlying36 info3 rfl (by decide) (by omega) v126 y125 t119 _ _ _ (fun k_ => some k_ ≠ (.slice Ao13 x3_1.length co13 : Value).ownBlock ∧ some k_ ≠ (v117 : Value).ownBlock ∧ some k_ ≠ (.slice Ao44 t119.length co44 : Value).ownBlock) (fun _ => False) rfl rfl ?aO ?aR (fun _ _ h => h) (fun _ h => h.elim) ?aF ?aB ?aS ?aL ?_; (case aR => repeat (first | exact (Kd.R_reads' HO122.out).2.2 | (with_reducible refine Kd.C_alloc ?_ _) | (with_reducible refine Kd.C_drewN ?_ _) | (with_reducible refine Kd.C_drew ?_))); (case aB => exact B_); (case aF => exact (fun k_ hk => ⟨Kd.fresh' (Kd.R_lt (R_ HO_3)) k_ hk, Kd.fresh' (Kd.R_lt (R_ HO118)) k_ hk, Kd.fresh' (Kd.R_lt (R_ HO122)) k_ hk⟩)); (case aO => exact (by (with_reducible repeat (first | apply Kd.R_alloc | apply Kd.R_drewN | apply Kd.R_drew)); exact Kd.R_mono HO127.out (fun _ hk => ⟨hk.1.1.2, ⟨hk.1.2, hk.2⟩⟩))); (case aS => exact (below_size B_)); (case aL => have := LMc26.out; omega); intro v129 w48 ho hb hg hat; rw [← Ny128.out] at ho; replace HO_3 := Z_ (Kd.R_after (ok := (fun k_ => some k_ ≠ (v117 : Value).ownBlock ∧ some k_ ≠ (.slice Ao44 t119.length co44 : Value).ownBlock)) (by (with_reducible repeat (first | apply Kd.R_alloc | apply Kd.R_drewN | apply Kd.R_drew)); exact Kd.R_mono HO_3.out (fun _ hk => ⟨⟨hk.1.1.2, hk.1.2⟩, hk.2⟩)) hg hat); replace HO_6 := Z_ (Kd.N_afterv (ok := (fun k_ => some k_ ≠ (v117 : Value).ownBlock ∧ some k_ ≠ (.slice Ao44 t119.length co44 : Value).ownBlock)) (by (with_reducible repeat (first | apply Kd.N_alloc | apply Kd.N_drewN | apply Kd.N_drew)); exact Kd.N_mono HO_6.out (fun _ hk => ⟨⟨hk.1.1.2, hk.1.2⟩, hk.2⟩)) hg hat); replace HL114_0 := Z_ (Kd.V_afterv (ok := (fun k_ => some k_ ≠ (.slice (some ad114) t109.length co41 : Value).ownBlock ∧ some k_ ≠ (v117 : Value).ownBlock ∧ some k_ ≠ (.slice Ao44 t119.length co44 : Value).ownBlock)) (by (with_reducible repeat (first | apply Kd.V_alloc | apply Kd.V_drewN | apply Kd.V_drew)); exact Kd.V_mono HL114_0.out (fun _ hk => ⟨⟨hk.1.1.1.2, ⟨hk.1.1.2, hk.1.2⟩⟩, hk.2⟩)) hg hat); replace HO118 := Z_ (Kd.R_after (ok := (fun k_ => some k_ ≠ (.slice Ao13 x3_1.length co13 : Value).ownBlock ∧ some k_ ≠ (.slice Ao44 t119.length co44 : Value).ownBlock)) (by (with_reducible repeat (first | apply Kd.R_alloc | apply Kd.R_drewN | apply Kd.R_drew)); exact Kd.R_mono HO118.out (fun _ hk => ⟨⟨hk.1.1.2, hk.1.2⟩, hk.2⟩)) hg hat); replace HO122 := Z_ (Kd.R_after (ok := (fun k_ => some k_ ≠ (.slice Ao13 x3_1.length co13 : Value).ownBlock ∧ some k_ ≠ (v117 : Value).ownBlock)) (by (with_reducible repeat (first | apply Kd.R_alloc | apply Kd.R_drewN | apply Kd.R_drew)); exact Kd.R_mono HO122.out (fun _ hk => ⟨⟨hk.1.1.2, hk.1.2⟩, hk.2⟩)) hg hat); replace HB := Z_ (hb); have HO130 := Z_ (ho); clear HO127; clear ho hb hg hat; obtain ⟨Ao50, co50, eo50⟩ := Kd.R_slice HO118.out; subst eo50) | ((with_reducible refine gate_builtin (b := .append) (xs := #[.tmp 71, .tmp 72]) rfl ?_); (try (refine gate_guard (by rfl) ?_; dsimp only)); at_builtin; refine Kd.R_append_rows (Kd.int .i64) (w0 := w) w.heap.size rfl (.tmp 71) (.tmp 72) 36 3 (.int .i64 0) 8 rfl Tryz.underlying36 info3 rfl (by decide) (by omega) v129 y128 t115 _ _ _ (fun k_ => some k_ ≠ (.slice Ao13 x3_1.length co13 : Value).ownBlock ∧ some k_ ≠ (.slice Ao50 t115.length co50 : Value).ownBlock ∧ some k_ ≠ (.slice Ao44 t119.length co44 : Value).ownBlock) (fun _ => False) rfl rfl ?aO ?aR (fun _ _ h => h) (fun _ h => h.elim) ?aF ?aB ?aS ?aL ?_; (case aR => repeat (first | exact (Kd.R_reads' HO118.out).2.2 | (with_reducible refine Kd.C_alloc ?_ _) | (with_reducible refine Kd.C_drewN ?_ _) | (with_reducible refine Kd.C_drew ?_))); (case aB => exact B_); (case aF => exact (fun k_ hk => ⟨Kd.fresh' (Kd.R_lt (R_ HO_3)) k_ hk, Kd.fresh' (Kd.R_lt (R_ HO118)) k_ hk, Kd.fresh' (Kd.R_lt (R_ HO122)) k_ hk⟩)); (case aO => exact (R_ HO130)); (case aS => exact (below_size B_)); (case aL => have := LMc27.out; omega); intro v132 w49 ho hb hg hat; rw [← Ny131.out] at ho; replace HO_3 := Z_ (Kd.R_after (ok := (fun k_ => some k_ ≠ (.slice Ao50 t115.length co50 : Value).ownBlock ∧ some k_ ≠ (.slice Ao44 t119.length co44 : Value).ownBlock)) (R_ HO_3) hg hat); replace HO_6 := Z_ (Kd.N_afterv (ok := (fun k_ => some k_ ≠ (.slice Ao50 t115.length co50 : Value).ownBlock ∧ some k_ ≠ (.slice Ao44 t119.length co44 : Value).ownBlock)) (N_ HO_6) hg hat); replace HL114_0 := Z_ (Kd.V_afterv (ok := (fun k_ => some k_ ≠ (.slice (some ad114) t109.length co41 : Value).ownBlock ∧ some k_ ≠ (.slice Ao50 t115.length co50 : Value).ownBlock ∧ some k_ ≠ (.slice Ao44 t119.length co44 : Value).ownBlock)) (V_ HL114_0) hg hat); replace HO118 := Z_ (Kd.R_after (ok := (fun k_ => some k_ ≠ (.slice Ao13 x3_1.length co13 : Value).ownBlock ∧ some k_ ≠ (.slice Ao44 t119.length co44 : Value).ownBlock)) (R_ HO118) hg hat); replace HO122 := Z_ (Kd.R_after (ok := (fun k_ => some k_ ≠ (.slice Ao13 x3_1.length co13 : Value).ownBlock ∧ some k_ ≠ (.slice Ao50 t115.length co50 : Value).ownBlock)) (R_ HO122) hg hat); replace HB := Z_ (hb); have HO133 := Z_ (ho); clear HO130; clear ho hb hg hat; obtain ⟨Ao51, co51, eo51⟩ := Kd.R_slice HO133.out; subst eo51) | (refine G_ 76 Tryz.func17 #[.slice Ao51 y131.length co51] ?_; refine (residual_Put.calls _ _ y131 t134 t135 _ (C_ (Kd.R_reads' HO133.out).2.2) ((Kd.R_reads' HO133.out).2.1) A28.out).mono ?_; rintro e w52 ⟨rfl, hb⟩; refine ⟨_, rfl, ?_⟩; replace HO_3 := Z_ (Kd.R_below (R_ HO_3) hb); replace HO_6 := Z_ (Kd.N_below (N_ HO_6) hb); replace HL114_0 := Z_ (Kd.V_below (V_ HL114_0) hb); replace HO118 := Z_ (Kd.R_below (R_ HO118) hb); replace HO122 := Z_ (Kd.R_below (R_ HO122) hb); replace HO133 := Z_ (Kd.R_below (R_ HO133) hb); replace HB := Z_ (below_step B_ hb); (try clear hb)) | (refine G_ 80 Tryz.func12 #[.int .i64 t116] ?_; (with_reducible refine (descantlaw0_Num.calls t116 t136 _ A29.out).mono ?_); rintro e w' ⟨rfl, ⟨nd, rfl⟩⟩; refine ⟨_, rfl, ?_⟩) | ((with_reducible refine gate_dst (N := 85) rfl ?_); (try (refine gate_guard (by rfl) ?_; dsimp only)); refine Kd.R_make (Kd.int .i64) _ 3 rfl (N := 85) rfl 36 _ _ rfl ji4 rfl rfl Tryz.underlying36 (.int .i64 0) 8 info3 rfl (by decide) (by omega) 0 (ok := fun _ => True) (okp := fun _ => True) rfl (fun _ hk => hk) trivial (of_decide_eq_true A_) (Nat.le_trans (Nat.mul_le_mul_right _ (of_decide_eq_true A_ : ji4.toNat ≤ 35184372088832)) (by omega)) (Below.refl _ _) (Nat.le_refl _) ?_; intro v138 w53 ho54 hb hg_ hnew_; clear hg_ hnew_; (first | rw [← Ny137.out] at ho54 | (simp only [Int.reduceToNat] at ho54; rw [← Ny137.out] at ho54)); replace HO_6 := Z_ (Kd.N_elder' (N_ HO_6) (Kd.R_base ho54) hb); replace HL114_0 := Z_ (Kd.V_elder' (V_ HL114_0) (Kd.R_base ho54) hb); have HO139 := Z_ (Kd.R_lower (Kd.R_new' (Kd.R_new' (Kd.R_new' (Kd.R_new' ho54 (Kd.R_lt (R_ HO_3))) (Kd.R_lt (R_ HO118))) (Kd.R_lt (R_ HO122))) (Kd.R_lt (R_ HO133))) (below_size B_)); replace HO_3 := Z_ (Kd.R_elder' (R_ HO_3) (Kd.R_base ho54) hb); replace HO118 := Z_ (Kd.R_elder' (R_ HO118) (Kd.R_base ho54) hb); replace HO122 := Z_ (Kd.R_elder' (R_ HO122) (Kd.R_base ho54) hb); replace HO133 := Z_ (Kd.R_elder' (R_ HO133) (Kd.R_base ho54) hb); replace HB := Z_ (below_step B_ hb); clear hb ho54; obtain ⟨Ao55, co55, eo55⟩ := Kd.R_slice HO139.out; subst eo55) | (go_at_call 18; refine (descantlaw0_SameInts.calls kj11 _ _ t115 _ _ y137 true _ (C_ (Kd.R_reads' HO118.out).2.2) ((Kd.R_reads' HO118.out).2.1) (C_ (Kd.R_reads' HO139.out).2.2) ((Kd.R_reads' HO139.out).2.1) A33.out).mono ?_; rintro e w' ⟨rfl, ⟨nd, rfl⟩⟩) | (go_at_call 12; (with_reducible refine (descantlaw0_Num.calls t120 t141 _ A35.out).mono ?_); rintro e w' ⟨rfl, ⟨nd, rfl⟩⟩) | (go_at_call 12; (with_reducible refine (descantlaw0_Num.calls t124 t142 _ A37.out).mono ?_); rintro e w' ⟨rfl, ⟨nd, rfl⟩⟩) | (go_at_call 12; (with_reducible refine (descantlaw0_Num.calls t135 t143 _ A39.out).mono ?_); rintro e w' ⟨rfl, ⟨nd, rfl⟩⟩))
                  go_ret
                  exact ⟨by first | (rw [w4_ ji4 hji4m hji4h]; done) | (rw [w4_ ji4 hji4m hji4h]; rfl) | rfl | (simp [errW_none, errW_some] <;> rfl) | (simp only [← hji4]; first | rfl | (simp [errW_none, errW_some] <;> rfl)) | (simp [*, errW_none, errW_some] <;> rfl), B_⟩
                 ·rw [if_neg c40] at H
                  have c40b0 : (t143 == 0) = false := beq_eq_false_iff_ne.mpr c40
                  have c40b1 : (t143 != 0) = true := bne_iff_ne.mpr c40
                  obtain rfl := Option.some.inj H
                  obtain ⟨Ao56, co56, eo56⟩ := Kd.N_slice HO_6.out
                  subst eo56
                  have p114 : 0 ≤ (1 : Int) := (by omega)
                  have q114 : 1 < (t109.length : Int) := of_decide_eq_true A_
                  obtain ⟨ad114, A114_0, c114_0, e114, hx114_0, hl114_0, hi114_0⟩ := at_L1 (Kd.N_reads' HO_6.out).2.2 1 p114 q114
                  cases e114
                  obtain ⟨ce114, hce114, hMe114, hcc114⟩ := Kd.N_get HO_6.out [] 1 p114 (by first | exact q114 | exact of_decide_eq_true A_ | (have e_ := (Kd.N_reads' HO_6.out).1; omega))
                  obtain ⟨ua114_0, uc114_0, rfl, ul114_0, ge114_0⟩ := Kd.FK_slice_open hMe114
                  have hv114_0 := hcc114 0 _ rfl
                  rw [Nat.add_zero, show ((Kd.slice 3 (Kd.int .i64))).sz = 1 from rfl, Nat.mul_one] at hv114_0
                  replace hv114_0 := Option.some.inj (hv114_0.symm.trans hx114_0)
                  injection hv114_0 with hva_ hvn_ hvc_
                  rw [hva_] at ge114_0
                  rw [hvc_] at ul114_0
                  have HL114_0 := Z_ (show Kd.V (Kd.int .i64) 3 _ w.heap.size _ _ (rd_L1 t109 1) from Kd.V_mk ul114_0 ge114_0)
                  clear hva_ hvn_ hvc_ ge114_0 ul114_0
                  clear hcc114 hce114
                  (try simp only [show (1 : Int).toNat = 1 from rfl, Nat.reduceMul, Nat.reduceEqDiff, Go.Addr.add, ↓reduceIte] at hx114_0)
                  have qi114 : (1 < t109.length) = True := eq_true (by omega)
                  (try rw [show ((1 : Int)).toNat = 1 from rfl] at hx114_0)
                  have HR114_0 := Z_ hi114_0
                  have HC114_0 := Z_ hl114_0
                  clear hi114_0 hl114_0
                  replace p114 := eq_true p114
                  replace q114 := eq_true q114
                  go_wp2_with (first | (refine G_ 55 Tryz.func16 #[.slice A114_0 (rd_L1 t109 1).length c114_0] ?_; refine (line_Put.calls _ _ (rd_L1 t109 1) t115 t116 _ (C_ HR114_0.out) HC114_0.out A23.out).mono ?_; rintro e w57 ⟨v117, rfl, ho0, hb⟩; refine ⟨_, rfl, ?_⟩; replace HO_6 := Z_ (Kd.N_elder' (N_ HO_6) (Kd.R_base ho0) hb); replace HL114_0 := Z_ (Kd.V_elder' (V_ HL114_0) (Kd.R_base ho0) hb); have HO118 := Z_ (Kd.R_lower (Kd.R_new' ho0 (Kd.R_lt (R_ HO_3))) (below_size B_)); replace HO_3 := Z_ (Kd.R_elder' (R_ HO_3) (Kd.R_base ho0) hb); replace HR114_0 := Z_ (Kd.C_below (C_ HR114_0.out) hb); replace HB := Z_ (below_step B_ hb); (try clear hb); (try clear ho0)) | (refine G_ 60 Tryz.func16 #[.slice Ao13 x3_1.length co13] ?_; refine (line_Put.calls _ _ x3_1 t119 t120 _ (C_ (Kd.R_reads' HO_3.out).2.2) ((Kd.R_reads' HO_3.out).2.1) A24.out).mono ?_; rintro e w58 ⟨v121, rfl, ho0, hb⟩; refine ⟨_, rfl, ?_⟩; replace HO_6 := Z_ (Kd.N_elder' (N_ HO_6) (Kd.R_base ho0) hb); replace HL114_0 := Z_ (Kd.V_elder' (V_ HL114_0) (Kd.R_base ho0) hb); have HO122 := Z_ (Kd.R_lower (Kd.R_new' (Kd.R_new' ho0 (Kd.R_lt (R_ HO_3))) (Kd.R_lt (R_ HO118))) (below_size B_)); replace HO_3 := Z_ (Kd.R_elder' (R_ HO_3) (Kd.R_base ho0) hb); replace HO118 := Z_ (Kd.R_elder' (R_ HO118) (Kd.R_base ho0) hb); replace HR114_0 := Z_ (Kd.C_below (C_ HR114_0.out) hb); replace HB := Z_ (below_step B_ hb); (try clear hb); (try clear ho0); obtain ⟨Ao59, co59, eo59⟩ := Kd.R_slice HO122.out; subst eo59) | (refine G_ 65 Tryz.func17 #[.slice Ao59 t119.length co59] ?_; refine (residual_Put.calls _ _ t119 t123 t124 _ (C_ (Kd.R_reads' HO122.out).2.2) ((Kd.R_reads' HO122.out).2.1) A25.out).mono ?_; rintro e w60 ⟨rfl, hb⟩; refine ⟨_, rfl, ?_⟩; replace HO_3 := Z_ (Kd.R_below (R_ HO_3) hb); replace HO_6 := Z_ (Kd.N_below (N_ HO_6) hb); replace HL114_0 := Z_ (Kd.V_below (V_ HL114_0) hb); replace HO118 := Z_ (Kd.R_below (R_ HO118) hb); replace HO122 := Z_ (Kd.R_below (R_ HO122) hb); replace HR114_0 := Z_ (Kd.C_below (C_ HR114_0.out) hb); replace HB := Z_ (below_step B_ hb); (try clear hb)) | ((with_reducible refine gate_dst (N := 68) rfl ?_); (try (refine gate_guard (by rfl) ?_; dsimp only)); refine Kd.R_lit (Kd.int .i64) _ 3 ?hg (N := 68) ?hd (xs := ([] : List Int)) (inner := []) (ok := fun _ => True) (okp := fun _ => True) ?hr ?hp (fun _ hk => hk) trivial (Below.refl _ _) (Nat.le_refl _) (by simp) ?_; (case hd => rfl); (case hg => rfl); (case hr => first | (go_simp; done) | (go_simp; rfl)); (case hp => exact (Reps.none _ _)); intro v126 w61 ho62 hb hg_ hnew_; clear hg_ hnew_; (first | rw [← Ny125.out] at ho62 | (simp only [Int.reduceToNat] at ho62; rw [← Ny125.out] at ho62)); replace HO_6 := Z_ (Kd.N_elder' (N_ HO_6) (Kd.R_base ho62) hb); replace HL114_0 := Z_ (Kd.V_elder' (V_ HL114_0) (Kd.R_base ho62) hb); have HO127 := Z_ (Kd.R_lower (Kd.R_new' (Kd.R_new' (Kd.R_new' ho62 (Kd.R_lt (R_ HO_3))) (Kd.R_lt (R_ HO118))) (Kd.R_lt (R_ HO122))) (below_size B_)); replace HO_3 := Z_ (Kd.R_elder' (R_ HO_3) (Kd.R_base ho62) hb); replace HO118 := Z_ (Kd.R_elder' (R_ HO118) (Kd.R_base ho62) hb); replace HO122 := Z_ (Kd.R_elder' (R_ HO122) (Kd.R_base ho62) hb); replace HR114_0 := Z_ (Kd.C_below (C_ HR114_0.out) hb); replace HB := Z_ (below_step B_ hb); clear hb ho62) | ((with_reducible refine gate_builtin (b := .append) (xs := #[.tmp 68, .tmp 69]) rfl ?_); (try (refine gate_guard (by rfl) ?_; dsimp only)); at_builtin; refine Kd.R_append_rows (Kd.int .i64) (w0 := w) w.heap.size rfl (.tmp 68) (.tmp 69) 36 3 (.int .i64 0) 8 rfl Tryz.underlying36 info3 rfl (by decide) (by omega) v126 y125 t119 _ _ _ (fun k_ => some k_ ≠ (.slice Ao13 x3_1.length co13 : Value).ownBlock ∧ some k_ ≠ (v117 : Value).ownBlock ∧ some k_ ≠ (.slice Ao59 t119.length co59 : Value).ownBlock) (fun _ => False) rfl rfl ?aO ?aR (fun _ _ h => h) (fun _ h => h.elim) ?aF ?aB ?aS ?aL ?_; (case aR => repeat (first | exact (Kd.R_reads' HO122.out).2.2 | (with_reducible refine Kd.C_alloc ?_ _) | (with_reducible refine Kd.C_drewN ?_ _) | (with_reducible refine Kd.C_drew ?_))); (case aB => exact B_); (case aF => exact (fun k_ hk => ⟨Kd.fresh' (Kd.R_lt (R_ HO_3)) k_ hk, Kd.fresh' (Kd.R_lt (R_ HO118)) k_ hk, Kd.fresh' (Kd.R_lt (R_ HO122)) k_ hk⟩)); (case aO => exact (by (with_reducible repeat (first | apply Kd.R_alloc | apply Kd.R_drewN | apply Kd.R_drew)); exact Kd.R_mono HO127.out (fun _ hk => ⟨hk.1.1.2, ⟨hk.1.2, hk.2⟩⟩))); (case aS => exact (below_size B_)); (case aL => have := LMc26.out; omega); intro v129 w63 ho hb hg hat; rw [← Ny128.out] at ho; replace HO_3 := Z_ (Kd.R_after (ok := (fun k_ => some k_ ≠ (v117 : Value).ownBlock ∧ some k_ ≠ (.slice Ao59 t119.length co59 : Value).ownBlock)) (by (with_reducible repeat (first | apply Kd.R_alloc | apply Kd.R_drewN | apply Kd.R_drew)); exact Kd.R_mono HO_3.out (fun _ hk => ⟨⟨hk.1.1.2, hk.1.2⟩, hk.2⟩)) hg hat); replace HO_6 := Z_ (Kd.N_afterv (ok := (fun k_ => some k_ ≠ (v117 : Value).ownBlock ∧ some k_ ≠ (.slice Ao59 t119.length co59 : Value).ownBlock)) (by (with_reducible repeat (first | apply Kd.N_alloc | apply Kd.N_drewN | apply Kd.N_drew)); exact Kd.N_mono HO_6.out (fun _ hk => ⟨⟨hk.1.1.2, hk.1.2⟩, hk.2⟩)) hg hat); replace HL114_0 := Z_ (Kd.V_afterv (ok := (fun k_ => some k_ ≠ (.slice (some ad114) t109.length co56 : Value).ownBlock ∧ some k_ ≠ (v117 : Value).ownBlock ∧ some k_ ≠ (.slice Ao59 t119.length co59 : Value).ownBlock)) (by (with_reducible repeat (first | apply Kd.V_alloc | apply Kd.V_drewN | apply Kd.V_drew)); exact Kd.V_mono HL114_0.out (fun _ hk => ⟨⟨hk.1.1.1.2, ⟨hk.1.1.2, hk.1.2⟩⟩, hk.2⟩)) hg hat); replace HO118 := Z_ (Kd.R_after (ok := (fun k_ => some k_ ≠ (.slice Ao13 x3_1.length co13 : Value).ownBlock ∧ some k_ ≠ (.slice Ao59 t119.length co59 : Value).ownBlock)) (by (with_reducible repeat (first | apply Kd.R_alloc | apply Kd.R_drewN | apply Kd.R_drew)); exact Kd.R_mono HO118.out (fun _ hk => ⟨⟨hk.1.1.2, hk.1.2⟩, hk.2⟩)) hg hat); replace HO122 := Z_ (Kd.R_after (ok := (fun k_ => some k_ ≠ (.slice Ao13 x3_1.length co13 : Value).ownBlock ∧ some k_ ≠ (v117 : Value).ownBlock)) (by (with_reducible repeat (first | apply Kd.R_alloc | apply Kd.R_drewN | apply Kd.R_drew)); exact Kd.R_mono HO122.out (fun _ hk => ⟨⟨hk.1.1.2, hk.1.2⟩, hk.2⟩)) hg hat); replace HB := Z_ (hb); have HO130 := Z_ (ho); clear HO127; clear ho hb hg hat; obtain ⟨Ao65, co65, eo65⟩ := Kd.R_slice HO118.out; subst eo65) | ((with_reducible refine gate_builtin (b := .append) (xs := #[.tmp 71, .tmp 72]) rfl ?_); (try (refine gate_guard (by rfl) ?_; dsimp only)); at_builtin; refine Kd.R_append_rows (Kd.int .i64) (w0 := w) w.heap.size rfl (.tmp 71) (.tmp 72) 36 3 (.int .i64 0) 8 rfl Tryz.underlying36 info3 rfl (by decide) (by omega) v129 y128 t115 _ _ _ (fun k_ => some k_ ≠ (.slice Ao13 x3_1.length co13 : Value).ownBlock ∧ some k_ ≠ (.slice Ao65 t115.length co65 : Value).ownBlock ∧ some k_ ≠ (.slice Ao59 t119.length co59 : Value).ownBlock) (fun _ => False) rfl rfl ?aO ?aR (fun _ _ h => h) (fun _ h => h.elim) ?aF ?aB ?aS ?aL ?_; (case aR => repeat (first | exact (Kd.R_reads' HO118.out).2.2 | (with_reducible refine Kd.C_alloc ?_ _) | (with_reducible refine Kd.C_drewN ?_ _) | (with_reducible refine Kd.C_drew ?_))); (case aB => exact B_); (case aF => exact (fun k_ hk => ⟨Kd.fresh' (Kd.R_lt (R_ HO_3)) k_ hk, Kd.fresh' (Kd.R_lt (R_ HO118)) k_ hk, Kd.fresh' (Kd.R_lt (R_ HO122)) k_ hk⟩)); (case aO => exact (R_ HO130)); (case aS => exact (below_size B_)); (case aL => have := LMc27.out; omega); intro v132 w64 ho hb hg hat; rw [← Ny131.out] at ho; replace HO_3 := Z_ (Kd.R_after (ok := (fun k_ => some k_ ≠ (.slice Ao65 t115.length co65 : Value).ownBlock ∧ some k_ ≠ (.slice Ao59 t119.length co59 : Value).ownBlock)) (R_ HO_3) hg hat); replace HO_6 := Z_ (Kd.N_afterv (ok := (fun k_ => some k_ ≠ (.slice Ao65 t115.length co65 : Value).ownBlock ∧ some k_ ≠ (.slice Ao59 t119.length co59 : Value).ownBlock)) (N_ HO_6) hg hat); replace HL114_0 := Z_ (Kd.V_afterv (ok := (fun k_ => some k_ ≠ (.slice (some ad114) t109.length co56 : Value).ownBlock ∧ some k_ ≠ (.slice Ao65 t115.length co65 : Value).ownBlock ∧ some k_ ≠ (.slice Ao59 t119.length co59 : Value).ownBlock)) (V_ HL114_0) hg hat); replace HO118 := Z_ (Kd.R_after (ok := (fun k_ => some k_ ≠ (.slice Ao13 x3_1.length co13 : Value).ownBlock ∧ some k_ ≠ (.slice Ao59 t119.length co59 : Value).ownBlock)) (R_ HO118) hg hat); replace HO122 := Z_ (Kd.R_after (ok := (fun k_ => some k_ ≠ (.slice Ao13 x3_1.length co13 : Value).ownBlock ∧ some k_ ≠ (.slice Ao65 t115.length co65 : Value).ownBlock)) (R_ HO122) hg hat); replace HB := Z_ (hb); have HO133 := Z_ (ho); clear HO130; clear ho hb hg hat; obtain ⟨Ao66, co66, eo66⟩ := Kd.R_slice HO133.out; subst eo66) | (refine G_ 76 Tryz.func17 #[.slice Ao66 y131.length co66] ?_; refine (residual_Put.calls _ _ y131 t134 t135 _ (C_ (Kd.R_reads' HO133.out).2.2) ((Kd.R_reads' HO133.out).2.1) A28.out).mono ?_; rintro e w67 ⟨rfl, hb⟩; refine ⟨_, rfl, ?_⟩; replace HO_3 := Z_ (Kd.R_below (R_ HO_3) hb); replace HO_6 := Z_ (Kd.N_below (N_ HO_6) hb); replace HL114_0 := Z_ (Kd.V_below (V_ HL114_0) hb); replace HO118 := Z_ (Kd.R_below (R_ HO118) hb); replace HO122 := Z_ (Kd.R_below (R_ HO122) hb); replace HO133 := Z_ (Kd.R_below (R_ HO133) hb); replace HB := Z_ (below_step B_ hb); (try clear hb)) | (refine G_ 80 Tryz.func12 #[.int .i64 t116] ?_; (with_reducible refine (descantlaw0_Num.calls t116 t136 _ A29.out).mono ?_); rintro e w' ⟨rfl, ⟨nd, rfl⟩⟩; refine ⟨_, rfl, ?_⟩) | ((with_reducible refine gate_dst (N := 85) rfl ?_); (try (refine gate_guard (by rfl) ?_; dsimp only)); refine Kd.R_make (Kd.int .i64) _ 3 rfl (N := 85) rfl 36 _ _ rfl ji4 rfl rfl Tryz.underlying36 (.int .i64 0) 8 info3 rfl (by decide) (by omega) 0 (ok := fun _ => True) (okp := fun _ => True) rfl (fun _ hk => hk) trivial (of_decide_eq_true A_) (Nat.le_trans (Nat.mul_le_mul_right _ (of_decide_eq_true A_ : ji4.toNat ≤ 35184372088832)) (by omega)) (Below.refl _ _) (Nat.le_refl _) ?_; intro v138 w68 ho69 hb hg_ hnew_; clear hg_ hnew_; (first | rw [← Ny137.out] at ho69 | (simp only [Int.reduceToNat] at ho69; rw [← Ny137.out] at ho69)); replace HO_6 := Z_ (Kd.N_elder' (N_ HO_6) (Kd.R_base ho69) hb); replace HL114_0 := Z_ (Kd.V_elder' (V_ HL114_0) (Kd.R_base ho69) hb); have HO139 := Z_ (Kd.R_lower (Kd.R_new' (Kd.R_new' (Kd.R_new' (Kd.R_new' ho69 (Kd.R_lt (R_ HO_3))) (Kd.R_lt (R_ HO118))) (Kd.R_lt (R_ HO122))) (Kd.R_lt (R_ HO133))) (below_size B_)); replace HO_3 := Z_ (Kd.R_elder' (R_ HO_3) (Kd.R_base ho69) hb); replace HO118 := Z_ (Kd.R_elder' (R_ HO118) (Kd.R_base ho69) hb); replace HO122 := Z_ (Kd.R_elder' (R_ HO122) (Kd.R_base ho69) hb); replace HO133 := Z_ (Kd.R_elder' (R_ HO133) (Kd.R_base ho69) hb); replace HB := Z_ (below_step B_ hb); clear hb ho69; obtain ⟨Ao70, co70, eo70⟩ := Kd.R_slice HO139.out; subst eo70) | (go_at_call 18; refine (descantlaw0_SameInts.calls kj11 _ _ t115 _ _ y137 true _ (C_ (Kd.R_reads' HO118.out).2.2) ((Kd.R_reads' HO118.out).2.1) (C_ (Kd.R_reads' HO139.out).2.2) ((Kd.R_reads' HO139.out).2.1) A33.out).mono ?_; rintro e w' ⟨rfl, ⟨nd, rfl⟩⟩) | (go_at_call 12; (with_reducible refine (descantlaw0_Num.calls t120 t141 _ A35.out).mono ?_); rintro e w' ⟨rfl, ⟨nd, rfl⟩⟩) | (go_at_call 12; (with_reducible refine (descantlaw0_Num.calls t124 t142 _ A37.out).mono ?_); rintro e w' ⟨rfl, ⟨nd, rfl⟩⟩) | (go_at_call 12; (with_reducible refine (descantlaw0_Num.calls t135 t143 _ A39.out).mono ?_); rintro e w' ⟨rfl, ⟨nd, rfl⟩⟩))
                  go_ret
                  exact ⟨by first | (rw [w4_ ji4 hji4m hji4h]; done) | (rw [w4_ ji4 hji4m hji4h]; rfl) | rfl | (simp [errW_none, errW_some] <;> rfl) | (simp only [← hji4]; first | rfl | (simp [errW_none, errW_some] <;> rfl)) | (simp [*, errW_none, errW_some] <;> rfl), B_⟩
                ·rw [if_neg c38] at H
                 have c38b0 : (t142 == 0) = false := beq_eq_false_iff_ne.mpr c38
                 have c38b1 : (t142 != 0) = true := bne_iff_ne.mpr c38
                 obtain rfl := Option.some.inj H
                 obtain ⟨Ao71, co71, eo71⟩ := Kd.N_slice HO_6.out
                 subst eo71
                 have p114 : 0 ≤ (1 : Int) := (by omega)
                 have q114 : 1 < (t109.length : Int) := of_decide_eq_true A_
                 obtain ⟨ad114, A114_0, c114_0, e114, hx114_0, hl114_0, hi114_0⟩ := at_L1 (Kd.N_reads' HO_6.out).2.2 1 p114 q114
                 cases e114
                 obtain ⟨ce114, hce114, hMe114, hcc114⟩ := Kd.N_get HO_6.out [] 1 p114 (by first | exact q114 | exact of_decide_eq_true A_ | (have e_ := (Kd.N_reads' HO_6.out).1; omega))
                 obtain ⟨ua114_0, uc114_0, rfl, ul114_0, ge114_0⟩ := Kd.FK_slice_open hMe114
                 have hv114_0 := hcc114 0 _ rfl
                 rw [Nat.add_zero, show ((Kd.slice 3 (Kd.int .i64))).sz = 1 from rfl, Nat.mul_one] at hv114_0
                 replace hv114_0 := Option.some.inj (hv114_0.symm.trans hx114_0)
                 injection hv114_0 with hva_ hvn_ hvc_
                 rw [hva_] at ge114_0
                 rw [hvc_] at ul114_0
                 have HL114_0 := Z_ (show Kd.V (Kd.int .i64) 3 _ w.heap.size _ _ (rd_L1 t109 1) from Kd.V_mk ul114_0 ge114_0)
                 clear hva_ hvn_ hvc_ ge114_0 ul114_0
                 clear hcc114 hce114
                 (try simp only [show (1 : Int).toNat = 1 from rfl, Nat.reduceMul, Nat.reduceEqDiff, Go.Addr.add, ↓reduceIte] at hx114_0)
                 have qi114 : (1 < t109.length) = True := eq_true (by omega)
                 (try rw [show ((1 : Int)).toNat = 1 from rfl] at hx114_0)
                 have HR114_0 := Z_ hi114_0
                 have HC114_0 := Z_ hl114_0
                 clear hi114_0 hl114_0
                 replace p114 := eq_true p114
                 replace q114 := eq_true q114
                 go_wp2_with (first | (refine G_ 55 Tryz.func16 #[.slice A114_0 (rd_L1 t109 1).length c114_0] ?_; refine (line_Put.calls _ _ (rd_L1 t109 1) t115 t116 _ (C_ HR114_0.out) HC114_0.out A23.out).mono ?_; rintro e w72 ⟨v117, rfl, ho0, hb⟩; refine ⟨_, rfl, ?_⟩; replace HO_6 := Z_ (Kd.N_elder' (N_ HO_6) (Kd.R_base ho0) hb); replace HL114_0 := Z_ (Kd.V_elder' (V_ HL114_0) (Kd.R_base ho0) hb); have HO118 := Z_ (Kd.R_lower (Kd.R_new' ho0 (Kd.R_lt (R_ HO_3))) (below_size B_)); replace HO_3 := Z_ (Kd.R_elder' (R_ HO_3) (Kd.R_base ho0) hb); replace HR114_0 := Z_ (Kd.C_below (C_ HR114_0.out) hb); replace HB := Z_ (below_step B_ hb); (try clear hb); (try clear ho0)) | (refine G_ 60 Tryz.func16 #[.slice Ao13 x3_1.length co13] ?_; refine (line_Put.calls _ _ x3_1 t119 t120 _ (C_ (Kd.R_reads' HO_3.out).2.2) ((Kd.R_reads' HO_3.out).2.1) A24.out).mono ?_; rintro e w73 ⟨v121, rfl, ho0, hb⟩; refine ⟨_, rfl, ?_⟩; replace HO_6 := Z_ (Kd.N_elder' (N_ HO_6) (Kd.R_base ho0) hb); replace HL114_0 := Z_ (Kd.V_elder' (V_ HL114_0) (Kd.R_base ho0) hb); have HO122 := Z_ (Kd.R_lower (Kd.R_new' (Kd.R_new' ho0 (Kd.R_lt (R_ HO_3))) (Kd.R_lt (R_ HO118))) (below_size B_)); replace HO_3 := Z_ (Kd.R_elder' (R_ HO_3) (Kd.R_base ho0) hb); replace HO118 := Z_ (Kd.R_elder' (R_ HO118) (Kd.R_base ho0) hb); replace HR114_0 := Z_ (Kd.C_below (C_ HR114_0.out) hb); replace HB := Z_ (below_step B_ hb); (try clear hb); (try clear ho0); obtain ⟨Ao74, co74, eo74⟩ := Kd.R_slice HO122.out; subst eo74) | (refine G_ 65 Tryz.func17 #[.slice Ao74 t119.length co74] ?_; refine (residual_Put.calls _ _ t119 t123 t124 _ (C_ (Kd.R_reads' HO122.out).2.2) ((Kd.R_reads' HO122.out).2.1) A25.out).mono ?_; rintro e w75 ⟨rfl, hb⟩; refine ⟨_, rfl, ?_⟩; replace HO_3 := Z_ (Kd.R_below (R_ HO_3) hb); replace HO_6 := Z_ (Kd.N_below (N_ HO_6) hb); replace HL114_0 := Z_ (Kd.V_below (V_ HL114_0) hb); replace HO118 := Z_ (Kd.R_below (R_ HO118) hb); replace HO122 := Z_ (Kd.R_below (R_ HO122) hb); replace HR114_0 := Z_ (Kd.C_below (C_ HR114_0.out) hb); replace HB := Z_ (below_step B_ hb); (try clear hb)) | ((with_reducible refine gate_dst (N := 68) rfl ?_); (try (refine gate_guard (by rfl) ?_; dsimp only)); refine Kd.R_lit (Kd.int .i64) _ 3 ?hg (N := 68) ?hd (xs := ([] : List Int)) (inner := []) (ok := fun _ => True) (okp := fun _ => True) ?hr ?hp (fun _ hk => hk) trivial (Below.refl _ _) (Nat.le_refl _) (by simp) ?_; (case hd => rfl); (case hg => rfl); (case hr => first | (go_simp; done) | (go_simp; rfl)); (case hp => exact (Reps.none _ _)); intro v126 w76 ho77 hb hg_ hnew_; clear hg_ hnew_; (first | rw [← Ny125.out] at ho77 | (simp only [Int.reduceToNat] at ho77; rw [← Ny125.out] at ho77)); replace HO_6 := Z_ (Kd.N_elder' (N_ HO_6) (Kd.R_base ho77) hb); replace HL114_0 := Z_ (Kd.V_elder' (V_ HL114_0) (Kd.R_base ho77) hb); have HO127 := Z_ (Kd.R_lower (Kd.R_new' (Kd.R_new' (Kd.R_new' ho77 (Kd.R_lt (R_ HO_3))) (Kd.R_lt (R_ HO118))) (Kd.R_lt (R_ HO122))) (below_size B_)); replace HO_3 := Z_ (Kd.R_elder' (R_ HO_3) (Kd.R_base ho77) hb); replace HO118 := Z_ (Kd.R_elder' (R_ HO118) (Kd.R_base ho77) hb); replace HO122 := Z_ (Kd.R_elder' (R_ HO122) (Kd.R_base ho77) hb); replace HR114_0 := Z_ (Kd.C_below (C_ HR114_0.out) hb); replace HB := Z_ (below_step B_ hb); clear hb ho77) | ((with_reducible refine gate_builtin (b := .append) (xs := #[.tmp 68, .tmp 69]) rfl ?_); (try (refine gate_guard (by rfl) ?_; dsimp only)); at_builtin; refine Kd.R_append_rows (Kd.int .i64) (w0 := w) w.heap.size rfl (.tmp 68) (.tmp 69) 36 3 (.int .i64 0) 8 rfl Tryz.underlying36 info3 rfl (by decide) (by omega) v126 y125 t119 _ _ _ (fun k_ => some k_ ≠ (.slice Ao13 x3_1.length co13 : Value).ownBlock ∧ some k_ ≠ (v117 : Value).ownBlock ∧ some k_ ≠ (.slice Ao74 t119.length co74 : Value).ownBlock) (fun _ => False) rfl rfl ?aO ?aR (fun _ _ h => h) (fun _ h => h.elim) ?aF ?aB ?aS ?aL ?_; (case aR => repeat (first | exact (Kd.R_reads' HO122.out).2.2 | (with_reducible refine Kd.C_alloc ?_ _) | (with_reducible refine Kd.C_drewN ?_ _) | (with_reducible refine Kd.C_drew ?_))); (case aB => exact B_); (case aF => exact (fun k_ hk => ⟨Kd.fresh' (Kd.R_lt (R_ HO_3)) k_ hk, Kd.fresh' (Kd.R_lt (R_ HO118)) k_ hk, Kd.fresh' (Kd.R_lt (R_ HO122)) k_ hk⟩)); (case aO => exact (by (with_reducible repeat (first | apply Kd.R_alloc | apply Kd.R_drewN | apply Kd.R_drew)); exact Kd.R_mono HO127.out (fun _ hk => ⟨hk.1.1.2, ⟨hk.1.2, hk.2⟩⟩))); (case aS => exact (below_size B_)); (case aL => have := LMc26.out; omega); intro v129 w78 ho hb hg hat; rw [← Ny128.out] at ho; replace HO_3 := Z_ (Kd.R_after (ok := (fun k_ => some k_ ≠ (v117 : Value).ownBlock ∧ some k_ ≠ (.slice Ao74 t119.length co74 : Value).ownBlock)) (by (with_reducible repeat (first | apply Kd.R_alloc | apply Kd.R_drewN | apply Kd.R_drew)); exact Kd.R_mono HO_3.out (fun _ hk => ⟨⟨hk.1.1.2, hk.1.2⟩, hk.2⟩)) hg hat); replace HO_6 := Z_ (Kd.N_afterv (ok := (fun k_ => some k_ ≠ (v117 : Value).ownBlock ∧ some k_ ≠ (.slice Ao74 t119.length co74 : Value).ownBlock)) (by (with_reducible repeat (first | apply Kd.N_alloc | apply Kd.N_drewN | apply Kd.N_drew)); exact Kd.N_mono HO_6.out (fun _ hk => ⟨⟨hk.1.1.2, hk.1.2⟩, hk.2⟩)) hg hat); replace HL114_0 := Z_ (Kd.V_afterv (ok := (fun k_ => some k_ ≠ (.slice (some ad114) t109.length co71 : Value).ownBlock ∧ some k_ ≠ (v117 : Value).ownBlock ∧ some k_ ≠ (.slice Ao74 t119.length co74 : Value).ownBlock)) (by (with_reducible repeat (first | apply Kd.V_alloc | apply Kd.V_drewN | apply Kd.V_drew)); exact Kd.V_mono HL114_0.out (fun _ hk => ⟨⟨hk.1.1.1.2, ⟨hk.1.1.2, hk.1.2⟩⟩, hk.2⟩)) hg hat); replace HO118 := Z_ (Kd.R_after (ok := (fun k_ => some k_ ≠ (.slice Ao13 x3_1.length co13 : Value).ownBlock ∧ some k_ ≠ (.slice Ao74 t119.length co74 : Value).ownBlock)) (by (with_reducible repeat (first | apply Kd.R_alloc | apply Kd.R_drewN | apply Kd.R_drew)); exact Kd.R_mono HO118.out (fun _ hk => ⟨⟨hk.1.1.2, hk.1.2⟩, hk.2⟩)) hg hat); replace HO122 := Z_ (Kd.R_after (ok := (fun k_ => some k_ ≠ (.slice Ao13 x3_1.length co13 : Value).ownBlock ∧ some k_ ≠ (v117 : Value).ownBlock)) (by (with_reducible repeat (first | apply Kd.R_alloc | apply Kd.R_drewN | apply Kd.R_drew)); exact Kd.R_mono HO122.out (fun _ hk => ⟨⟨hk.1.1.2, hk.1.2⟩, hk.2⟩)) hg hat); replace HB := Z_ (hb); have HO130 := Z_ (ho); clear HO127; clear ho hb hg hat; obtain ⟨Ao80, co80, eo80⟩ := Kd.R_slice HO118.out; subst eo80) | ((with_reducible refine gate_builtin (b := .append) (xs := #[.tmp 71, .tmp 72]) rfl ?_); (try (refine gate_guard (by rfl) ?_; dsimp only)); at_builtin; refine Kd.R_append_rows (Kd.int .i64) (w0 := w) w.heap.size rfl (.tmp 71) (.tmp 72) 36 3 (.int .i64 0) 8 rfl Tryz.underlying36 info3 rfl (by decide) (by omega) v129 y128 t115 _ _ _ (fun k_ => some k_ ≠ (.slice Ao13 x3_1.length co13 : Value).ownBlock ∧ some k_ ≠ (.slice Ao80 t115.length co80 : Value).ownBlock ∧ some k_ ≠ (.slice Ao74 t119.length co74 : Value).ownBlock) (fun _ => False) rfl rfl ?aO ?aR (fun _ _ h => h) (fun _ h => h.elim) ?aF ?aB ?aS ?aL ?_; (case aR => repeat (first | exact (Kd.R_reads' HO118.out).2.2 | (with_reducible refine Kd.C_alloc ?_ _) | (with_reducible refine Kd.C_drewN ?_ _) | (with_reducible refine Kd.C_drew ?_))); (case aB => exact B_); (case aF => exact (fun k_ hk => ⟨Kd.fresh' (Kd.R_lt (R_ HO_3)) k_ hk, Kd.fresh' (Kd.R_lt (R_ HO118)) k_ hk, Kd.fresh' (Kd.R_lt (R_ HO122)) k_ hk⟩)); (case aO => exact (R_ HO130)); (case aS => exact (below_size B_)); (case aL => have := LMc27.out; omega); intro v132 w79 ho hb hg hat; rw [← Ny131.out] at ho; replace HO_3 := Z_ (Kd.R_after (ok := (fun k_ => some k_ ≠ (.slice Ao80 t115.length co80 : Value).ownBlock ∧ some k_ ≠ (.slice Ao74 t119.length co74 : Value).ownBlock)) (R_ HO_3) hg hat); replace HO_6 := Z_ (Kd.N_afterv (ok := (fun k_ => some k_ ≠ (.slice Ao80 t115.length co80 : Value).ownBlock ∧ some k_ ≠ (.slice Ao74 t119.length co74 : Value).ownBlock)) (N_ HO_6) hg hat); replace HL114_0 := Z_ (Kd.V_afterv (ok := (fun k_ => some k_ ≠ (.slice (some ad114) t109.length co71 : Value).ownBlock ∧ some k_ ≠ (.slice Ao80 t115.length co80 : Value).ownBlock ∧ some k_ ≠ (.slice Ao74 t119.length co74 : Value).ownBlock)) (V_ HL114_0) hg hat); replace HO118 := Z_ (Kd.R_after (ok := (fun k_ => some k_ ≠ (.slice Ao13 x3_1.length co13 : Value).ownBlock ∧ some k_ ≠ (.slice Ao74 t119.length co74 : Value).ownBlock)) (R_ HO118) hg hat); replace HO122 := Z_ (Kd.R_after (ok := (fun k_ => some k_ ≠ (.slice Ao13 x3_1.length co13 : Value).ownBlock ∧ some k_ ≠ (.slice Ao80 t115.length co80 : Value).ownBlock)) (R_ HO122) hg hat); replace HB := Z_ (hb); have HO133 := Z_ (ho); clear HO130; clear ho hb hg hat; obtain ⟨Ao81, co81, eo81⟩ := Kd.R_slice HO133.out; subst eo81) | (refine G_ 76 Tryz.func17 #[.slice Ao81 y131.length co81] ?_; refine (residual_Put.calls _ _ y131 t134 t135 _ (C_ (Kd.R_reads' HO133.out).2.2) ((Kd.R_reads' HO133.out).2.1) A28.out).mono ?_; rintro e w82 ⟨rfl, hb⟩; refine ⟨_, rfl, ?_⟩; replace HO_3 := Z_ (Kd.R_below (R_ HO_3) hb); replace HO_6 := Z_ (Kd.N_below (N_ HO_6) hb); replace HL114_0 := Z_ (Kd.V_below (V_ HL114_0) hb); replace HO118 := Z_ (Kd.R_below (R_ HO118) hb); replace HO122 := Z_ (Kd.R_below (R_ HO122) hb); replace HO133 := Z_ (Kd.R_below (R_ HO133) hb); replace HB := Z_ (below_step B_ hb); (try clear hb)) | (refine G_ 80 Tryz.func12 #[.int .i64 t116] ?_; (with_reducible refine (descantlaw0_Num.calls t116 t136 _ A29.out).mono ?_); rintro e w' ⟨rfl, ⟨nd, rfl⟩⟩; refine ⟨_, rfl, ?_⟩) | ((with_reducible refine gate_dst (N := 85) rfl ?_); (try (refine gate_guard (by rfl) ?_; dsimp only)); refine Kd.R_make (Kd.int .i64) _ 3 rfl (N := 85) rfl 36 _ _ rfl ji4 rfl rfl Tryz.underlying36 (.int .i64 0) 8 info3 rfl (by decide) (by omega) 0 (ok := fun _ => True) (okp := fun _ => True) rfl (fun _ hk => hk) trivial (of_decide_eq_true A_) (Nat.le_trans (Nat.mul_le_mul_right _ (of_decide_eq_true A_ : ji4.toNat ≤ 35184372088832)) (by omega)) (Below.refl _ _) (Nat.le_refl _) ?_; intro v138 w83 ho84 hb hg_ hnew_; clear hg_ hnew_; (first | rw [← Ny137.out] at ho84 | (simp only [Int.reduceToNat] at ho84; rw [← Ny137.out] at ho84)); replace HO_6 := Z_ (Kd.N_elder' (N_ HO_6) (Kd.R_base ho84) hb); replace HL114_0 := Z_ (Kd.V_elder' (V_ HL114_0) (Kd.R_base ho84) hb); have HO139 := Z_ (Kd.R_lower (Kd.R_new' (Kd.R_new' (Kd.R_new' (Kd.R_new' ho84 (Kd.R_lt (R_ HO_3))) (Kd.R_lt (R_ HO118))) (Kd.R_lt (R_ HO122))) (Kd.R_lt (R_ HO133))) (below_size B_)); replace HO_3 := Z_ (Kd.R_elder' (R_ HO_3) (Kd.R_base ho84) hb); replace HO118 := Z_ (Kd.R_elder' (R_ HO118) (Kd.R_base ho84) hb); replace HO122 := Z_ (Kd.R_elder' (R_ HO122) (Kd.R_base ho84) hb); replace HO133 := Z_ (Kd.R_elder' (R_ HO133) (Kd.R_base ho84) hb); replace HB := Z_ (below_step B_ hb); clear hb ho84; obtain ⟨Ao85, co85, eo85⟩ := Kd.R_slice HO139.out; subst eo85) | (go_at_call 18; refine (descantlaw0_SameInts.calls kj11 _ _ t115 _ _ y137 true _ (C_ (Kd.R_reads' HO118.out).2.2) ((Kd.R_reads' HO118.out).2.1) (C_ (Kd.R_reads' HO139.out).2.2) ((Kd.R_reads' HO139.out).2.1) A33.out).mono ?_; rintro e w' ⟨rfl, ⟨nd, rfl⟩⟩) | (go_at_call 12; (with_reducible refine (descantlaw0_Num.calls t120 t141 _ A35.out).mono ?_); rintro e w' ⟨rfl, ⟨nd, rfl⟩⟩) | (go_at_call 12; (with_reducible refine (descantlaw0_Num.calls t124 t142 _ A37.out).mono ?_); rintro e w' ⟨rfl, ⟨nd, rfl⟩⟩))
                 go_ret
                 exact ⟨by first | (rw [w4_ ji4 hji4m hji4h]; done) | (rw [w4_ ji4 hji4m hji4h]; rfl) | rfl | (simp [errW_none, errW_some] <;> rfl) | (simp only [← hji4]; first | rfl | (simp [errW_none, errW_some] <;> rfl)) | (simp [*, errW_none, errW_some] <;> rfl), B_⟩
               ·rw [if_neg c36] at H
                have c36b0 : (t141 == 0) = false := beq_eq_false_iff_ne.mpr c36
                have c36b1 : (t141 != 0) = true := bne_iff_ne.mpr c36
                obtain rfl := Option.some.inj H
                obtain ⟨Ao86, co86, eo86⟩ := Kd.N_slice HO_6.out
                subst eo86
                have p114 : 0 ≤ (1 : Int) := (by omega)
                have q114 : 1 < (t109.length : Int) := of_decide_eq_true A_
                obtain ⟨ad114, A114_0, c114_0, e114, hx114_0, hl114_0, hi114_0⟩ := at_L1 (Kd.N_reads' HO_6.out).2.2 1 p114 q114
                cases e114
                obtain ⟨ce114, hce114, hMe114, hcc114⟩ := Kd.N_get HO_6.out [] 1 p114 (by first | exact q114 | exact of_decide_eq_true A_ | (have e_ := (Kd.N_reads' HO_6.out).1; omega))
                obtain ⟨ua114_0, uc114_0, rfl, ul114_0, ge114_0⟩ := Kd.FK_slice_open hMe114
                have hv114_0 := hcc114 0 _ rfl
                rw [Nat.add_zero, show ((Kd.slice 3 (Kd.int .i64))).sz = 1 from rfl, Nat.mul_one] at hv114_0
                replace hv114_0 := Option.some.inj (hv114_0.symm.trans hx114_0)
                injection hv114_0 with hva_ hvn_ hvc_
                rw [hva_] at ge114_0
                rw [hvc_] at ul114_0
                have HL114_0 := Z_ (show Kd.V (Kd.int .i64) 3 _ w.heap.size _ _ (rd_L1 t109 1) from Kd.V_mk ul114_0 ge114_0)
                clear hva_ hvn_ hvc_ ge114_0 ul114_0
                clear hcc114 hce114
                (try simp only [show (1 : Int).toNat = 1 from rfl, Nat.reduceMul, Nat.reduceEqDiff, Go.Addr.add, ↓reduceIte] at hx114_0)
                have qi114 : (1 < t109.length) = True := eq_true (by omega)
                (try rw [show ((1 : Int)).toNat = 1 from rfl] at hx114_0)
                have HR114_0 := Z_ hi114_0
                have HC114_0 := Z_ hl114_0
                clear hi114_0 hl114_0
                replace p114 := eq_true p114
                replace q114 := eq_true q114
                go_wp2_with (first | (refine G_ 55 Tryz.func16 #[.slice A114_0 (rd_L1 t109 1).length c114_0] ?_; refine (line_Put.calls _ _ (rd_L1 t109 1) t115 t116 _ (C_ HR114_0.out) HC114_0.out A23.out).mono ?_; rintro e w87 ⟨v117, rfl, ho0, hb⟩; refine ⟨_, rfl, ?_⟩; replace HO_6 := Z_ (Kd.N_elder' (N_ HO_6) (Kd.R_base ho0) hb); replace HL114_0 := Z_ (Kd.V_elder' (V_ HL114_0) (Kd.R_base ho0) hb); have HO118 := Z_ (Kd.R_lower (Kd.R_new' ho0 (Kd.R_lt (R_ HO_3))) (below_size B_)); replace HO_3 := Z_ (Kd.R_elder' (R_ HO_3) (Kd.R_base ho0) hb); replace HR114_0 := Z_ (Kd.C_below (C_ HR114_0.out) hb); replace HB := Z_ (below_step B_ hb); (try clear hb); (try clear ho0)) | (refine G_ 60 Tryz.func16 #[.slice Ao13 x3_1.length co13] ?_; refine (line_Put.calls _ _ x3_1 t119 t120 _ (C_ (Kd.R_reads' HO_3.out).2.2) ((Kd.R_reads' HO_3.out).2.1) A24.out).mono ?_; rintro e w88 ⟨v121, rfl, ho0, hb⟩; refine ⟨_, rfl, ?_⟩; replace HO_6 := Z_ (Kd.N_elder' (N_ HO_6) (Kd.R_base ho0) hb); replace HL114_0 := Z_ (Kd.V_elder' (V_ HL114_0) (Kd.R_base ho0) hb); have HO122 := Z_ (Kd.R_lower (Kd.R_new' (Kd.R_new' ho0 (Kd.R_lt (R_ HO_3))) (Kd.R_lt (R_ HO118))) (below_size B_)); replace HO_3 := Z_ (Kd.R_elder' (R_ HO_3) (Kd.R_base ho0) hb); replace HO118 := Z_ (Kd.R_elder' (R_ HO118) (Kd.R_base ho0) hb); replace HR114_0 := Z_ (Kd.C_below (C_ HR114_0.out) hb); replace HB := Z_ (below_step B_ hb); (try clear hb); (try clear ho0); obtain ⟨Ao89, co89, eo89⟩ := Kd.R_slice HO122.out; subst eo89) | (refine G_ 65 Tryz.func17 #[.slice Ao89 t119.length co89] ?_; refine (residual_Put.calls _ _ t119 t123 t124 _ (C_ (Kd.R_reads' HO122.out).2.2) ((Kd.R_reads' HO122.out).2.1) A25.out).mono ?_; rintro e w90 ⟨rfl, hb⟩; refine ⟨_, rfl, ?_⟩; replace HO_3 := Z_ (Kd.R_below (R_ HO_3) hb); replace HO_6 := Z_ (Kd.N_below (N_ HO_6) hb); replace HL114_0 := Z_ (Kd.V_below (V_ HL114_0) hb); replace HO118 := Z_ (Kd.R_below (R_ HO118) hb); replace HO122 := Z_ (Kd.R_below (R_ HO122) hb); replace HR114_0 := Z_ (Kd.C_below (C_ HR114_0.out) hb); replace HB := Z_ (below_step B_ hb); (try clear hb)) | ((with_reducible refine gate_dst (N := 68) rfl ?_); (try (refine gate_guard (by rfl) ?_; dsimp only)); refine Kd.R_lit (Kd.int .i64) _ 3 ?hg (N := 68) ?hd (xs := ([] : List Int)) (inner := []) (ok := fun _ => True) (okp := fun _ => True) ?hr ?hp (fun _ hk => hk) trivial (Below.refl _ _) (Nat.le_refl _) (by simp) ?_; (case hd => rfl); (case hg => rfl); (case hr => first | (go_simp; done) | (go_simp; rfl)); (case hp => exact (Reps.none _ _)); intro v126 w91 ho92 hb hg_ hnew_; clear hg_ hnew_; (first | rw [← Ny125.out] at ho92 | (simp only [Int.reduceToNat] at ho92; rw [← Ny125.out] at ho92)); replace HO_6 := Z_ (Kd.N_elder' (N_ HO_6) (Kd.R_base ho92) hb); replace HL114_0 := Z_ (Kd.V_elder' (V_ HL114_0) (Kd.R_base ho92) hb); have HO127 := Z_ (Kd.R_lower (Kd.R_new' (Kd.R_new' (Kd.R_new' ho92 (Kd.R_lt (R_ HO_3))) (Kd.R_lt (R_ HO118))) (Kd.R_lt (R_ HO122))) (below_size B_)); replace HO_3 := Z_ (Kd.R_elder' (R_ HO_3) (Kd.R_base ho92) hb); replace HO118 := Z_ (Kd.R_elder' (R_ HO118) (Kd.R_base ho92) hb); replace HO122 := Z_ (Kd.R_elder' (R_ HO122) (Kd.R_base ho92) hb); replace HR114_0 := Z_ (Kd.C_below (C_ HR114_0.out) hb); replace HB := Z_ (below_step B_ hb); clear hb ho92) | ((with_reducible refine gate_builtin (b := .append) (xs := #[.tmp 68, .tmp 69]) rfl ?_); (try (refine gate_guard (by rfl) ?_; dsimp only)); at_builtin; refine Kd.R_append_rows (Kd.int .i64) (w0 := w) w.heap.size rfl (.tmp 68) (.tmp 69) 36 3 (.int .i64 0) 8 rfl Tryz.underlying36 info3 rfl (by decide) (by omega) v126 y125 t119 _ _ _ (fun k_ => some k_ ≠ (.slice Ao13 x3_1.length co13 : Value).ownBlock ∧ some k_ ≠ (v117 : Value).ownBlock ∧ some k_ ≠ (.slice Ao89 t119.length co89 : Value).ownBlock) (fun _ => False) rfl rfl ?aO ?aR (fun _ _ h => h) (fun _ h => h.elim) ?aF ?aB ?aS ?aL ?_; (case aR => repeat (first | exact (Kd.R_reads' HO122.out).2.2 | (with_reducible refine Kd.C_alloc ?_ _) | (with_reducible refine Kd.C_drewN ?_ _) | (with_reducible refine Kd.C_drew ?_))); (case aB => exact B_); (case aF => exact (fun k_ hk => ⟨Kd.fresh' (Kd.R_lt (R_ HO_3)) k_ hk, Kd.fresh' (Kd.R_lt (R_ HO118)) k_ hk, Kd.fresh' (Kd.R_lt (R_ HO122)) k_ hk⟩)); (case aO => exact (by (with_reducible repeat (first | apply Kd.R_alloc | apply Kd.R_drewN | apply Kd.R_drew)); exact Kd.R_mono HO127.out (fun _ hk => ⟨hk.1.1.2, ⟨hk.1.2, hk.2⟩⟩))); (case aS => exact (below_size B_)); (case aL => have := LMc26.out; omega); intro v129 w93 ho hb hg hat; rw [← Ny128.out] at ho; replace HO_3 := Z_ (Kd.R_after (ok := (fun k_ => some k_ ≠ (v117 : Value).ownBlock ∧ some k_ ≠ (.slice Ao89 t119.length co89 : Value).ownBlock)) (by (with_reducible repeat (first | apply Kd.R_alloc | apply Kd.R_drewN | apply Kd.R_drew)); exact Kd.R_mono HO_3.out (fun _ hk => ⟨⟨hk.1.1.2, hk.1.2⟩, hk.2⟩)) hg hat); replace HO_6 := Z_ (Kd.N_afterv (ok := (fun k_ => some k_ ≠ (v117 : Value).ownBlock ∧ some k_ ≠ (.slice Ao89 t119.length co89 : Value).ownBlock)) (by (with_reducible repeat (first | apply Kd.N_alloc | apply Kd.N_drewN | apply Kd.N_drew)); exact Kd.N_mono HO_6.out (fun _ hk => ⟨⟨hk.1.1.2, hk.1.2⟩, hk.2⟩)) hg hat); replace HL114_0 := Z_ (Kd.V_afterv (ok := (fun k_ => some k_ ≠ (.slice (some ad114) t109.length co86 : Value).ownBlock ∧ some k_ ≠ (v117 : Value).ownBlock ∧ some k_ ≠ (.slice Ao89 t119.length co89 : Value).ownBlock)) (by (with_reducible repeat (first | apply Kd.V_alloc | apply Kd.V_drewN | apply Kd.V_drew)); exact Kd.V_mono HL114_0.out (fun _ hk => ⟨⟨hk.1.1.1.2, ⟨hk.1.1.2, hk.1.2⟩⟩, hk.2⟩)) hg hat); replace HO118 := Z_ (Kd.R_after (ok := (fun k_ => some k_ ≠ (.slice Ao13 x3_1.length co13 : Value).ownBlock ∧ some k_ ≠ (.slice Ao89 t119.length co89 : Value).ownBlock)) (by (with_reducible repeat (first | apply Kd.R_alloc | apply Kd.R_drewN | apply Kd.R_drew)); exact Kd.R_mono HO118.out (fun _ hk => ⟨⟨hk.1.1.2, hk.1.2⟩, hk.2⟩)) hg hat); replace HO122 := Z_ (Kd.R_after (ok := (fun k_ => some k_ ≠ (.slice Ao13 x3_1.length co13 : Value).ownBlock ∧ some k_ ≠ (v117 : Value).ownBlock)) (by (with_reducible repeat (first | apply Kd.R_alloc | apply Kd.R_drewN | apply Kd.R_drew)); exact Kd.R_mono HO122.out (fun _ hk => ⟨⟨hk.1.1.2, hk.1.2⟩, hk.2⟩)) hg hat); replace HB := Z_ (hb); have HO130 := Z_ (ho); clear HO127; clear ho hb hg hat; obtain ⟨Ao95, co95, eo95⟩ := Kd.R_slice HO118.out; subst eo95) | ((with_reducible refine gate_builtin (b := .append) (xs := #[.tmp 71, .tmp 72]) rfl ?_); (try (refine gate_guard (by rfl) ?_; dsimp only)); at_builtin; refine Kd.R_append_rows (Kd.int .i64) (w0 := w) w.heap.size rfl (.tmp 71) (.tmp 72) 36 3 (.int .i64 0) 8 rfl Tryz.underlying36 info3 rfl (by decide) (by omega) v129 y128 t115 _ _ _ (fun k_ => some k_ ≠ (.slice Ao13 x3_1.length co13 : Value).ownBlock ∧ some k_ ≠ (.slice Ao95 t115.length co95 : Value).ownBlock ∧ some k_ ≠ (.slice Ao89 t119.length co89 : Value).ownBlock) (fun _ => False) rfl rfl ?aO ?aR (fun _ _ h => h) (fun _ h => h.elim) ?aF ?aB ?aS ?aL ?_; (case aR => repeat (first | exact (Kd.R_reads' HO118.out).2.2 | (with_reducible refine Kd.C_alloc ?_ _) | (with_reducible refine Kd.C_drewN ?_ _) | (with_reducible refine Kd.C_drew ?_))); (case aB => exact B_); (case aF => exact (fun k_ hk => ⟨Kd.fresh' (Kd.R_lt (R_ HO_3)) k_ hk, Kd.fresh' (Kd.R_lt (R_ HO118)) k_ hk, Kd.fresh' (Kd.R_lt (R_ HO122)) k_ hk⟩)); (case aO => exact (R_ HO130)); (case aS => exact (below_size B_)); (case aL => have := LMc27.out; omega); intro v132 w94 ho hb hg hat; rw [← Ny131.out] at ho; replace HO_3 := Z_ (Kd.R_after (ok := (fun k_ => some k_ ≠ (.slice Ao95 t115.length co95 : Value).ownBlock ∧ some k_ ≠ (.slice Ao89 t119.length co89 : Value).ownBlock)) (R_ HO_3) hg hat); replace HO_6 := Z_ (Kd.N_afterv (ok := (fun k_ => some k_ ≠ (.slice Ao95 t115.length co95 : Value).ownBlock ∧ some k_ ≠ (.slice Ao89 t119.length co89 : Value).ownBlock)) (N_ HO_6) hg hat); replace HL114_0 := Z_ (Kd.V_afterv (ok := (fun k_ => some k_ ≠ (.slice (some ad114) t109.length co86 : Value).ownBlock ∧ some k_ ≠ (.slice Ao95 t115.length co95 : Value).ownBlock ∧ some k_ ≠ (.slice Ao89 t119.length co89 : Value).ownBlock)) (V_ HL114_0) hg hat); replace HO118 := Z_ (Kd.R_after (ok := (fun k_ => some k_ ≠ (.slice Ao13 x3_1.length co13 : Value).ownBlock ∧ some k_ ≠ (.slice Ao89 t119.length co89 : Value).ownBlock)) (R_ HO118) hg hat); replace HO122 := Z_ (Kd.R_after (ok := (fun k_ => some k_ ≠ (.slice Ao13 x3_1.length co13 : Value).ownBlock ∧ some k_ ≠ (.slice Ao95 t115.length co95 : Value).ownBlock)) (R_ HO122) hg hat); replace HB := Z_ (hb); have HO133 := Z_ (ho); clear HO130; clear ho hb hg hat; obtain ⟨Ao96, co96, eo96⟩ := Kd.R_slice HO133.out; subst eo96) | (refine G_ 76 Tryz.func17 #[.slice Ao96 y131.length co96] ?_; refine (residual_Put.calls _ _ y131 t134 t135 _ (C_ (Kd.R_reads' HO133.out).2.2) ((Kd.R_reads' HO133.out).2.1) A28.out).mono ?_; rintro e w97 ⟨rfl, hb⟩; refine ⟨_, rfl, ?_⟩; replace HO_3 := Z_ (Kd.R_below (R_ HO_3) hb); replace HO_6 := Z_ (Kd.N_below (N_ HO_6) hb); replace HL114_0 := Z_ (Kd.V_below (V_ HL114_0) hb); replace HO118 := Z_ (Kd.R_below (R_ HO118) hb); replace HO122 := Z_ (Kd.R_below (R_ HO122) hb); replace HO133 := Z_ (Kd.R_below (R_ HO133) hb); replace HB := Z_ (below_step B_ hb); (try clear hb)) | (refine G_ 80 Tryz.func12 #[.int .i64 t116] ?_; (with_reducible refine (descantlaw0_Num.calls t116 t136 _ A29.out).mono ?_); rintro e w' ⟨rfl, ⟨nd, rfl⟩⟩; refine ⟨_, rfl, ?_⟩) | ((with_reducible refine gate_dst (N := 85) rfl ?_); (try (refine gate_guard (by rfl) ?_; dsimp only)); refine Kd.R_make (Kd.int .i64) _ 3 rfl (N := 85) rfl 36 _ _ rfl ji4 rfl rfl Tryz.underlying36 (.int .i64 0) 8 info3 rfl (by decide) (by omega) 0 (ok := fun _ => True) (okp := fun _ => True) rfl (fun _ hk => hk) trivial (of_decide_eq_true A_) (Nat.le_trans (Nat.mul_le_mul_right _ (of_decide_eq_true A_ : ji4.toNat ≤ 35184372088832)) (by omega)) (Below.refl _ _) (Nat.le_refl _) ?_; intro v138 w98 ho99 hb hg_ hnew_; clear hg_ hnew_; (first | rw [← Ny137.out] at ho99 | (simp only [Int.reduceToNat] at ho99; rw [← Ny137.out] at ho99)); replace HO_6 := Z_ (Kd.N_elder' (N_ HO_6) (Kd.R_base ho99) hb); replace HL114_0 := Z_ (Kd.V_elder' (V_ HL114_0) (Kd.R_base ho99) hb); have HO139 := Z_ (Kd.R_lower (Kd.R_new' (Kd.R_new' (Kd.R_new' (Kd.R_new' ho99 (Kd.R_lt (R_ HO_3))) (Kd.R_lt (R_ HO118))) (Kd.R_lt (R_ HO122))) (Kd.R_lt (R_ HO133))) (below_size B_)); replace HO_3 := Z_ (Kd.R_elder' (R_ HO_3) (Kd.R_base ho99) hb); replace HO118 := Z_ (Kd.R_elder' (R_ HO118) (Kd.R_base ho99) hb); replace HO122 := Z_ (Kd.R_elder' (R_ HO122) (Kd.R_base ho99) hb); replace HO133 := Z_ (Kd.R_elder' (R_ HO133) (Kd.R_base ho99) hb); replace HB := Z_ (below_step B_ hb); clear hb ho99; obtain ⟨Ao100, co100, eo100⟩ := Kd.R_slice HO139.out; subst eo100) | (go_at_call 18; refine (descantlaw0_SameInts.calls kj11 _ _ t115 _ _ y137 true _ (C_ (Kd.R_reads' HO118.out).2.2) ((Kd.R_reads' HO118.out).2.1) (C_ (Kd.R_reads' HO139.out).2.2) ((Kd.R_reads' HO139.out).2.1) A33.out).mono ?_; rintro e w' ⟨rfl, ⟨nd, rfl⟩⟩) | (go_at_call 12; (with_reducible refine (descantlaw0_Num.calls t120 t141 _ A35.out).mono ?_); rintro e w' ⟨rfl, ⟨nd, rfl⟩⟩))
                go_ret
                exact ⟨by first | (rw [w4_ ji4 hji4m hji4h]; done) | (rw [w4_ ji4 hji4m hji4h]; rfl) | rfl | (simp [errW_none, errW_some] <;> rfl) | (simp only [← hji4]; first | rfl | (simp [errW_none, errW_some] <;> rfl)) | (simp [*, errW_none, errW_some] <;> rfl), B_⟩
              ·replace c34 := Bool.eq_false_iff.mpr c34
               subst c34
               rw [if_neg (show ¬ (false = true) by decide)] at H
               obtain rfl := Option.some.inj H
               obtain ⟨Ao101, co101, eo101⟩ := Kd.N_slice HO_6.out
               subst eo101
               have p114 : 0 ≤ (1 : Int) := (by omega)
               have q114 : 1 < (t109.length : Int) := of_decide_eq_true A_
               obtain ⟨ad114, A114_0, c114_0, e114, hx114_0, hl114_0, hi114_0⟩ := at_L1 (Kd.N_reads' HO_6.out).2.2 1 p114 q114
               cases e114
               obtain ⟨ce114, hce114, hMe114, hcc114⟩ := Kd.N_get HO_6.out [] 1 p114 (by first | exact q114 | exact of_decide_eq_true A_ | (have e_ := (Kd.N_reads' HO_6.out).1; omega))
               obtain ⟨ua114_0, uc114_0, rfl, ul114_0, ge114_0⟩ := Kd.FK_slice_open hMe114
               have hv114_0 := hcc114 0 _ rfl
               rw [Nat.add_zero, show ((Kd.slice 3 (Kd.int .i64))).sz = 1 from rfl, Nat.mul_one] at hv114_0
               replace hv114_0 := Option.some.inj (hv114_0.symm.trans hx114_0)
               injection hv114_0 with hva_ hvn_ hvc_
               rw [hva_] at ge114_0
               rw [hvc_] at ul114_0
               have HL114_0 := Z_ (show Kd.V (Kd.int .i64) 3 _ w.heap.size _ _ (rd_L1 t109 1) from Kd.V_mk ul114_0 ge114_0)
               clear hva_ hvn_ hvc_ ge114_0 ul114_0
               clear hcc114 hce114
               (try simp only [show (1 : Int).toNat = 1 from rfl, Nat.reduceMul, Nat.reduceEqDiff, Go.Addr.add, ↓reduceIte] at hx114_0)
               have qi114 : (1 < t109.length) = True := eq_true (by omega)
               (try rw [show ((1 : Int)).toNat = 1 from rfl] at hx114_0)
               have HR114_0 := Z_ hi114_0
               have HC114_0 := Z_ hl114_0
               clear hi114_0 hl114_0
               replace p114 := eq_true p114
               replace q114 := eq_true q114
               go_wp2_with (first | (refine G_ 55 Tryz.func16 #[.slice A114_0 (rd_L1 t109 1).length c114_0] ?_; refine (line_Put.calls _ _ (rd_L1 t109 1) t115 t116 _ (C_ HR114_0.out) HC114_0.out A23.out).mono ?_; rintro e w102 ⟨v117, rfl, ho0, hb⟩; refine ⟨_, rfl, ?_⟩; replace HO_6 := Z_ (Kd.N_elder' (N_ HO_6) (Kd.R_base ho0) hb); replace HL114_0 := Z_ (Kd.V_elder' (V_ HL114_0) (Kd.R_base ho0) hb); have HO118 := Z_ (Kd.R_lower (Kd.R_new' ho0 (Kd.R_lt (R_ HO_3))) (below_size B_)); replace HO_3 := Z_ (Kd.R_elder' (R_ HO_3) (Kd.R_base ho0) hb); replace HR114_0 := Z_ (Kd.C_below (C_ HR114_0.out) hb); replace HB := Z_ (below_step B_ hb); (try clear hb); (try clear ho0)) | (refine G_ 60 Tryz.func16 #[.slice Ao13 x3_1.length co13] ?_; refine (line_Put.calls _ _ x3_1 t119 t120 _ (C_ (Kd.R_reads' HO_3.out).2.2) ((Kd.R_reads' HO_3.out).2.1) A24.out).mono ?_; rintro e w103 ⟨v121, rfl, ho0, hb⟩; refine ⟨_, rfl, ?_⟩; replace HO_6 := Z_ (Kd.N_elder' (N_ HO_6) (Kd.R_base ho0) hb); replace HL114_0 := Z_ (Kd.V_elder' (V_ HL114_0) (Kd.R_base ho0) hb); have HO122 := Z_ (Kd.R_lower (Kd.R_new' (Kd.R_new' ho0 (Kd.R_lt (R_ HO_3))) (Kd.R_lt (R_ HO118))) (below_size B_)); replace HO_3 := Z_ (Kd.R_elder' (R_ HO_3) (Kd.R_base ho0) hb); replace HO118 := Z_ (Kd.R_elder' (R_ HO118) (Kd.R_base ho0) hb); replace HR114_0 := Z_ (Kd.C_below (C_ HR114_0.out) hb); replace HB := Z_ (below_step B_ hb); (try clear hb); (try clear ho0); obtain ⟨Ao104, co104, eo104⟩ := Kd.R_slice HO122.out; subst eo104) | (refine G_ 65 Tryz.func17 #[.slice Ao104 t119.length co104] ?_; refine (residual_Put.calls _ _ t119 t123 t124 _ (C_ (Kd.R_reads' HO122.out).2.2) ((Kd.R_reads' HO122.out).2.1) A25.out).mono ?_; rintro e w105 ⟨rfl, hb⟩; refine ⟨_, rfl, ?_⟩; replace HO_3 := Z_ (Kd.R_below (R_ HO_3) hb); replace HO_6 := Z_ (Kd.N_below (N_ HO_6) hb); replace HL114_0 := Z_ (Kd.V_below (V_ HL114_0) hb); replace HO118 := Z_ (Kd.R_below (R_ HO118) hb); replace HO122 := Z_ (Kd.R_below (R_ HO122) hb); replace HR114_0 := Z_ (Kd.C_below (C_ HR114_0.out) hb); replace HB := Z_ (below_step B_ hb); (try clear hb)) | ((with_reducible refine gate_dst (N := 68) rfl ?_); (try (refine gate_guard (by rfl) ?_; dsimp only)); refine Kd.R_lit (Kd.int .i64) _ 3 ?hg (N := 68) ?hd (xs := ([] : List Int)) (inner := []) (ok := fun _ => True) (okp := fun _ => True) ?hr ?hp (fun _ hk => hk) trivial (Below.refl _ _) (Nat.le_refl _) (by simp) ?_; (case hd => rfl); (case hg => rfl); (case hr => first | (go_simp; done) | (go_simp; rfl)); (case hp => exact (Reps.none _ _)); intro v126 w106 ho107 hb hg_ hnew_; clear hg_ hnew_; (first | rw [← Ny125.out] at ho107 | (simp only [Int.reduceToNat] at ho107; rw [← Ny125.out] at ho107)); replace HO_6 := Z_ (Kd.N_elder' (N_ HO_6) (Kd.R_base ho107) hb); replace HL114_0 := Z_ (Kd.V_elder' (V_ HL114_0) (Kd.R_base ho107) hb); have HO127 := Z_ (Kd.R_lower (Kd.R_new' (Kd.R_new' (Kd.R_new' ho107 (Kd.R_lt (R_ HO_3))) (Kd.R_lt (R_ HO118))) (Kd.R_lt (R_ HO122))) (below_size B_)); replace HO_3 := Z_ (Kd.R_elder' (R_ HO_3) (Kd.R_base ho107) hb); replace HO118 := Z_ (Kd.R_elder' (R_ HO118) (Kd.R_base ho107) hb); replace HO122 := Z_ (Kd.R_elder' (R_ HO122) (Kd.R_base ho107) hb); replace HR114_0 := Z_ (Kd.C_below (C_ HR114_0.out) hb); replace HB := Z_ (below_step B_ hb); clear hb ho107) | ((with_reducible refine gate_builtin (b := .append) (xs := #[.tmp 68, .tmp 69]) rfl ?_); (try (refine gate_guard (by rfl) ?_; dsimp only)); at_builtin; refine Kd.R_append_rows (Kd.int .i64) (w0 := w) w.heap.size rfl (.tmp 68) (.tmp 69) 36 3 (.int .i64 0) 8 rfl Tryz.underlying36 info3 rfl (by decide) (by omega) v126 y125 t119 _ _ _ (fun k_ => some k_ ≠ (.slice Ao13 x3_1.length co13 : Value).ownBlock ∧ some k_ ≠ (v117 : Value).ownBlock ∧ some k_ ≠ (.slice Ao104 t119.length co104 : Value).ownBlock) (fun _ => False) rfl rfl ?aO ?aR (fun _ _ h => h) (fun _ h => h.elim) ?aF ?aB ?aS ?aL ?_; (case aR => repeat (first | exact (Kd.R_reads' HO122.out).2.2 | (with_reducible refine Kd.C_alloc ?_ _) | (with_reducible refine Kd.C_drewN ?_ _) | (with_reducible refine Kd.C_drew ?_))); (case aB => exact B_); (case aF => exact (fun k_ hk => ⟨Kd.fresh' (Kd.R_lt (R_ HO_3)) k_ hk, Kd.fresh' (Kd.R_lt (R_ HO118)) k_ hk, Kd.fresh' (Kd.R_lt (R_ HO122)) k_ hk⟩)); (case aO => exact (by (with_reducible repeat (first | apply Kd.R_alloc | apply Kd.R_drewN | apply Kd.R_drew)); exact Kd.R_mono HO127.out (fun _ hk => ⟨hk.1.1.2, ⟨hk.1.2, hk.2⟩⟩))); (case aS => exact (below_size B_)); (case aL => have := LMc26.out; omega); intro v129 w108 ho hb hg hat; rw [← Ny128.out] at ho; replace HO_3 := Z_ (Kd.R_after (ok := (fun k_ => some k_ ≠ (v117 : Value).ownBlock ∧ some k_ ≠ (.slice Ao104 t119.length co104 : Value).ownBlock)) (by (with_reducible repeat (first | apply Kd.R_alloc | apply Kd.R_drewN | apply Kd.R_drew)); exact Kd.R_mono HO_3.out (fun _ hk => ⟨⟨hk.1.1.2, hk.1.2⟩, hk.2⟩)) hg hat); replace HO_6 := Z_ (Kd.N_afterv (ok := (fun k_ => some k_ ≠ (v117 : Value).ownBlock ∧ some k_ ≠ (.slice Ao104 t119.length co104 : Value).ownBlock)) (by (with_reducible repeat (first | apply Kd.N_alloc | apply Kd.N_drewN | apply Kd.N_drew)); exact Kd.N_mono HO_6.out (fun _ hk => ⟨⟨hk.1.1.2, hk.1.2⟩, hk.2⟩)) hg hat); replace HL114_0 := Z_ (Kd.V_afterv (ok := (fun k_ => some k_ ≠ (.slice (some ad114) t109.length co101 : Value).ownBlock ∧ some k_ ≠ (v117 : Value).ownBlock ∧ some k_ ≠ (.slice Ao104 t119.length co104 : Value).ownBlock)) (by (with_reducible repeat (first | apply Kd.V_alloc | apply Kd.V_drewN | apply Kd.V_drew)); exact Kd.V_mono HL114_0.out (fun _ hk => ⟨⟨hk.1.1.1.2, ⟨hk.1.1.2, hk.1.2⟩⟩, hk.2⟩)) hg hat); replace HO118 := Z_ (Kd.R_after (ok := (fun k_ => some k_ ≠ (.slice Ao13 x3_1.length co13 : Value).ownBlock ∧ some k_ ≠ (.slice Ao104 t119.length co104 : Value).ownBlock)) (by (with_reducible repeat (first | apply Kd.R_alloc | apply Kd.R_drewN | apply Kd.R_drew)); exact Kd.R_mono HO118.out (fun _ hk => ⟨⟨hk.1.1.2, hk.1.2⟩, hk.2⟩)) hg hat); replace HO122 := Z_ (Kd.R_after (ok := (fun k_ => some k_ ≠ (.slice Ao13 x3_1.length co13 : Value).ownBlock ∧ some k_ ≠ (v117 : Value).ownBlock)) (by (with_reducible repeat (first | apply Kd.R_alloc | apply Kd.R_drewN | apply Kd.R_drew)); exact Kd.R_mono HO122.out (fun _ hk => ⟨⟨hk.1.1.2, hk.1.2⟩, hk.2⟩)) hg hat); replace HB := Z_ (hb); have HO130 := Z_ (ho); clear HO127; clear ho hb hg hat; obtain ⟨Ao110, co110, eo110⟩ := Kd.R_slice HO118.out; subst eo110) | ((with_reducible refine gate_builtin (b := .append) (xs := #[.tmp 71, .tmp 72]) rfl ?_); (try (refine gate_guard (by rfl) ?_; dsimp only)); at_builtin; refine Kd.R_append_rows (Kd.int .i64) (w0 := w) w.heap.size rfl (.tmp 71) (.tmp 72) 36 3 (.int .i64 0) 8 rfl Tryz.underlying36 info3 rfl (by decide) (by omega) v129 y128 t115 _ _ _ (fun k_ => some k_ ≠ (.slice Ao13 x3_1.length co13 : Value).ownBlock ∧ some k_ ≠ (.slice Ao110 t115.length co110 : Value).ownBlock ∧ some k_ ≠ (.slice Ao104 t119.length co104 : Value).ownBlock) (fun _ => False) rfl rfl ?aO ?aR (fun _ _ h => h) (fun _ h => h.elim) ?aF ?aB ?aS ?aL ?_; (case aR => repeat (first | exact (Kd.R_reads' HO118.out).2.2 | (with_reducible refine Kd.C_alloc ?_ _) | (with_reducible refine Kd.C_drewN ?_ _) | (with_reducible refine Kd.C_drew ?_))); (case aB => exact B_); (case aF => exact (fun k_ hk => ⟨Kd.fresh' (Kd.R_lt (R_ HO_3)) k_ hk, Kd.fresh' (Kd.R_lt (R_ HO118)) k_ hk, Kd.fresh' (Kd.R_lt (R_ HO122)) k_ hk⟩)); (case aO => exact (R_ HO130)); (case aS => exact (below_size B_)); (case aL => have := LMc27.out; omega); intro v132 w109 ho hb hg hat; rw [← Ny131.out] at ho; replace HO_3 := Z_ (Kd.R_after (ok := (fun k_ => some k_ ≠ (.slice Ao110 t115.length co110 : Value).ownBlock ∧ some k_ ≠ (.slice Ao104 t119.length co104 : Value).ownBlock)) (R_ HO_3) hg hat); replace HO_6 := Z_ (Kd.N_afterv (ok := (fun k_ => some k_ ≠ (.slice Ao110 t115.length co110 : Value).ownBlock ∧ some k_ ≠ (.slice Ao104 t119.length co104 : Value).ownBlock)) (N_ HO_6) hg hat); replace HL114_0 := Z_ (Kd.V_afterv (ok := (fun k_ => some k_ ≠ (.slice (some ad114) t109.length co101 : Value).ownBlock ∧ some k_ ≠ (.slice Ao110 t115.length co110 : Value).ownBlock ∧ some k_ ≠ (.slice Ao104 t119.length co104 : Value).ownBlock)) (V_ HL114_0) hg hat); replace HO118 := Z_ (Kd.R_after (ok := (fun k_ => some k_ ≠ (.slice Ao13 x3_1.length co13 : Value).ownBlock ∧ some k_ ≠ (.slice Ao104 t119.length co104 : Value).ownBlock)) (R_ HO118) hg hat); replace HO122 := Z_ (Kd.R_after (ok := (fun k_ => some k_ ≠ (.slice Ao13 x3_1.length co13 : Value).ownBlock ∧ some k_ ≠ (.slice Ao110 t115.length co110 : Value).ownBlock)) (R_ HO122) hg hat); replace HB := Z_ (hb); have HO133 := Z_ (ho); clear HO130; clear ho hb hg hat; obtain ⟨Ao111, co111, eo111⟩ := Kd.R_slice HO133.out; subst eo111) | (refine G_ 76 Tryz.func17 #[.slice Ao111 y131.length co111] ?_; refine (residual_Put.calls _ _ y131 t134 t135 _ (C_ (Kd.R_reads' HO133.out).2.2) ((Kd.R_reads' HO133.out).2.1) A28.out).mono ?_; rintro e w112 ⟨rfl, hb⟩; refine ⟨_, rfl, ?_⟩; replace HO_3 := Z_ (Kd.R_below (R_ HO_3) hb); replace HO_6 := Z_ (Kd.N_below (N_ HO_6) hb); replace HL114_0 := Z_ (Kd.V_below (V_ HL114_0) hb); replace HO118 := Z_ (Kd.R_below (R_ HO118) hb); replace HO122 := Z_ (Kd.R_below (R_ HO122) hb); replace HO133 := Z_ (Kd.R_below (R_ HO133) hb); replace HB := Z_ (below_step B_ hb); (try clear hb)) | (refine G_ 80 Tryz.func12 #[.int .i64 t116] ?_; (with_reducible refine (descantlaw0_Num.calls t116 t136 _ A29.out).mono ?_); rintro e w' ⟨rfl, ⟨nd, rfl⟩⟩; refine ⟨_, rfl, ?_⟩) | ((with_reducible refine gate_dst (N := 85) rfl ?_); (try (refine gate_guard (by rfl) ?_; dsimp only)); refine Kd.R_make (Kd.int .i64) _ 3 rfl (N := 85) rfl 36 _ _ rfl ji4 rfl rfl Tryz.underlying36 (.int .i64 0) 8 info3 rfl (by decide) (by omega) 0 (ok := fun _ => True) (okp := fun _ => True) rfl (fun _ hk => hk) trivial (of_decide_eq_true A_) (Nat.le_trans (Nat.mul_le_mul_right _ (of_decide_eq_true A_ : ji4.toNat ≤ 35184372088832)) (by omega)) (Below.refl _ _) (Nat.le_refl _) ?_; intro v138 w113 ho114 hb hg_ hnew_; clear hg_ hnew_; (first | rw [← Ny137.out] at ho114 | (simp only [Int.reduceToNat] at ho114; rw [← Ny137.out] at ho114)); replace HO_6 := Z_ (Kd.N_elder' (N_ HO_6) (Kd.R_base ho114) hb); replace HL114_0 := Z_ (Kd.V_elder' (V_ HL114_0) (Kd.R_base ho114) hb); have HO139 := Z_ (Kd.R_lower (Kd.R_new' (Kd.R_new' (Kd.R_new' (Kd.R_new' ho114 (Kd.R_lt (R_ HO_3))) (Kd.R_lt (R_ HO118))) (Kd.R_lt (R_ HO122))) (Kd.R_lt (R_ HO133))) (below_size B_)); replace HO_3 := Z_ (Kd.R_elder' (R_ HO_3) (Kd.R_base ho114) hb); replace HO118 := Z_ (Kd.R_elder' (R_ HO118) (Kd.R_base ho114) hb); replace HO122 := Z_ (Kd.R_elder' (R_ HO122) (Kd.R_base ho114) hb); replace HO133 := Z_ (Kd.R_elder' (R_ HO133) (Kd.R_base ho114) hb); replace HB := Z_ (below_step B_ hb); clear hb ho114; obtain ⟨Ao115, co115, eo115⟩ := Kd.R_slice HO139.out; subst eo115) | (go_at_call 18; refine (descantlaw0_SameInts.calls kj11 _ _ t115 _ _ y137 false _ (C_ (Kd.R_reads' HO118.out).2.2) ((Kd.R_reads' HO118.out).2.1) (C_ (Kd.R_reads' HO139.out).2.2) ((Kd.R_reads' HO139.out).2.1) A33.out).mono ?_; rintro e w' ⟨rfl, ⟨nd, rfl⟩⟩))
               go_ret
               exact ⟨by first | (rw [w4_ ji4 hji4m hji4h]; done) | (rw [w4_ ji4 hji4m hji4h]; rfl) | rfl | (simp [errW_none, errW_some] <;> rfl) | (simp only [← hji4]; first | rfl | (simp [errW_none, errW_some] <;> rfl)) | (simp [*, errW_none, errW_some] <;> rfl), B_⟩
             ·rw [if_neg c32] at H
              exact absurd H (by simp)
            ·rw [if_neg c31] at H
             exact absurd H (by simp)
           ·rw [if_neg c30] at H
            have c30b0 : (t136 == 0) = false := beq_eq_false_iff_ne.mpr c30
            have c30b1 : (t136 != 0) = true := bne_iff_ne.mpr c30
            obtain rfl := Option.some.inj H
            obtain ⟨Ao116, co116, eo116⟩ := Kd.N_slice HO_6.out
            subst eo116
            have p114 : 0 ≤ (1 : Int) := (by omega)
            have q114 : 1 < (t109.length : Int) := of_decide_eq_true A_
            obtain ⟨ad114, A114_0, c114_0, e114, hx114_0, hl114_0, hi114_0⟩ := at_L1 (Kd.N_reads' HO_6.out).2.2 1 p114 q114
            cases e114
            obtain ⟨ce114, hce114, hMe114, hcc114⟩ := Kd.N_get HO_6.out [] 1 p114 (by first | exact q114 | exact of_decide_eq_true A_ | (have e_ := (Kd.N_reads' HO_6.out).1; omega))
            obtain ⟨ua114_0, uc114_0, rfl, ul114_0, ge114_0⟩ := Kd.FK_slice_open hMe114
            have hv114_0 := hcc114 0 _ rfl
            rw [Nat.add_zero, show ((Kd.slice 3 (Kd.int .i64))).sz = 1 from rfl, Nat.mul_one] at hv114_0
            replace hv114_0 := Option.some.inj (hv114_0.symm.trans hx114_0)
            injection hv114_0 with hva_ hvn_ hvc_
            rw [hva_] at ge114_0
            rw [hvc_] at ul114_0
            have HL114_0 := Z_ (show Kd.V (Kd.int .i64) 3 _ w.heap.size _ _ (rd_L1 t109 1) from Kd.V_mk ul114_0 ge114_0)
            clear hva_ hvn_ hvc_ ge114_0 ul114_0
            clear hcc114 hce114
            (try simp only [show (1 : Int).toNat = 1 from rfl, Nat.reduceMul, Nat.reduceEqDiff, Go.Addr.add, ↓reduceIte] at hx114_0)
            have qi114 : (1 < t109.length) = True := eq_true (by omega)
            (try rw [show ((1 : Int)).toNat = 1 from rfl] at hx114_0)
            have HR114_0 := Z_ hi114_0
            have HC114_0 := Z_ hl114_0
            clear hi114_0 hl114_0
            replace p114 := eq_true p114
            replace q114 := eq_true q114
            go_wp2_with (first | (refine G_ 55 Tryz.func16 #[.slice A114_0 (rd_L1 t109 1).length c114_0] ?_; refine (line_Put.calls _ _ (rd_L1 t109 1) t115 t116 _ (C_ HR114_0.out) HC114_0.out A23.out).mono ?_; rintro e w117 ⟨v117, rfl, ho0, hb⟩; refine ⟨_, rfl, ?_⟩; replace HO_6 := Z_ (Kd.N_elder' (N_ HO_6) (Kd.R_base ho0) hb); replace HL114_0 := Z_ (Kd.V_elder' (V_ HL114_0) (Kd.R_base ho0) hb); have HO118 := Z_ (Kd.R_lower (Kd.R_new' ho0 (Kd.R_lt (R_ HO_3))) (below_size B_)); replace HO_3 := Z_ (Kd.R_elder' (R_ HO_3) (Kd.R_base ho0) hb); replace HR114_0 := Z_ (Kd.C_below (C_ HR114_0.out) hb); replace HB := Z_ (below_step B_ hb); (try clear hb); (try clear ho0)) | (refine G_ 60 Tryz.func16 #[.slice Ao13 x3_1.length co13] ?_; refine (line_Put.calls _ _ x3_1 t119 t120 _ (C_ (Kd.R_reads' HO_3.out).2.2) ((Kd.R_reads' HO_3.out).2.1) A24.out).mono ?_; rintro e w118 ⟨v121, rfl, ho0, hb⟩; refine ⟨_, rfl, ?_⟩; replace HO_6 := Z_ (Kd.N_elder' (N_ HO_6) (Kd.R_base ho0) hb); replace HL114_0 := Z_ (Kd.V_elder' (V_ HL114_0) (Kd.R_base ho0) hb); have HO122 := Z_ (Kd.R_lower (Kd.R_new' (Kd.R_new' ho0 (Kd.R_lt (R_ HO_3))) (Kd.R_lt (R_ HO118))) (below_size B_)); replace HO_3 := Z_ (Kd.R_elder' (R_ HO_3) (Kd.R_base ho0) hb); replace HO118 := Z_ (Kd.R_elder' (R_ HO118) (Kd.R_base ho0) hb); replace HR114_0 := Z_ (Kd.C_below (C_ HR114_0.out) hb); replace HB := Z_ (below_step B_ hb); (try clear hb); (try clear ho0); obtain ⟨Ao119, co119, eo119⟩ := Kd.R_slice HO122.out; subst eo119) | (refine G_ 65 Tryz.func17 #[.slice Ao119 t119.length co119] ?_; refine (residual_Put.calls _ _ t119 t123 t124 _ (C_ (Kd.R_reads' HO122.out).2.2) ((Kd.R_reads' HO122.out).2.1) A25.out).mono ?_; rintro e w120 ⟨rfl, hb⟩; refine ⟨_, rfl, ?_⟩; replace HO_3 := Z_ (Kd.R_below (R_ HO_3) hb); replace HO_6 := Z_ (Kd.N_below (N_ HO_6) hb); replace HL114_0 := Z_ (Kd.V_below (V_ HL114_0) hb); replace HO118 := Z_ (Kd.R_below (R_ HO118) hb); replace HO122 := Z_ (Kd.R_below (R_ HO122) hb); replace HR114_0 := Z_ (Kd.C_below (C_ HR114_0.out) hb); replace HB := Z_ (below_step B_ hb); (try clear hb)) | ((with_reducible refine gate_dst (N := 68) rfl ?_); (try (refine gate_guard (by rfl) ?_; dsimp only)); refine Kd.R_lit (Kd.int .i64) _ 3 ?hg (N := 68) ?hd (xs := ([] : List Int)) (inner := []) (ok := fun _ => True) (okp := fun _ => True) ?hr ?hp (fun _ hk => hk) trivial (Below.refl _ _) (Nat.le_refl _) (by simp) ?_; (case hd => rfl); (case hg => rfl); (case hr => first | (go_simp; done) | (go_simp; rfl)); (case hp => exact (Reps.none _ _)); intro v126 w121 ho122 hb hg_ hnew_; clear hg_ hnew_; (first | rw [← Ny125.out] at ho122 | (simp only [Int.reduceToNat] at ho122; rw [← Ny125.out] at ho122)); replace HO_6 := Z_ (Kd.N_elder' (N_ HO_6) (Kd.R_base ho122) hb); replace HL114_0 := Z_ (Kd.V_elder' (V_ HL114_0) (Kd.R_base ho122) hb); have HO127 := Z_ (Kd.R_lower (Kd.R_new' (Kd.R_new' (Kd.R_new' ho122 (Kd.R_lt (R_ HO_3))) (Kd.R_lt (R_ HO118))) (Kd.R_lt (R_ HO122))) (below_size B_)); replace HO_3 := Z_ (Kd.R_elder' (R_ HO_3) (Kd.R_base ho122) hb); replace HO118 := Z_ (Kd.R_elder' (R_ HO118) (Kd.R_base ho122) hb); replace HO122 := Z_ (Kd.R_elder' (R_ HO122) (Kd.R_base ho122) hb); replace HR114_0 := Z_ (Kd.C_below (C_ HR114_0.out) hb); replace HB := Z_ (below_step B_ hb); clear hb ho122) | ((with_reducible refine gate_builtin (b := .append) (xs := #[.tmp 68, .tmp 69]) rfl ?_); (try (refine gate_guard (by rfl) ?_; dsimp only)); at_builtin; refine Kd.R_append_rows (Kd.int .i64) (w0 := w) w.heap.size rfl (.tmp 68) (.tmp 69) 36 3 (.int .i64 0) 8 rfl Tryz.underlying36 info3 rfl (by decide) (by omega) v126 y125 t119 _ _ _ (fun k_ => some k_ ≠ (.slice Ao13 x3_1.length co13 : Value).ownBlock ∧ some k_ ≠ (v117 : Value).ownBlock ∧ some k_ ≠ (.slice Ao119 t119.length co119 : Value).ownBlock) (fun _ => False) rfl rfl ?aO ?aR (fun _ _ h => h) (fun _ h => h.elim) ?aF ?aB ?aS ?aL ?_; (case aR => repeat (first | exact (Kd.R_reads' HO122.out).2.2 | (with_reducible refine Kd.C_alloc ?_ _) | (with_reducible refine Kd.C_drewN ?_ _) | (with_reducible refine Kd.C_drew ?_))); (case aB => exact B_); (case aF => exact (fun k_ hk => ⟨Kd.fresh' (Kd.R_lt (R_ HO_3)) k_ hk, Kd.fresh' (Kd.R_lt (R_ HO118)) k_ hk, Kd.fresh' (Kd.R_lt (R_ HO122)) k_ hk⟩)); (case aO => exact (by (with_reducible repeat (first | apply Kd.R_alloc | apply Kd.R_drewN | apply Kd.R_drew)); exact Kd.R_mono HO127.out (fun _ hk => ⟨hk.1.1.2, ⟨hk.1.2, hk.2⟩⟩))); (case aS => exact (below_size B_)); (case aL => have := LMc26.out; omega); intro v129 w123 ho hb hg hat; rw [← Ny128.out] at ho; replace HO_3 := Z_ (Kd.R_after (ok := (fun k_ => some k_ ≠ (v117 : Value).ownBlock ∧ some k_ ≠ (.slice Ao119 t119.length co119 : Value).ownBlock)) (by (with_reducible repeat (first | apply Kd.R_alloc | apply Kd.R_drewN | apply Kd.R_drew)); exact Kd.R_mono HO_3.out (fun _ hk => ⟨⟨hk.1.1.2, hk.1.2⟩, hk.2⟩)) hg hat); replace HO_6 := Z_ (Kd.N_afterv (ok := (fun k_ => some k_ ≠ (v117 : Value).ownBlock ∧ some k_ ≠ (.slice Ao119 t119.length co119 : Value).ownBlock)) (by (with_reducible repeat (first | apply Kd.N_alloc | apply Kd.N_drewN | apply Kd.N_drew)); exact Kd.N_mono HO_6.out (fun _ hk => ⟨⟨hk.1.1.2, hk.1.2⟩, hk.2⟩)) hg hat); replace HL114_0 := Z_ (Kd.V_afterv (ok := (fun k_ => some k_ ≠ (.slice (some ad114) t109.length co116 : Value).ownBlock ∧ some k_ ≠ (v117 : Value).ownBlock ∧ some k_ ≠ (.slice Ao119 t119.length co119 : Value).ownBlock)) (by (with_reducible repeat (first | apply Kd.V_alloc | apply Kd.V_drewN | apply Kd.V_drew)); exact Kd.V_mono HL114_0.out (fun _ hk => ⟨⟨hk.1.1.1.2, ⟨hk.1.1.2, hk.1.2⟩⟩, hk.2⟩)) hg hat); replace HO118 := Z_ (Kd.R_after (ok := (fun k_ => some k_ ≠ (.slice Ao13 x3_1.length co13 : Value).ownBlock ∧ some k_ ≠ (.slice Ao119 t119.length co119 : Value).ownBlock)) (by (with_reducible repeat (first | apply Kd.R_alloc | apply Kd.R_drewN | apply Kd.R_drew)); exact Kd.R_mono HO118.out (fun _ hk => ⟨⟨hk.1.1.2, hk.1.2⟩, hk.2⟩)) hg hat); replace HO122 := Z_ (Kd.R_after (ok := (fun k_ => some k_ ≠ (.slice Ao13 x3_1.length co13 : Value).ownBlock ∧ some k_ ≠ (v117 : Value).ownBlock)) (by (with_reducible repeat (first | apply Kd.R_alloc | apply Kd.R_drewN | apply Kd.R_drew)); exact Kd.R_mono HO122.out (fun _ hk => ⟨⟨hk.1.1.2, hk.1.2⟩, hk.2⟩)) hg hat); replace HB := Z_ (hb); have HO130 := Z_ (ho); clear HO127; clear ho hb hg hat; obtain ⟨Ao125, co125, eo125⟩ := Kd.R_slice HO118.out; subst eo125) | ((with_reducible refine gate_builtin (b := .append) (xs := #[.tmp 71, .tmp 72]) rfl ?_); (try (refine gate_guard (by rfl) ?_; dsimp only)); at_builtin; refine Kd.R_append_rows (Kd.int .i64) (w0 := w) w.heap.size rfl (.tmp 71) (.tmp 72) 36 3 (.int .i64 0) 8 rfl Tryz.underlying36 info3 rfl (by decide) (by omega) v129 y128 t115 _ _ _ (fun k_ => some k_ ≠ (.slice Ao13 x3_1.length co13 : Value).ownBlock ∧ some k_ ≠ (.slice Ao125 t115.length co125 : Value).ownBlock ∧ some k_ ≠ (.slice Ao119 t119.length co119 : Value).ownBlock) (fun _ => False) rfl rfl ?aO ?aR (fun _ _ h => h) (fun _ h => h.elim) ?aF ?aB ?aS ?aL ?_; (case aR => repeat (first | exact (Kd.R_reads' HO118.out).2.2 | (with_reducible refine Kd.C_alloc ?_ _) | (with_reducible refine Kd.C_drewN ?_ _) | (with_reducible refine Kd.C_drew ?_))); (case aB => exact B_); (case aF => exact (fun k_ hk => ⟨Kd.fresh' (Kd.R_lt (R_ HO_3)) k_ hk, Kd.fresh' (Kd.R_lt (R_ HO118)) k_ hk, Kd.fresh' (Kd.R_lt (R_ HO122)) k_ hk⟩)); (case aO => exact (R_ HO130)); (case aS => exact (below_size B_)); (case aL => have := LMc27.out; omega); intro v132 w124 ho hb hg hat; rw [← Ny131.out] at ho; replace HO_3 := Z_ (Kd.R_after (ok := (fun k_ => some k_ ≠ (.slice Ao125 t115.length co125 : Value).ownBlock ∧ some k_ ≠ (.slice Ao119 t119.length co119 : Value).ownBlock)) (R_ HO_3) hg hat); replace HO_6 := Z_ (Kd.N_afterv (ok := (fun k_ => some k_ ≠ (.slice Ao125 t115.length co125 : Value).ownBlock ∧ some k_ ≠ (.slice Ao119 t119.length co119 : Value).ownBlock)) (N_ HO_6) hg hat); replace HL114_0 := Z_ (Kd.V_afterv (ok := (fun k_ => some k_ ≠ (.slice (some ad114) t109.length co116 : Value).ownBlock ∧ some k_ ≠ (.slice Ao125 t115.length co125 : Value).ownBlock ∧ some k_ ≠ (.slice Ao119 t119.length co119 : Value).ownBlock)) (V_ HL114_0) hg hat); replace HO118 := Z_ (Kd.R_after (ok := (fun k_ => some k_ ≠ (.slice Ao13 x3_1.length co13 : Value).ownBlock ∧ some k_ ≠ (.slice Ao119 t119.length co119 : Value).ownBlock)) (R_ HO118) hg hat); replace HO122 := Z_ (Kd.R_after (ok := (fun k_ => some k_ ≠ (.slice Ao13 x3_1.length co13 : Value).ownBlock ∧ some k_ ≠ (.slice Ao125 t115.length co125 : Value).ownBlock)) (R_ HO122) hg hat); replace HB := Z_ (hb); have HO133 := Z_ (ho); clear HO130; clear ho hb hg hat; obtain ⟨Ao126, co126, eo126⟩ := Kd.R_slice HO133.out; subst eo126) | (refine G_ 76 Tryz.func17 #[.slice Ao126 y131.length co126] ?_; refine (residual_Put.calls _ _ y131 t134 t135 _ (C_ (Kd.R_reads' HO133.out).2.2) ((Kd.R_reads' HO133.out).2.1) A28.out).mono ?_; rintro e w127 ⟨rfl, hb⟩; refine ⟨_, rfl, ?_⟩; replace HO_3 := Z_ (Kd.R_below (R_ HO_3) hb); replace HO_6 := Z_ (Kd.N_below (N_ HO_6) hb); replace HL114_0 := Z_ (Kd.V_below (V_ HL114_0) hb); replace HO118 := Z_ (Kd.R_below (R_ HO118) hb); replace HO122 := Z_ (Kd.R_below (R_ HO122) hb); replace HO133 := Z_ (Kd.R_below (R_ HO133) hb); replace HB := Z_ (below_step B_ hb); (try clear hb)) | (refine G_ 80 Tryz.func12 #[.int .i64 t116] ?_; (with_reducible refine (descantlaw0_Num.calls t116 t136 _ A29.out).mono ?_); rintro e w' ⟨rfl, ⟨nd, rfl⟩⟩; refine ⟨_, rfl, ?_⟩))
            go_ret
            exact ⟨by first | (rw [w4_ ji4 hji4m hji4h]; done) | (rw [w4_ ji4 hji4m hji4h]; rfl) | rfl | (simp [errW_none, errW_some] <;> rfl) | (simp only [← hji4]; first | rfl | (simp [errW_none, errW_some] <;> rfl)) | (simp [*, errW_none, errW_some] <;> rfl), B_⟩
          ·rw [if_neg c27] at H
           exact absurd H (by simp)
         ·rw [if_neg c26] at H
          exact absurd H (by simp)
        ·rw [if_neg c22] at H
         exact absurd H (by simp)
 ·replace c3 := Bool.eq_false_iff.mpr c3
  subst c3
  rw [if_neg (show ¬ (false = true) by decide)] at H
  obtain rfl := Option.some.inj H
  go_enter Tryz.func4, Tryz.ntmps4
  go_wp2_with (first | (refine G_ 17 Tryz.func8 #[] ?_; (with_reducible refine (descanttop_awake.calls  false _ A2.out).mono ?_); rintro e w128 ⟨rfl, hb⟩; refine ⟨_, rfl, ?_⟩; replace HB := Z_ (below_step B_ hb); (try clear hb)))
  go_ret
  exact ⟨E_, B_⟩
def descanttop_TopMono.Pure : Prop := ∀ (l0 : List Int), l0.length ≤ maxLen → l0.length * 8 ≤ 140737488351232 → (∀ x ∈ l0, (Lit.int .i64 x).wf = true) → ∃ k, descanttop_TopMono.f k l0 = some true
theorem descanttop_TopMono.walk (P : descanttop_TopMono.Pure) (a0 : Option Addr) (len0 cap0 : Nat) (z0 : List Int) (w : World) (w0 : (a0 = none ∧ len0 = 0 ∧ cap0 = 0 ∧ z0 = []) ∨ ∃ x, a0 = some x ∧ len0 ≤ cap0 ∧ cap0 ≤ maxLen ∧ z0.length = cap0 ∧ (∀ i, i < z0.length → w.cell? (x.add i) = some (.int .i64 (z0.getD i 0))) ∧ ∀ n ∈ z0, (Lit.int .i64 n).wf = true) (y0 : len0 * 8 ≤ 140737488351232) (hT : Tabs w) :
  Calls Tryz.prog 4 #[.slice a0 len0 cap0] w fun e w' => e = .returned (.bool true) ∧ Below w.heap.size w w' := by
 obtain ⟨l0, rfl, hr0, hm0, hw0, hc0⟩ := ReadsInt.ofRowC w0
 obtain ⟨k, h⟩ := P l0 hm0 y0 hw0
 refine (descanttop_TopMono.calls k _ _ l0 true w (Kd.C_of_reads (d := (0 : Int)) (h1 := fun _ => rfl) hr0) hc0 h hT).mono ?_
 rintro e w' ⟨rfl, hd⟩
 exact ⟨rfl, hd⟩
end Go.Proofs.YtfghldonnffldaaGreatDoor.MTopMono
namespace Go.Proofs.YtfghldonnffldaaGreatDoor
open Go.RowKit Go.Proofs.YtfghldonnffldaaGreatDoorW.PrintWords Go.Proofs.YtfghldonnffldaaGreatDoorW.PrintLast Go.Proofs.YtfghldonnffldaaGreatDoorW.PrintMore Go.Proofs.YtfghldonnffldaaGreatDoor.TBase
open Go.Proofs.YtfghldonnffldaaGreatDoor.UOne
theorem nums_append (a c : List Int) : ∀ s : WN, s.nums (a ++ c) = (s.nums a).nums c := by
 induction a with
 | nil => intro s; rfl
 | cons x r ih => intro s; exact ih _
theorem num0_ok {s : WN} (h : s.ok) (ho : s.out.size + 4 ≤ 65536) : (s.num 0).ok ∧ (s.num 0).out.size ≤ s.out.size + 4 := by
 have e : Gm.gb (foldN 0) = [0] := by decide
 have hl := Gm.len_le _ (foldN_le (x := 0) ⟨by decide, by decide⟩)
 obtain ⟨h1, h2⟩ := WS.bits_ok s.before (Gm.gb (foldN 0)) s.ws h.1 (Gm.gb_bit _) (by rw [e]; exact ho)
 refine ⟨⟨h1, hl⟩, ?_⟩
 rw [e] at h2
 show (WS.bits s.before s.ws (Gm.gb (foldN 0))).out.size ≤ _
 rw [e]
 exact h2
theorem zeros_ok (n : Nat) : ∀ s : WN, s.ok → s.out.size + 4 * n ≤ 65536 → (s.nums (List.replicate n 0)).ok ∧ (s.nums (List.replicate n 0)).out.size ≤ s.out.size + 4 * n := by
 induction n with
 | zero => intro s h _; exact ⟨h, Nat.le_refl _⟩
 | succ n ih =>
  intro s h ho
  obtain ⟨h1, h2⟩ := num0_ok h (by omega)
  obtain ⟨h3, h4⟩ := ih _ h1 (by omega)
  exact ⟨h3, by show (WN.nums (s.num 0) (List.replicate n 0)).out.size ≤ _; omega⟩
theorem resPut_size (rs : List Int) : (resPut rs).size = (WN.new.nums rs).out.size + 4 := by
 unfold resPut
 rw [ByteArray.size_append, strOfNums_size]
 rfl
theorem resPut_zeros (a : List Int) (n : Nat) (ha : ∀ x ∈ a, numOk x) (hl : a.length ≤ 256) (hn : n ≤ 1024) : (resPut (a ++ List.replicate n 0)).size ≤ (resPut a).size + 4 * n := by
 have hs : (WN.new).out.size = 0 := rfl
 obtain ⟨h1, h2⟩ := WN.nums_ok a WN.new WN.new_ok ha (by omega)
 obtain ⟨h3, h4⟩ := zeros_ok n _ h1 (by omega)
 rw [resPut_size, resPut_size, nums_append]
 omega
theorem turnL_len (one : Int → Int → Int × Int) (l : List Int) : ∀ a A B, (turnL one a A B l).length = l.length := by
 induction l with
 | nil => intro a A B; rfl
 | cons x r ih => intro a A B; unfold turnL; rw [List.length_cons, List.length_cons, ih]
theorem turnL_num (l : List Int) : ∀ a A B, COk a A B → (∀ x ∈ l, csB x = true) → ∀ y ∈ turnL onePut a A B l, numOk y := by
 induction l with
 | nil => intro a A B _ _ y hy; cases hy
 | cons x r ih =>
  intro a A B hc h y hy
  have hx := csB_of (h x List.mem_cons_self)
  have hg := cGuess_bd hc
  unfold turnL at hy
  rcases List.mem_cons.1 hy with rfl | hy
  ·show -16777216 ≤ x - cGuess a A B ∧ x - cGuess a A B ≤ 16777216
   omega
  ·exact ih _ _ _ (cLearn_ok hc hx) (fun z hz => h z (List.mem_cons_of_mem _ hz)) y hy
theorem lineP_num {l : List Int} (h : ∀ x ∈ l, csB x = true) : ∀ y ∈ lineP l, numOk y := turnL_num l _ _ _ zero_ok h
theorem zero_guess : cGuess 0 zero16 zero16 = 0 := by kernel_rfl
theorem zero_A : cA 0 zero16 0 = zero16 := by kernel_rfl
theorem zero_B : cB 0 zero16 zero16 0 = zero16 := by kernel_rfl
theorem lineP_zeros (n : Nat) : lineP (List.replicate n 0) = List.replicate n 0 := by
 unfold lineP
 induction n with
 | zero => rfl
 | succ n ih =>
  rw [List.replicate_succ]
  unfold turnL
  rw [zero_guess]
  show (0 : Int) :: turnL onePut 0 (cA 0 zero16 0) (cB 0 zero16 zero16 0) (List.replicate n 0) = _
  rw [zero_A, zero_B, ih]
theorem not_odd {l : List Int} (h : ∀ x ∈ l, csB x = true) : l.any smOdd = false := by
 rw [List.any_eq_false]
 intro x hx
 unfold smOdd
 simpa using h x hx
theorem numB_all {l : List Int} (h : ∀ x ∈ l, numOk x) : l.all numB = true := by
 rw [List.all_eq_true]
 intro x hx
 exact decide_eq_true (h x hx)
theorem resPut_f {l : List Int} (h : ∀ x ∈ l, numOk x) (hl : l.length ≤ 256) : residual_Put.f l = some (resPut l, 0) := by
 unfold residual_Put.f
 rw [if_pos ⟨hl, numB_all h⟩]
theorem linePut_f {l : List Int} (h : ∀ x ∈ l, csB x = true) (hl : l.length ≤ 256) : line_Put.f l = some (lineP l, 0) := by
 unfold line_Put.f
 rw [if_pos ⟨hl, not_odd h⟩]
def sideT (c : Int) (x h : List Int) : List Int := List.zipWith (fun a b => a + c * b) x h
theorem set_mid {A T R : List Int} (i : Nat) (hA : i < A.length) (hT : i < T.length) (hl : A.length = T.length) :
  ((T.take i ++ A.drop i).set i (T.getD i 0)) = T.take (i + 1) ++ A.drop (i + 1) := by
 have h1 : (T.take i).length = i := by rw [List.length_take]; omega
 rw [List.set_append_right _ _ (by omega), h1, Nat.sub_self, List.drop_eq_getElem_cons hA, List.set_cons_zero, List.take_succ_eq_append_getElem hT, List.append_assoc, List.getD_eq_getElem?_getD, List.getElem?_eq_getElem hT]
 rfl
theorem rd_mid {A T : List Int} (i : Nat) (hA : i < A.length) (hT : i ≤ T.length) : rd (T.take i ++ A.drop i) (i : Int) = A.getD i 0 := by
 have h1 : (T.take i).length = i := by rw [List.length_take]; omega
 unfold rd
 rw [Int.toNat_natCast, List.getD_eq_getElem?_getD, List.getElem?_append_right (by omega), h1, Nat.sub_self, List.getElem?_drop, List.getD_eq_getElem?_getD]
 rfl
theorem sideT_len {c : Int} {x h : List Int} (hl : x.length = h.length) : (sideT c x h).length = x.length := by
 unfold sideT
 rw [List.length_zipWith]
 omega
theorem sideT_get {c : Int} {x h : List Int} (i : Nat) (hx : i < x.length) (hh : i < h.length) : (sideT c x h).getD i 0 = x.getD i 0 + c * h.getD i 0 := by
 unfold sideT
 rw [List.getD_eq_getElem?_getD, List.getElem?_zipWith, List.getElem?_eq_getElem hx, List.getElem?_eq_getElem hh, List.getD_eq_getElem?_getD, List.getD_eq_getElem?_getD, List.getElem?_eq_getElem hx, List.getElem?_eq_getElem hh]
 rfl
theorem wid64 (x : Int) (h1 : -9223372036854775808 ≤ x) (h2 : x < 9223372036854775808) : wrap64 x = x := by unfold wrap64; omega
theorem wsum64 (a c h : Int) (ha : -1000000 ≤ a ∧ a ≤ 1000000) (hc : c = 0 ∨ c = 1 ∨ c = -1) (hh : -1000000 ≤ h ∧ h ≤ 1000000) : wrap64 (a + wrap64 (c * h)) = a + c * h := by
 rcases hc with rfl | rfl | rfl
 ·rw [wid64 (0 * h) (by omega) (by omega), wid64 _ (by omega) (by omega)]
 ·rw [wid64 (1 * h) (by omega) (by omega), wid64 _ (by omega) (by omega)]
 ·rw [wid64 (-1 * h) (by omega) (by omega), wid64 _ (by omega) (by omega)]
theorem turn_l1 (x0 : List (List Int)) (x1 : Int) (x6 : List (List Int)) (x7 : Int) (x14 : List (List Int)) (x15 x16 : Int) (A hr : List Int) (c : Int) (hc : wrap64 (x7 * x1) = c) (hc1 : c = 0 ∨ c = 1 ∨ c = -1)
  (h0 : 0 < (x0.length : Int)) (h6 : x6.length < 5864062014805) (hh : UOne.rd_L1 x0 0 = hr) (hl : A.length = hr.length) (hA : ∀ x ∈ A, -1000000 ≤ x ∧ x ≤ 1000000) (hH : ∀ x ∈ hr, -1000000 ≤ x ∧ x ≤ 1000000) (hn : A.length ≤ 1000000) (k : Nat) :
  ∀ d i, i + d = A.length → side_turn.l1 (k + d + 1) x0 x1 x6 x7 ((sideT c A hr).take i ++ A.drop i) x14 x15 x16 (A.length : Int) (i : Int) = side_turn.l0 k x0 x1 (x6 ++ [sideT c A hr]) x14 x15 (wrap64 (x16 + 1)) := by
 intro d
 induction d with
 | zero =>
  intro i hi
  obtain rfl : A.length = i := by omega
  unfold side_turn.l1
  rw [if_neg (by omega), if_pos h6, List.drop_length, List.append_nil, List.take_of_length_le (by rw [sideT_len hl]; exact Nat.le_refl _)]
 | succ d ih =>
  intro i hi
  have h1 : i < A.length := by omega
  have h2 : i < hr.length := by omega
  have e3 : ((sideT c A hr).take i ++ A.drop i).length = A.length := by rw [List.length_append, List.length_take, List.length_drop, sideT_len hl]; omega
  have e4 : wrap64 ((i : Int) + 1) = ((i + 1 : Nat) : Int) := by rw [wid64 _ (by omega) (by omega)]; omega
  have e5 : rd hr (i : Int) = hr.getD i 0 := by unfold rd; rw [Int.toNat_natCast]
  have m1 : A.getD i 0 ∈ A := by rw [List.getD_eq_getElem?_getD, List.getElem?_eq_getElem h1]; exact List.getElem_mem h1
  have m2 : hr.getD i 0 ∈ hr := by rw [List.getD_eq_getElem?_getD, List.getElem?_eq_getElem h2]; exact List.getElem_mem h2
  rw [show k + (d + 1) + 1 = (k + d + 1) + 1 from rfl]
  unfold side_turn.l1
  rw [hh, if_pos (by omega), if_pos (by omega), e3, if_pos (by omega), if_pos h0, if_pos (by omega), e4, Int.toNat_natCast, rd_mid i h1 (by rw [sideT_len hl]; omega), hc, e5, wsum64 _ _ _ (hA _ m1) hc1 (hH _ m2), ← sideT_get i h1 h2,
   set_mid (R := []) i h1 (by rw [sideT_len hl]; exact h1) (by rw [sideT_len hl])]
  exact ih (i + 1) (by omega)
theorem sideT_zero {x h : List Int} (hl : x.length = h.length) : sideT 0 x h = x := by
 apply List.ext_getElem (sideT_len hl)
 intro i h1 h2
 refine (List.getElem_zipWith (h := h1)).trans ?_
 omega
theorem sideT_self (x : List Int) : sideT (-1) x x = List.replicate x.length 0 := by
 apply List.ext_getElem (by rw [sideT_len rfl, List.length_replicate])
 intro i h1 h2
 refine (List.getElem_zipWith (h := h1)).trans ?_
 rw [List.getElem_replicate]
 omega
theorem sideRow_ok {n : Nat} {l : List Int} (hl : l.length = n) (h : ∀ x ∈ l, csB x = true) : sideRow n l = true := by
 unfold sideRow
 rw [not_odd h, hl]
 simp
theorem sidePut_two (a c : List Int) (hl : c.length = a.length) (hn : a.length ≤ 1000000) (ha : ∀ x ∈ a, csB x = true) (hc : ∀ x ∈ c, csB x = true) (hd : ∀ x ∈ sideT (-1) c a, csB x = true) :
  side_Put.f (2 * a.length + 5) [a, c] = some ([a, sideT (-1) c a], 0) := by
 have ba : ∀ x ∈ a, -1000000 ≤ x ∧ x ≤ 1000000 := fun x hx => by have := csB_of (ha x hx); omega
 have bc : ∀ x ∈ c, -1000000 ≤ x ∧ x ≤ 1000000 := fun x hx => by have := csB_of (hc x hx); omega
 have m1 : side_May.f [a, c] = some true := by
  unfold side_May.f
  show some (([a, c].all (sideRow a.length)) && _) = _
  simp [sideRow_ok rfl ha, sideRow_ok hl hc]
 have m2 : side_May.f [a, sideT (-1) c a] = some true := by
  unfold side_May.f
  show some (([a, sideT (-1) c a].all (sideRow a.length)) && _) = _
  simp [sideRow_ok rfl ha, sideRow_ok (n := a.length) (by rw [sideT_len hl]; exact hl) hd]
 unfold side_Put.f side_turn.f
 rw [m1, Option.bind_some, if_pos rfl, show 2 * a.length + 5 = ((a.length + (a.length + 2) + 1) + 1) + 1 by omega]
 unfold side_turn.l0
 rw [if_pos (by simp), if_pos (by omega), if_pos (by simp), show UOne.rd_L1 [a, c] 0 = a from rfl]
 unfold slices_Clone_int_int.f
 rw [if_pos (by omega), Option.bind_some]
 have t1 := turn_l1 [a, c] (-1) [] 0 [a, c] ([a, c].length : Int) 0 a a 0 (by unfold wrap64; omega) (by omega) (by simp) (by simp) rfl rfl ba ba hn (a.length + 2 + 1) a.length 0 (by omega)
 rw [List.take_zero, List.nil_append, List.drop_zero, sideT_zero rfl] at t1
 rw [show a.length + (a.length + 2) + 1 + 1 = a.length + 2 + 1 + a.length + 1 by omega]
 rw [show ((0 : Nat) : Int) = 0 from rfl] at t1
 rw [t1]
 rw [show wrap64 (0 + 1) = 1 from wid64 1 (by omega) (by omega)]
 unfold side_turn.l0
 rw [if_pos (by simp), if_pos (by omega), if_pos (by simp), show UOne.rd_L1 [a, c] 1 = c from rfl]
 unfold slices_Clone_int_int.f
 rw [if_pos (by omega), Option.bind_some]
 have t2 := turn_l1 [a, c] (-1) [a] 1 [a, c] ([a, c].length : Int) 1 c a (-1) (by unfold wrap64; omega) (by omega) (by simp) (by simp) rfl hl bc ba (by omega) 1 c.length 0 (by omega)
 rw [List.take_zero, List.nil_append, List.drop_zero] at t2
 rw [show a.length + 2 = 1 + c.length + 1 by omega]
 rw [show ((0 : Nat) : Int) = 0 from rfl] at t2
 rw [List.nil_append, t2, show wrap64 (1 + 1) = 2 from wid64 2 (by omega) (by omega)]
 unfold side_turn.l0
 rw [if_neg (by simp), show [a] ++ [sideT (-1) c a] = [a, sideT (-1) c a] from rfl, m2, Option.bind_some, if_pos rfl]
 rfl
end Go.Proofs.YtfghldonnffldaaGreatDoor
namespace Go.Proofs.YtfghldonnffldaaGreatDoor.Pure
open Go.RowKit Go.Proofs.YtfghldonnffldaaGreatDoor Go.Proofs.YtfghldonnffldaaGreatDoor.TBase Go.Proofs.YtfghldonnffldaaGreatDoor.UOne Go.Proofs.YtfghldonnffldaaGreatDoor.MTopMono Go.Proofs.YtfghldonnffldaaGreatDoorW.PrintWords Go.Proofs.YtfghldonnffldaaGreatDoorW.PrintLast
theorem sameInts_l0 (l : List Int) (hl : l.length ≤ 1000000) (k : Nat) : ∀ d i, i + d = l.length → descantlaw0_SameInts.l0 (k + d + 1) l l (i : Int) = some true := by
 intro d
 induction d with
 | zero =>
  intro i hi
  unfold descantlaw0_SameInts.l0
  rw [if_neg (by omega)]
 | succ d ih =>
  intro i hi
  rw [show k + (d + 1) + 1 = (k + d + 1) + 1 from rfl]
  unfold descantlaw0_SameInts.l0
  rw [if_pos (by omega), if_pos (by omega), if_pos (by omega), if_pos rfl, wid64 _ (by omega) (by omega)]
  exact ih (i + 1) (by omega)
theorem sameInts_self (l : List Int) (hl : l.length ≤ 1000000) (k : Nat) : descantlaw0_SameInts.f (k + l.length + 1) l l = some true := by
 unfold descantlaw0_SameInts.f
 rw [if_pos rfl]
 exact sameInts_l0 l hl k l.length 0 (by omega)
def yv (x : Int) : Int := wrap64 ((Go.bits .and .i64 x 4095) - 2048)
theorem yv_bd (x : Int) : -2048 ≤ yv x ∧ yv x ≤ 2047 := by
 have h : Go.bits .and .i64 x 4095 = x % 4096 := and_low x 12 (by decide)
 unfold yv
 rw [h]
 unfold wrap64
 omega
def ysOf (l : List Int) (n : Nat) : List Int := (l.take n).map yv
theorem ysOf_succ (l : List Int) (i : Nat) (h : i < l.length) : ysOf l i ++ [yv (rd l (i : Int))] = ysOf l (i + 1) := by
 unfold ysOf rd
 rw [List.take_succ_eq_append_getElem h, List.map_append, Int.toNat_natCast, List.getD_eq_getElem?_getD, List.getElem?_eq_getElem h]
 rfl
theorem ysOf_len (l : List Int) (n : Nat) (h : n ≤ l.length) : (ysOf l n).length = n := by
 unfold ysOf
 rw [List.length_map, List.length_take]
 omega
theorem ysOf_ok (l : List Int) (n : Nat) : ∀ x ∈ ysOf l n, csB x = true := by
 intro x hx
 unfold ysOf at hx
 obtain ⟨y, _, rfl⟩ := List.mem_map.1 hx
 have := yv_bd y
 exact decide_eq_true ⟨by omega, by omega⟩
theorem mono_j1 (k : Nat) (ys : List Int) (n : Nat) (hn : ys.length = n) (h40 : n ≤ 40) (hy : ∀ x ∈ ys, csB x = true) : descanttop_TopMono.j1 (k + n + 2) ys (n : Int) [ys, List.replicate n 0] false = some true := by
 have hz : ∀ x ∈ List.replicate n (0 : Int), csB x = true := by intro x hx; rw [List.eq_of_mem_replicate hx]; decide
 have ha := lineP_num hy
 have hal : (lineP ys).length = n := by rw [← hn]; exact turnL_len _ _ _ _ _
 have hzz : ∀ x ∈ List.replicate n (0 : Int), numOk x := by intro x hx; rw [List.eq_of_mem_replicate hx]; exact ⟨by decide, by decide⟩
 have hcat : ∀ x ∈ lineP ys ++ List.replicate n (0 : Int), numOk x := fun x hx => (List.mem_append.1 hx).elim (ha x) (hzz x)
 have hs := resPut_zeros (lineP ys) n ha (by omega) (by omega)
 have hb : (resPut (lineP ys)).size ≤ 65536 := by
  rw [resPut_size]
  have h2 := (WN.nums_ok (lineP ys) WN.new WN.new_ok ha (by rw [hal]; have : WN.new.out.size = 0 := rfl; omega)).2
  have : WN.new.out.size = 0 := rfl
  rw [hal] at h2
  omega
 rw [show k + n + 2 = (k + n + 1) + 1 from rfl]
 rw [descanttop_TopMono.j1]
 rw [if_neg (by simp), if_pos (by simp), show MTopMono.rd_L1 [ys, List.replicate n 0] 1 = List.replicate n 0 from rfl, linePut_f hz (by rw [List.length_replicate]; omega), Option.bind_some, linePut_f hy (by omega), Option.bind_some, lineP_zeros]
 dsimp only
 rw [resPut_f ha (by omega), Option.bind_some, Option.bind_some, if_pos (by simp only [List.length_nil]; omega), Option.bind_some, List.nil_append, if_pos (by rw [List.length_replicate]; omega), resPut_f (l := lineP ys ++ List.replicate n 0) hcat (by rw [List.length_append, List.length_replicate]; omega), Option.bind_some]
 dsimp only
 unfold descantlaw0_Num.f
 simp only [Option.bind_some, if_true]
 rw [if_pos (by omega), if_pos (by omega), Int.toNat_natCast]
 have hsame := sameInts_self (List.replicate n (0 : Int)) (by rw [List.length_replicate]; omega) k
 rw [List.length_replicate] at hsame
 rw [hsame, Option.bind_some, if_pos rfl]
 congr 1
 rw [decide_eq_true_iff]
 rw [wid64 (4 * (n : Int)) (by omega) (by omega), wid64 _ (by omega) (by omega)]
 omega
theorem mono_l0 (l : List Int) (n : Nat) (hn : n ≤ l.length) (h40 : n ≤ 40) : ∀ d i, i + d = n → descanttop_TopMono.l0 (2 * n + 6 + d) l (ysOf l i) (n : Int) (i : Int) = some true := by
 intro d
 induction d with
 | zero =>
  intro i hi
  obtain rfl : i = n := by omega
  rw [show 2 * i + 6 + 0 = (2 * i + 5) + 1 from rfl]
  rw [descanttop_TopMono.l0]
  have hy := ysOf_ok l i
  have hl := ysOf_len l i hn
  have hp := sidePut_two (ysOf l i) (ysOf l i) rfl (by omega) hy hy (by rw [sideT_self]; intro x hx; rw [List.eq_of_mem_replicate hx]; decide)
  rw [sideT_self, hl] at hp
  rw [if_neg (by omega), hp, Option.bind_some]
  unfold descantlaw0_Num.f
  rw [Option.bind_some, if_pos rfl]
  have := mono_j1 (i + 3) (ysOf l i) i hl h40 hy
  rw [show i + 3 + i + 2 = 2 * i + 5 by omega] at this
  exact this
 | succ d ih =>
  intro i hi
  rw [show 2 * n + 6 + (d + 1) = (2 * n + 6 + d) + 1 from rfl]
  rw [descanttop_TopMono.l0]
  have hl := ysOf_len l i (by omega)
  have e1 := ysOf_succ l i (by omega)
  unfold yv at e1
  rw [if_pos (by omega), if_pos (by omega), if_pos (by omega), if_pos (by omega), e1, wid64 _ (by omega) (by omega)]
  exact ih (i + 1) (by omega)
theorem TopMono : descanttop_TopMono.Pure := by
 intro l0 hm hs hw
 obtain ⟨n, hn, h40, he⟩ : ∃ n : Nat, n ≤ l0.length ∧ n ≤ 40 ∧ mn (l0.length : Int) 40 = (n : Int) := by
  rcases Nat.lt_or_ge 40 l0.length with h | h
  ·exact ⟨40, by omega, by omega, by unfold mn; split <;> omega⟩
  ·exact ⟨l0.length, by omega, h, by unfold mn; split <;> omega⟩
 refine ⟨2 * n + 6 + n, ?_⟩
 unfold descanttop_TopMono.f descanttop_awake.f
 rw [Option.bind_some, if_pos rfl, he]
 exact mono_l0 l0 n hn h40 n 0 (by omega)
end Go.Proofs.YtfghldonnffldaaGreatDoor.Pure
namespace Go.Proofs.YtfghldonnffldaaGreatDoor
open Go.RowKit Go.Proofs.YtfghldonnffldaaGreatDoorW.PrintWords Go.Proofs.YtfghldonnffldaaGreatDoorW.PrintLast Go.Proofs.YtfghldonnffldaaGreatDoorW.PrintMore Go.Proofs.YtfghldonnffldaaGreatDoor.TBase
open Go.RowKit
theorem gDeb : Tryz.prog.globalNamed "math/bits.deBruijn64tab" = some 2 := by kernel_rfl
theorem gDebT : (Tryz.prog.globals[2]?).map (·.type) = some 225 := by kernel_rfl
theorem gStr : Tryz.prog.globalNamed "descant/stretch.table" = some 3 := by kernel_rfl
theorem gStrT : (Tryz.prog.globals[3]?).map (·.type) = some 228 := by kernel_rfl
theorem cells225 : Tryz.prog.cellsOf 225 = 64 := by kernel_rfl
theorem cells228 : Tryz.prog.cellsOf 228 = 33 := by kernel_rfl
theorem cells5_ : Tryz.prog.cellsOf 5 = 1 := by kernel_rfl
theorem cells3_ : Tryz.prog.cellsOf 3 = 1 := by kernel_rfl
def laidL : List (String × DataW Unit) := [("math/bits.deBruijn32tab", Rows.laid_math_bits_deBruijn32tab), ("math/bits.deBruijn64tab", Rows.laid_math_bits_deBruijn64tab), ("descant/stretch.table", Rows.laid_descant_stretch_table)]
theorem laidTabs {W : World} (h0 : laidMetH Tryz.prog laidL W) : Tabs W := by
 have h : laidMet Tryz.prog laidL W := h0
 have h1 := laidMet.tail h
 have h2 := laidMet.tail h1
 have t1 : Lib.TabIs Tryz.prog W "math/bits.deBruijn64tab" .u8 Sq.deb := Lib.tabIs_of_head gDeb gDebT Tryz.underlying225 Tryz.underlying5 cells5_ cells225 h1
 have t2 : Lib.TabIs Tryz.prog W "descant/stretch.table" .i64 Sq.tab := Lib.tabIs_of_head gStr gStrT Tryz.underlying228 Tryz.underlying3 cells3_ cells228 h2
 exact ⟨fun j hj => t2.cell gStr j hj, fun j hj => t1.cell gDeb j hj⟩
def dataCells : DataW Unit → Array Value
 | .agg l => (l.map fun | .lit (.int k z) => Value.int k z | _ => Value.bool false).toArray
 | _ => #[]
def layCells (cs : Array Value) : Obj → Obj
 | .cells _ t frozen => .cells cs t frozen
 | o => o
noncomputable def laidWorld (os : Os) : World :=
 { World.holding Tryz.prog os ⟨#[], #[], []⟩ with heap := (((World.holding Tryz.prog os ⟨#[], #[], []⟩).heap.modify 1 (layCells (dataCells Rows.laid_math_bits_deBruijn32tab))).modify 2 (layCells (dataCells Rows.laid_math_bits_deBruijn64tab))).modify 3 (layCells (dataCells Rows.laid_descant_stretch_table)) }
end Go.Proofs.YtfghldonnffldaaGreatDoor
namespace Go.Proofs.YtfghldonnffldaaGreatDoor.topMono
open Go.ChangeShapes Go.WideShapes Go.ChangeAt Go.RowKit
open Go.ChangeMaps (open_string shut_string)
theorem own : ownKnob Tryz.prog.godebug = none := by kernel_rfl
theorem laidOut : laidOutB Tryz.prog = true := by kernel_rfl
def IsRow (k : IntKind) (w : World) (a : Option Addr) (len cap : Nat) (zs : List Int) : Prop :=
 (a = none ∧ len = 0 ∧ cap = 0 ∧ zs = []) ∨
 ∃ x, a = some x ∧ len ≤ cap ∧ cap ≤ maxLen ∧ zs.length = cap ∧ (∀ i, i < zs.length → w.cell? (x.add i) = some (.int k (zs.getD i 0))) ∧ ∀ n ∈ zs, (Lit.int k n).wf = true
theorem laid_met (os : Os) : laidMet Tryz.prog Rows.topMonoRow.laid ((laidWorld os).forCall (fun _ _ => 0) ⟨#[], #[.slice none 0 0], []⟩).memory :=
 laidMet_of_run' 8 (by kernel_rfl) (by kernel_rfl)
theorem reads (os : Os) {H : Type} (enc : TypeId × Value → H) : ∃ dgp, DataW.whole enc Tryz.prog ((laidWorld os).forCall (fun _ _ => 0) ⟨#[], #[.slice none 0 0], []⟩).memory Tryz.f4.params.toList (OpenSpec.ofChange Rows.topMonoSpec).vars false (#[.slice none 0 0] : Array Value).toList 8 = some ([.nil], [], dgp) :=
 ⟨[], by kernel_rfl⟩
theorem lifted (os : Os) (started : os.Started) (H : Type) (enc : TypeId × Value → H) (F : Stop.Interp) :
  ReturnsInHanded {} Tryz.checked os 4 .any ((OpenSpec.ofChange Rows.topMonoSpec).preRow enc Tryz.prog Tryz.f4 Rows.topMonoRow.domain false Rows.topMonoRow.laid) (((OpenSpec.ofChange Rows.topMonoSpec).at F).post enc Tryz.prog Tryz.f4 false true false false) := by
 obtain ⟨places, hx⟩ := reads os enc
 refine returnsInHanded_of_row (C := Tryz.checked) (s := OpenSpec.ofChange Rows.topMonoSpec) own started (by kernel_rfl) Tryz.func4
  (witness_row_at (enc := enc) (C := Tryz.checked) false (laidWorld os) #[.slice none 0 0] rfl (by kernel_rfl) (by kernel_rfl) (by kernel_rfl)
   (OpenSpec.preRow_of_cond 8 hx (by kernel_rfl) (fun k hk => by cases hk) (by kernel_rfl) (laid_met os))) ?_
 intro W base args ds gs before hval0 hW hcnd _ hsz0 hL _ _
 have hsz : (DataW.weightsEach Tryz.prog (Tryz.f4.params.toList ++ Rows.topMonoSpec.plain.varTypes Tryz.prog) (ds ++ gs)).all (· ≤ reachBytes) = true := hsz0
 have hval : ∀ (j : Nat) t v, Tryz.f4.params[j]? = some t → args[j]? = some v → Value.okWide Tryz.prog W .any base t v := hval0
 have hW' := hW
 obtain ⟨p, q, hA0, hV, rfl, hfz, hnd⟩ := hW
 have hA : DataW.TrodAll enc Tryz.prog W 0 (fun _ => true) true Tryz.f4.params.toList args.toList ds p := hA0
 rw [Tryz.params4] at hA hval hsz
 obtain ⟨v0, vs0, d0, ds0, p0, q0, hargs, rfl, rfl, h0, r0⟩ := trodAll_cons hA
 obtain ⟨rfl, rfl, rfl⟩ := trodAll_nil r0
 obtain rfl : args = #[v0] := by cases args; simp_all
 obtain ⟨rfl, rfl⟩ := trodVars_none hV
 obtain ⟨a0, len0, cap0, rfl⟩ := okWide_slice Tryz.underlying36 (hval 0 36 v0 rfl rfl)
 have k0 := h0
 have lt0 : ∀ x ∈ p0, x.block < W.heap.size := by obtain ⟨m, hm⟩ := k0; exact DataW.trod_lt m _ _ _ hm
 obtain ⟨z0, w0⟩ : ∃ zs, IsRow .i64 W a0 len0 cap0 zs := by
  obtain ⟨fuel, hf⟩ := h0
  rcases open_ints Tryz.underlying36 Tryz.underlying3 (by kernel_rfl) hf with ⟨hcs, _⟩ | ⟨x, l, c, zs, hcs, _, hl, hm, hz, _, hcell, hwz⟩
  ·simp [Value.cells] at hcs
   obtain ⟨rfl, rfl, rfl⟩ := hcs
   exact ⟨[], .inl ⟨rfl, rfl, rfl, rfl⟩⟩
  ·simp [Value.cells] at hcs
   obtain ⟨rfl, rfl, rfl⟩ := hcs
   exact ⟨zs, .inr ⟨_, rfl, hl, hm, by simpa using hz, hcell, hwz⟩⟩
 have y0 : len0 * 8 ≤ 140737488351232 := Go.Proofs.YtfghldonnffldaaGreatDoorW.PrintWords.sized_ints hsz (j := 0) (t := 36) rfl rfl Tryz.underlying36 Tryz.underlying3 (by kernel_rfl) (by kernel_rfl) h0
 clear hA0 hval0 hsz0 hsz
 refine (MTopMono.descanttop_TopMono.walk Pure.TopMono a0 len0 cap0 z0 W w0 y0 (laidTabs hL)).mono fun e W' ⟨he, bel⟩ => ?_
 subst he
 exact ⟨_, rfl, _, _, _, [], _, [], hW', trodAll_mk1 (shut_bool Tryz.underlying4 _), (trodAll_cons_mk (Below.trod laidOut (by kernel_rfl) (of_decide_eq_true (by kernel_rfl)) k0 bel lt0) trodAll_mk0), rfl, bel.frame _, fun h => by cases h⟩
theorem over : Rows.TopMonoSaid :=
 OpenClaim.holds_of_cond 4 Tryz.f4 rfl rfl rfl rfl rfl rfl rfl ⟨rfl, rfl, rfl, rfl, rfl⟩ rfl rfl rfl rfl rfl (by kernel_rfl) Tryz.func4 (by kernel_rfl)
  (of_decide_eq_true (by kernel_rfl)) (by unfold Func.isWrapper; first | (rw [if_pos (by decide +kernel)]; kernel_rfl) | (rw [if_neg (by decide +kernel)]; exact ⟨rfl, rfl⟩))
  (fun os started H enc _ F => by rw [OpenClaim.pre_eq_preRow]; exact lifted os started H enc F)
theorem plain (f : FuncId) (fn : Func) (hf : Tryz.pinned.checked.prog.funcNamed "descant/descanttop.TopMono" = some f) (hfn : Tryz.pinned.checked.prog.funcs[f]? = some fn) :
  false = Tryz.pinned.checked.prog.looks [] ∧ ∀ (j : Nat) t, fn.params[j]? = some t → Tryz.pinned.checked.prog.wantsStandIn t = false := by
 obtain rfl : f = 4 := Option.some.inj ((show Tryz.prog.funcNamed "descant/descanttop.TopMono" = some 4 by kernel_rfl).symm.trans hf) |>.symm
 obtain rfl : fn = Tryz.f4 := (Option.some.inj (Tryz.func4.symm.trans hfn)).symm
 refine ⟨by kernel_rfl, fun j t ht => ?_⟩
 rw [Tryz.params4] at ht
 have hm := Array.mem_of_getElem? ht
 simp at hm
 subst hm
 exact (show Tryz.prog.wantsStandIn 36 = false by kernel_rfl)
theorem card : Rows.TopMonoCardSaid :=
 Claim7.holds_tied_plain_at .later [] _ _ _ _ over (fun _ h => by cases h) (by kernel_rfl) (fun _ h => by cases h) topMono_row_tie rfl ⟨rfl, rfl⟩ (by kernel_rfl) rfl plain (by kernel_rfl)
#print axioms card
end Go.Proofs.YtfghldonnffldaaGreatDoor.topMono
namespace Go.Proofs.YtfghldonnffldaaGreatDoor
theorem topMono_holds : Rows.TopMonoCardSaid := topMono.card
end Go.Proofs.YtfghldonnffldaaGreatDoor
