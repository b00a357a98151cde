/- Walks of the program's functions, and the laws of what they compute, for TopMoved: one file of several. -/
import Derived.Below
import Derived.Deep.Draws
import Derived.Deep.AppendLies
import Derived.Maps.AppendAt
import Derived.OwnWalk
import Derived.Laws.BytesArg
import Derived.Laws.MakeOwn
import Derived.Laws.OwnMore
import Derived.Deep.OwnRows
import Derived.Tactics
import Derived.Lib.ConvBytes
import Derived.Laws.Slices
import Derived.WalkKit
import Derived.KernelRfl
import Derived.RowKit3
import Derived.Deep.LoopGhost
import Derived.Deep.QuietTactic
import Derived.BigQuiet
import Derived.WideLaws
import Derived.Deep.DeepCutAuto
import Derived.Deep.CutBlock
import Derived.Deep.RegionHeld3
import Derived.Laws.Rows
import Derived.Lib.AppendStr
import Derived.ArgAppend
import Derived.Laws.IdiomCopy
import Derived.RowKit
import Derived.OrdersHeld
import Derived.Laws.BitsLemmas
import Derived.Laws.StructEq
import Derived.Test.YtfghldonnffldaaGreatDoorProg
set_option linter.unusedVariables false
set_option linter.unusedSimpArgs false
set_option maxRecDepth 100000
set_option maxHeartbeats 8000000
namespace Go.Proofs.YtfghldonnffldaaGreatDoorW.PrintWords
open Go.RowKit
structure Aside0(p:Prop):Prop where mk::(out:p)
structure Drawn0(w w':World):Prop where mk::(out:∃n,w'=w.drewN n)
theorem Drawn0.refl(w:World):Drawn0 w w:=⟨⟨0,rfl⟩⟩
theorem Drawn0.step{w w':World}(h:Drawn0 w w')(n:Nat):Drawn0 w (w'.drewN n):=by
 obtain⟨m,rfl⟩:=h;exact⟨⟨m+n,World.drewN_drewN ..⟩⟩
def rd(xs:List Int)(i:Int):Int:=xs.getD i.toNat 0
def bt(s:ByteArray)(i:Int):Int:=if h:i.toNat<s.size then((s[i.toNat]'h).toNat:Int) else 0
theorem bt_at(s:ByteArray)(i:Int):∀h:i.toNat<s.size,((s[i.toNat]'h).toNat:Int)=bt s i:=fun h=>by simp[bt,h]
theorem bt_range(s:ByteArray)(i:Int):0≤bt s i∧bt s i≤255:=by
 unfold bt
 split
 ·rename_i h;have:=(s[i.toNat]'h).toNat_lt;omega
 ·omega
def nums(k:IntKind)(xs:List Int):List Value:=xs.map fun x=> .int k x
theorem below_alloc{w W:World}(h:Below w.heap.size w W)(o:Obj):Below w.heap.size w (W.alloc o):=h.alloc h.size o
theorem below_drew{B:Nat}{w W:World}(h:Below B w W):Below B w W.drew:=⟨h.os,h.tape,h.output,h.size,h.block⟩
theorem pw_below_drewN{B:Nat}{w W:World}(h:Below B w W)(n:Nat):Below B w (W.drewN n):=⟨h.os,h.tape,h.output,h.size,h.block⟩
theorem below_then{B:Nat}{w w1 w2:World}(h:Below B w w1)(hB:B≤w1.heap.size)(k:Below w1.heap.size w1 w2):Below B w w2:=
 h.trans ⟨k.os,k.tape,k.output,k.size,fun i hi=>k.block i (Nat.lt_of_lt_of_le hi hB)⟩
theorem pw_cell_below{w w1:World}(h:Below w.heap.size w w1){a:Addr}{v:Value}(hc:w.cell? a=some v):w1.cell? a=some v:=(h.cell (World.block_lt_of_cell? w a hc)).trans hc
theorem add_plain(g j:Nat):(⟨g,0,none⟩:Addr).add j=⟨g,j,none⟩:=by unfold Addr.add;split<;>simp_all
theorem own_nil(W:World)(base:Nat)(e:TypeId)(size:Nat):W.ownsRow base e size (.slice none 0 0) 0 []:=⟨by simp,.inl ⟨rfl,rfl⟩⟩
theorem own_base{w:World}{base:Nat}{e:TypeId}{size n:Nat}{v:Value}{xs:List Value}(h:w.ownsRow base e size v n xs)(k:Nat)(hk:v.ownBlock=some k):base≤k:=by
 rcases h.2 with ⟨rfl,_⟩|⟨g,cap,cur,rfl,hb,_⟩
 ·simp[Value.ownBlock] at hk
 ·have:g=k:=by simpa [Value.ownBlock] using hk
  omega
theorem own_lt{w:World}{base:Nat}{e:TypeId}{size n:Nat}{v:Value}{xs:List Value}(h:w.ownsRow base e size v n xs)(k:Nat)(hk:v.ownBlock=some k):k<w.heap.size:=by
 rcases h.2 with ⟨rfl,_⟩|⟨g,cap,cur,rfl,hb,hh,_⟩
 ·simp[Value.ownBlock] at hk
 ·have:g=k:=by simpa [Value.ownBlock] using hk
  subst this;exact(Array.getElem?_eq_some_iff.1 hh).1
theorem own_string{P:Program}{w:World}{base n:Nat}{e' src dst e:TypeId}{v:Value}{xs:List Int}(hs:P.underlying src=some (.slice e))(he:P.underlying e=some (.int .u8))(hd:P.underlying dst=some .string)
  (h:w.ownsRow base e' 1 v n (nums .u8 xs)):(convert src dst v).run P w= .ok (.string (strOfNums xs)) w:=by
 have hl:xs.length=n:=by have:=h.1;simp[nums] at this;exact this
 rcases h.2 with ⟨rfl,rfl⟩|⟨g,cap,cur,rfl,_⟩
 ·obtain rfl:xs= []:=List.eq_nil_of_length_eq_zero hl;exact run_convert_bytes_nil w src e hs he 0 0 dst hd
 ·refine run_convert_bytes_arg w src e hs he g 0 n cap xs hl (fun i hi=>?_) dst hd;have hc:=h.cells (g:=g) rfl i (.int .u8 (xs.getD i 0)) (by simp[nums,List.getElem?_eq_getElem (show i<xs.length by omega),List.getD_eq_getElem?_getD]);have ha:(⟨g,0,none⟩:Addr).add i=⟨g,0+i,none⟩:=by unfold Addr.add;split<;>simp_all
  rwa [ha] at hc
section
variable {P:Program}
theorem print_make(t e:TypeId)(k:IntKind)(bytes:Nat)(ht:P.underlying t=some (.slice e))(hinfo:(P.info? e).map (fun i=>(i.zero,i.size,i.bytes))=some (some (.int k 0),1,bytes))(hb0:0<bytes)
  (m:Nat) (hn:m*bytes≤281474976710656):
  ∀W:World,(Instr.makeSlice t (.int .i64 (m:Int)) (.int .i64 (m:Int))).run P W= .ok (.slice (some ⟨W.heap.size,0,none⟩) m m) (W.alloc (.cells (madeCells #[.int k 0] m) e)):=by
 intro W;have hm:m≤281474976710656:=Nat.le_trans (Nat.le_mul_of_pos_right _ hb0) hn;exact run_make_row' t e (.int k 0) bytes ht hinfo rfl .i64 .i64 m (by rw[Nat.mul_comm];exact hn) (by omega) W
end
def bytesOf(s:ByteArray):List Int:=s.data.toList.map fun b=>(b.toNat:Int)
theorem data_length(s:ByteArray):s.data.toList.length=s.size:=by rw[Array.length_toList];rfl
theorem bytesOf_length(s:ByteArray):(bytesOf s).length=s.size:=by rw[bytesOf,List.length_map,data_length]
theorem rd_bytesOf(s:ByteArray)(i:Int):rd (bytesOf s) i=bt s i:=by
 unfold rd bt bytesOf
 split
 ·rename_i h;have h':i.toNat<s.data.toList.length:=by rw[data_length];exact h
  simp[List.getD_eq_getElem?_getD,List.getElem?_eq_getElem h'];rfl
 ·rename_i h;have h':s.data.toList.length≤i.toNat:=by rw[data_length];omega
  simp[List.getD_eq_getElem?_getD,List.getElem?_eq_none h']
def LeO{α:Type}(a b:Option α):Prop:=∀r,a=some r→b=some r
theorem LeO.refl{α:Type}(a:Option α):LeO a a:=fun _ h=>h
theorem LeO.ite{α:Type}{c:Prop}[Decidable c]{a a' b b':Option α}(h:LeO a a')(k:LeO b b'):LeO (if c then a else b) (if c then a' else b'):=by
 split
 ·exact h
 ·exact k
theorem LeO.bind{α β:Type}{a a':Option α}{f f':α→Option β}(h:LeO a a')(k:∀x,LeO (f x) (f' x)):LeO (a.bind f) (a'.bind f'):=by
 intro r hr;obtain⟨x,hx,hf⟩:=Option.bind_eq_some_iff.1 hr;exact Option.bind_eq_some_iff.2 ⟨x,h x hx,k x r hf⟩
def Reps{α:Type}(R:α→List Value→Prop)(size:Nat)(ps:List α)(cs:List Value):Prop:=
 cs.length=ps.length*size∧∀j p,ps[j]?=some p→R p ((cs.drop (j*size)).take size)
theorem Reps.none{α:Type}(R:α→List Value→Prop)(size:Nat):Reps R size [] []:=⟨by simp,fun j p h=>by simp at h⟩
theorem Reps.snoc{α:Type}{R:α→List Value→Prop}{size:Nat}{ps:List α}{cs c:List Value}{p:α}(h:Reps R size ps cs)(hp:R p c)(hc:c.length=size):Reps R size (ps++ [p]) (cs++c):=by
 refine⟨by rw[List.length_append,h.1,hc,List.length_append,List.length_singleton,Nat.add_mul,Nat.one_mul],fun j q hq=>?_⟩
 rcases Nat.lt_or_ge j ps.length with hj|hj
 ·rw[List.getElem?_append_left hj] at hq;have h1:j*size+size≤cs.length:=by rw[h.1,←Nat.succ_mul];exact Nat.mul_le_mul_right _ hj
  have h2:=h.2 j q hq;rw[List.drop_append_of_le_length (by omega),List.take_append_of_le_length (by rw[List.length_drop];omega)];exact h2
 ·have hj':j=ps.length:=by
   have:=(List.getElem?_eq_some_iff.1 hq).1;rw[List.length_append,List.length_singleton] at this;omega
  subst hj';have hq':p=q:=by simpa using hq
  subst hq';rw[←h.1,List.drop_left,←hc,List.take_length];exact hp
theorem Reps.imp_{α:Type}{R R':α→List Value→Prop}{size:Nat}{ps:List α}{cs:List Value}(h:Reps R size ps cs)(hR:∀p c,R p c→R' p c):Reps R' size ps cs:=⟨h.1,fun j p hj=>hR _ _ (h.2 j p hj)⟩
def ReadsRow{α:Type}(R:α→List Value→Prop)(size:Nat)(w:World)(A:Option Addr)(n:Nat)(ps:List α):Prop:=
 ps.length=n∧n≤9223372036854775807∧(0<n→∃ad,A=some ad∧∀j p,ps[j]?=some p→∃c,c.length=size∧R p c∧∀i u,c[i]?=some u→w.cell? (ad.add (j*size+i))=some u)
theorem ReadsRow.get_{α:Type}{R:α→List Value→Prop}{size:Nat}{w:World}{A:Option Addr}{n:Nat}{ps:List α}(h:ReadsRow R size w A n ps)(d:α)(i:Int)(h0:0≤i)(h1:i<n):
  ∃ad c,A=some ad∧c.length=size∧R (ps.getD i.toNat d) c∧∀j u,c[j]?=some u→w.cell? (ad.add (i.toNat*size+j))=some u:=by
 obtain⟨ad,e,hc⟩:=h.2.2 (by omega);have hl:i.toNat<ps.length:=by have:=h.1;omega
 obtain⟨c,hs,hr,hcell⟩:=hc i.toNat _ (List.getElem?_eq_getElem hl);refine⟨ad,c,e,hs,?_,hcell⟩;rw[List.getD_eq_getElem?_getD,List.getElem?_eq_getElem hl];exact hr
theorem ReadsRow.imp_{α:Type}{R R':α→List Value→Prop}{size:Nat}{w w1:World}{A:Option Addr}{n:Nat}{ps:List α}(h:ReadsRow R size w A n ps)(hb:Below w.heap.size w w1)(hR:∀p c,R p c→R' p c):ReadsRow R' size w1 A n ps:=
 ⟨h.1,h.2.1,fun hn=>by
  obtain⟨ad,e,hc⟩:=h.2.2 hn;refine⟨ad,e,fun j p hj=>?_⟩;obtain⟨c,hs,hr,hcell⟩:=hc j p hj
  exact⟨c,hs,hR _ _ hr,fun i u hu=>pw_cell_below hb (hcell i u hu)⟩⟩
theorem own_reads_row{α:Type}{R:α→List Value→Prop}{w:World}{base n size:Nat}{e:TypeId}{v:Value}{ps:List α}{cs:List Value}(h:w.ownsRow base e size v n cs)(hR:Reps R size ps cs)(hn:ps.length=n):
  ∃A c,v= .slice A n c∧ReadsRow R size w A n ps:=by
 rcases Nat.eq_zero_or_pos n with h0|h0
 ·rcases h.2 with ⟨rfl,rfl⟩|⟨g,cap,cur,rfl,_⟩
  ·exact⟨none,0,rfl,hn,by omega,fun hp=>absurd hp (by omega)⟩
  ·exact⟨_,cap,rfl,hn,by omega,fun hp=>absurd hp (by omega)⟩
 ·obtain⟨g,cap,rfl,_,_⟩:=h.form h0
  have hm:n≤9223372036854775807:=by
   rcases h.2 with ⟨_,h1⟩|⟨g',cap',cur,he,_,_,h1,h2,_⟩
   ·omega
   ·simp only[maxLen] at h2;omega
  refine⟨_,cap,rfl,hn,hm,fun _=>⟨_,rfl,fun j p hj=>⟨(cs.drop (j*size)).take size,?_,hR.2 j p hj,fun i u hu=>?_⟩⟩⟩
  ·have hjl:=(List.getElem?_eq_some_iff.1 hj).1;have h1:j*size+size≤cs.length:=by rw[hR.1,←Nat.succ_mul];exact Nat.mul_le_mul_right _ hjl
   rw[List.length_take,List.length_drop];omega
  ·refine h.cells (g:=g) rfl _ u ?_;rw[List.getElem?_take] at hu
   split at hu
   ·rw[List.getElem?_drop] at hu;exact hu
   ·cases hu
theorem add_field(ad:Addr)(m j:Nat)(hj:0<j):ad.add (m+j)=⟨(ad.add m).block,(ad.add m).off+j,none⟩:=by
 unfold Addr.add
 by_cases hm:m=0
 ·subst hm;simp[Nat.ne_of_gt hj]
 ·simp[hm,Nat.add_assoc]
section
variable {P:Program} {ops:Array Oper} {rest:List Oper} {o:Oper} {a:Act} {Q:Exit→Act→World→Prop}
theorem print_append_cells{w0 W:World}(base:Nat)(hgd:o.guard=none)(s x:Operand)(t e:TypeId)(z:Value)(size bytes:Nat)
  (ho:o.op= .call { callee:= .builtin .append,args:= #[s,x],argTypes:= #[t,t] })
  (ht:P.underlying t=some (.slice e)) (hinfo:(P.info? e).map (fun i=>(i.zero,i.size,i.bytes))=some (some z,size,bytes)) (hz:z.cells.size=size) (hs0:0<size) (hb0:0<bytes)
  (v:Value) (n:Nat) (xs ys:List Value) (hs:a.eval s=v) (hx:a.eval x= .slice (some ⟨W.heap.size,0,none⟩) 1 1) (hys:ys.length=size) (h1:∀u∈ys,u.oneCell'=true)
  (HO:W.ownsRow base e size v n xs) (HB:Below base w0 W) (hbase:base≤W.heap.size) (hl:(n+1)*bytes≤140737488355328)
  (h:∀v1 w1,w1.ownsRow base e size v1 (n+1) (xs++ys)→Below base w0 w1→W.grownBy w1 v.ownBlock→(v1.ownBlock=v.ownBlock∨∃b,v1.ownBlock=some b∧W.heap.size≤b)→wpList P ops Q rest (a.put o.dst v1) w1):
  wpList P ops Q (o::rest) a (W.alloc (.cells ys.toArray e)):=by
 obtain⟨i0,hi,hzz⟩:=Option.map_eq_some_iff.1 hinfo;simp only[Prod.mk.injEq] at hzz;obtain⟨hz0,hz1,hz2⟩:=hzz;have hlen:n+1≤140737488355328:=Nat.le_trans (Nat.le_mul_of_pos_right _ hb0) hl
 refine wpList_append_own_at (W.alloc (.cells ys.toArray e)) hgd s x t ho base e i0 z size bytes ht hi hz0 hz1 hz2 hz hs0 v n xs hs (HO.alloc _) ⟨W.heap.size,0,none⟩ 1 1 ys hx (by rw[hys];simp)
  (by simpa using World.news_of_block (cs:=ys.toArray) (t:=e) (fr:=(0,0)) (heap_alloc_new W (.cells ys.toArray e))) h1 (by simp only[maxLen];omega) hl (by simp;omega) ?_
 intro v1 w1 hown hg _ hat;refine h v1 w1 hown ((HB.alloc hbase _).grown hg (by simp;omega) (own_base HO)) (World.grownBy.trans (World.grownBy_alloc W _ _) hg) ?_
 rcases hat with hat|hat
 ·exact .inl hat
 ·exact .inr ⟨_,hat,by simp⟩
end
theorem own_ne{w:World}{base:Nat}{e t:TypeId}{size n g:Nat}{v:Value}{xs:List Value}{cs:Array Value}(h:w.ownsRow base e size v n xs)(hg:w.heap[g]?=some (.cells cs t (0,0)))(hne:e≠t):some g≠v.ownBlock:=by
 rcases h.2 with ⟨rfl,_⟩|⟨g',cap,cur,rfl,_,hh,_⟩
 ·simp[Value.ownBlock]
 ·intro he;have:g=g':=by simpa [Value.ownBlock] using he
  subst this;rw[hg] at hh;injection hh with hh
  injection hh with _ ht
  exact hne ht.symm
theorem blk_set{w:World}{g:Nat}{t:TypeId}{cs:Array Value}(h:w.heap[g]?=some (.cells cs t (0,0)))(i:Nat)(u:Value):(w.setCell ⟨g,i,none⟩ u).heap[g]?=some (.cells (cs.setIfInBounds i u) t (0,0)):=by
 simp[World.setCell,Array.getElem?_modify,h]
theorem blk_far{w:World}{g:Nat}{t:TypeId}{cs:Array Value}(h:w.heap[g]?=some (.cells cs t (0,0))){p:Addr}(hp:g≠p.block)(u:Value):(w.setCell p u).heap[g]?=some (.cells cs t (0,0)):=(Below.heap_setCell w p u g hp).trans h
theorem blk_lt{w:World}{g:Nat}{o:Obj}(h:w.heap[g]?=some o):g<w.heap.size:=(Array.getElem?_eq_some_iff.1 h).1
theorem blk_cell{w:World}{g:Nat}{t:TypeId}{cs:Array Value}(h:w.heap[g]?=some (.cells cs t (0,0)))(i:Nat):w.cell? ⟨g,i,none⟩=cs[i]?:=cell_of_row w g i cs t (0,0) h
theorem blk_frozen{w:World}{g:Nat}{t:TypeId}{cs:Array Value}(h:w.heap[g]?=some (.cells cs t (0,0)))(i:Nat):w.frozen? ⟨g,i,none⟩=false:=by simp[World.frozen?,h]
theorem blk_grown{w w1:World}{g:Nat}{o:Obj}{row:Option Nat}(h:w.heap[g]?=some o)(hg:w.grownBy w1 row)(hne:some g≠row):w1.heap[g]?=some o:=(hg.block g (blk_lt h) hne).trans h
section
variable {P:Program} {ops:Array Oper} {o:Oper} {a:Act} {Q:Exit→Act→World→Prop} {K:Act→World→Prop}
theorem step_append_cells{w0 W:World}(base:Nat)(hw:Region.wanted o (yielded ops a.tmps)=true)(s x:Operand)(t e:TypeId)(z:Value)(size bytes:Nat)
  (ho:o.op= .call { callee:= .builtin .append,args:= #[s,x],argTypes:= #[t,t] })
  (ht:P.underlying t=some (.slice e)) (hinfo:(P.info? e).map (fun i=>(i.zero,i.size,i.bytes))=some (some z,size,bytes)) (hz:z.cells.size=size) (hs0:0<size) (hb0:0<bytes)
  (v:Value) (n:Nat) (xs ys:List Value) (hs:a.eval s=v) (hx:a.eval x= .slice (some ⟨W.heap.size,0,none⟩) 1 1) (hys:ys.length=size) (h1:∀u∈ys,u.oneCell'=true)
  (HO:W.ownsRow base e size v n xs) (HB:Below base w0 W) (hbase:base≤W.heap.size) (hl:(n+1)*bytes≤140737488355328)
  (h:∀v1 w1,w1.ownsRow base e size v1 (n+1) (xs++ys)→Below base w0 w1→W.grownBy w1 v.ownBlock→(v1.ownBlock=v.ownBlock∨∃b,v1.ownBlock=some b∧W.heap.size≤b)→K (a.put o.dst v1) w1):
  if Region.wanted o (yielded ops a.tmps)=true then Oper.wp P o a (W.alloc (.cells ys.toArray e)) K Q else K (a.put o.dst undef) (W.alloc (.cells ys.toArray e)):=by
 obtain⟨i0,hi,hzz⟩:=Option.map_eq_some_iff.1 hinfo;simp only[Prod.mk.injEq] at hzz;obtain⟨hz0,hz1,hz2⟩:=hzz;have hlen:n+1≤140737488355328:=Nat.le_trans (Nat.le_mul_of_pos_right _ hb0) hl;rw[if_pos hw]
 obtain⟨v1,w1,hr,hown,hg,_,hat⟩:=run_append_own_at (P:=P) (W.alloc (.cells ys.toArray e)) base t o.type e i0 z size bytes ht hi hz0 hz1 hz2 hz hs0 v n xs (HO.alloc _) ⟨W.heap.size,0,none⟩ 1 1 ys (by rw[hys];simp)
  (by simpa using World.news_of_block (cs:=ys.toArray) (t:=e) (fr:=(0,0)) (heap_alloc_new W (.cells ys.toArray e))) h1 (by simp only[maxLen];omega) hl (by simp;omega)
 unfold Oper.wp execOp;simp only[ho,resolve,invoke,builtin,Sem.run_bind,Sem.run_pure,Result.andThen_ok,List.map_toArray,List.map_cons,List.map_nil,hs,hx,hr];refine h v1 w1 hown ((HB.alloc hbase _).grown hg (by simp;omega) (own_base HO)) (World.grownBy.trans (World.grownBy_alloc W _ _) hg) ?_
 rcases hat with hat|hat
 ·exact .inl hat
 ·exact .inr ⟨_,hat,by simp⟩
end
theorem own_weaken{w:World}{base base':Nat}{e:TypeId}{size n:Nat}{v:Value}{xs:List Value}(h:w.ownsRow base e size v n xs)(hb:base'≤base):w.ownsRow base' e size v n xs:=by
 obtain⟨h1,h2⟩:=h;refine⟨h1,?_⟩
 rcases h2 with h2|⟨g,cap,cur,rfl,hg,r⟩
 ·exact .inl h2
 ·exact .inr ⟨g,cap,cur,rfl,Nat.le_trans hb hg,r⟩
section
variable {α:Type} {enc:α→Value} {d:α}
def encs(enc:α→Value)(xs:List α):List Value:=xs.map enc
def rdOf(d:α)(xs:List α)(i:Int):α:=xs.getD i.toNat d
theorem encs_length(xs:List α):(encs enc xs).length=xs.length:=by simp[encs]
theorem encs_get(xs:List α)(j:Nat)(h:j<xs.length):(encs enc xs)[j]?=some (enc (xs.getD j d)):=by
 simp[encs,List.getElem?_eq_getElem h,List.getD_eq_getElem?_getD]
def ReadsOf(enc:α→Value)(d:α)(w:World)(A:Option Addr)(n:Nat)(xs:List α):Prop:=
 xs.length=n∧n≤9223372036854775807∧(0<n→∃ad,A=some ad∧∀j,j<n→w.cell? (ad.add j)=some (enc (xs.getD j d)))
theorem ReadsOf.at_{w:World}{A:Option Addr}{n:Nat}{xs:List α}(h:ReadsOf enc d w A n xs)(i:Int)(h0:0≤i)(h1:i<n):∃ad,A=some ad∧w.cell? (ad.add i.toNat)=some (enc (rdOf d xs i)):=by
 obtain⟨ad,e,hc⟩:=h.2.2 (by omega);exact⟨ad,e,hc _ (by omega)⟩
theorem ReadsOf.drop_{w:World}{A:Option Addr}{n c:Nat}{xs:List α}(h:ReadsOf enc d w A n xs)(i:Nat)(hi:i≤n)(hc:n≤c):ReadsOf enc d w (if c=i then A else A.map (·.add i)) (n - i) (xs.drop i):=by
 refine⟨by rw[List.length_drop,h.1],by have:=h.2.1;omega,fun hp=>?_⟩;obtain⟨ad,rfl,hcell⟩:=h.2.2 (by omega);rw[if_neg (by omega)];refine⟨ad.add i,rfl,fun j hj=>?_⟩
 have ha:(ad.add i).add j=ad.add (i+j):=by
  unfold Addr.add
  by_cases h1:i=0<;>by_cases h2:j=0<;>simp[h1,h2,Nat.add_assoc]
 rw[ha,hcell (i+j) (by omega)];simp[List.getD_eq_getElem?_getD,List.getElem?_drop]
theorem print_cut_of{P:Program}(enc:α→Value)(d:α)(t e:TypeId)(kl:IntKind){i:TypeInfo}(ht:P.underlying t=some (.slice e))(hi:P.info? e=some i)(hsz:i.size=1)(A:Option Addr)(n c m:Nat)(hm:m≤n):
  ∃A':Option Addr,(∀W:World,(Instr.slice t (.slice A n c) (some (.int kl (m:Int))) none none).run P W= .ok (.slice A' (n - m) (c - m)) W)∧
   ∀(w:World) (xs:List α),n≤c→ReadsOf enc d w A n xs→ReadsOf enc d w A' (n - m) (xs.drop m):=by
 refine⟨if c=m then A else A.map (·.add m),fun W=>?_,fun w xs hc h=>h.drop_ m hm hc⟩;have hel:P.elem t=e:=by simp[Program.elem,ht]
 have hu:P.underlying t=some (.slice (P.elem t)):=by rw[hel];exact ht
 rw[run_slice_l W t A n c hu kl (m:Int) (Int.natCast_nonneg _) (by omega),hel];simp[sizeOf,typeInfo,hi,hsz,sliced,Result.andThen]
theorem own_at_of{W:World}{base g n cap:Nat}{e:TypeId}{xs:List α}(h:W.ownsRow base e 1 (.slice (some ⟨g,0,none⟩) n cap) n (encs enc xs))(i:Int)(h0:0≤i)(h1:i<n):
  W.cell? ⟨g,i.toNat,none⟩=some (enc (rdOf d xs i))∧W.frozen? ⟨g,i.toNat,none⟩=false:=by
 have hl:xs.length=n:=by have:=h.1;simp[encs] at this;exact this
 constructor
 ·have hc:=h.cells (g:=g) rfl i.toNat _ (encs_get (d:=d) xs i.toNat (by omega))
  rwa [add_plain] at hc
 ·rcases h.2 with ⟨h',_⟩|⟨g',cap',cur,h',_,hh,_⟩
  ·cases h'
  ·have:g=g':=by injection h' with h';injection h' with h';injection h' with h'
   subst this;simp[World.frozen?,hh]
theorem own_store_of{W:World}{base g n cap:Nat}{e:TypeId}{xs:List α}(h:W.ownsRow base e 1 (.slice (some ⟨g,0,none⟩) n cap) n (encs enc xs))(i:Int)(x:α):
  (W.setCell ⟨g,i.toNat,none⟩ (enc x)).ownsRow base e 1 (.slice (some ⟨g,0,none⟩) n cap) n (encs enc (xs.set i.toNat x))∧W.grownBy (W.setCell ⟨g,i.toNat,none⟩ (enc x)) (some g):=by
 have hs:=h.stored i.toNat (enc x);have he:(encs enc xs).set i.toNat (enc x)=encs enc (xs.set i.toNat x):=by simp[encs,List.map_set]
 rwa [he] at hs
end
theorem blk_alloc{w:World}{g:Nat}{o:Obj}(h:w.heap[g]?=some o)(o':Obj):(w.alloc o').heap[g]?=some o:=(Below.heap_alloc w o' g (blk_lt h)).trans h
theorem blk_drew{w:World}{g:Nat}{o:Obj}(h:w.heap[g]?=some o):w.drew.heap[g]?=some o:=h
theorem blk_drewN{w:World}{g:Nat}{o:Obj}(h:w.heap[g]?=some o)(n:Nat):(w.drewN n).heap[g]?=some o:=h
theorem blk_below{w w1:World}{g:Nat}{o:Obj}(h:w.heap[g]?=some o)(hb:Below w.heap.size w w1):w1.heap[g]?=some o:=(hb.block g (blk_lt h)).trans h
theorem blk_new(w:World)(o:Obj):(w.alloc o).heap[w.heap.size]?=some o:=heap_alloc_new w o
section
variable {P:Program}
theorem results_ct{fn:Func}{p u:Tmp}{ty:TypeId}(h:fn.results= #[.cell p ty,.tmp u])(tmps:Array Value)(w:World)(g:Nat)(t:TypeId)(cs:Array Value)(fr:Nat×Nat)(d:TypeDesc)
  (hp:tmps.getD p undef= .pointer (some ⟨g,0,none⟩)) (hg:w.heap[g]?=some (.cells cs t fr))
  (hu:P.underlying ty=some d) (hd:(match d with| .struct _| .array _ _=>true|_=>false)=true) (hi:(P.info? ty).map (·.size)=some cs.size):
  (results fn tmps).run P w= .ok (.tuple #[.agg cs,tmps.getD u undef]) w:=by
 have hp':tmps[p]?.getD undef= .pointer (some ⟨g,0,none⟩):=by simpa using hp
 simp[results,h,hp',asAddr,run_loadVar_row w g t ty cs fr d hg hu hd hi]
theorem results_tc{fn:Func}{p u:Tmp}{ty:TypeId}(h:fn.results= #[.tmp u,.cell p ty])(tmps:Array Value)(w:World)(g:Nat)(t:TypeId)(cs:Array Value)(fr:Nat×Nat)(d:TypeDesc)
  (hp:tmps.getD p undef= .pointer (some ⟨g,0,none⟩)) (hg:w.heap[g]?=some (.cells cs t fr))
  (hu:P.underlying ty=some d) (hd:(match d with| .struct _| .array _ _=>true|_=>false)=true) (hi:(P.info? ty).map (·.size)=some cs.size):
  (results fn tmps).run P w= .ok (.tuple #[tmps.getD u undef,.agg cs]) w:=by
 have hp':tmps[p]?.getD undef= .pointer (some ⟨g,0,none⟩):=by simpa using hp
 simp[results,h,hp',asAddr,run_loadVar_row w g t ty cs fr d hg hu hd hi]
theorem results_ctt{fn:Func}{p u v:Tmp}{ty:TypeId}(h:fn.results= #[.cell p ty,.tmp u,.tmp v])(tmps:Array Value)(w:World)(g:Nat)(t:TypeId)(cs:Array Value)(fr:Nat×Nat)(d:TypeDesc)
  (hp:tmps.getD p undef= .pointer (some ⟨g,0,none⟩)) (hg:w.heap[g]?=some (.cells cs t fr))
  (hu:P.underlying ty=some d) (hd:(match d with| .struct _| .array _ _=>true|_=>false)=true) (hi:(P.info? ty).map (·.size)=some cs.size):
  (results fn tmps).run P w= .ok (.tuple #[.agg cs,tmps.getD u undef,tmps.getD v undef]) w:=by
 have hp':tmps[p]?.getD undef= .pointer (some ⟨g,0,none⟩):=by simpa using hp
 simp[results,h,hp',asAddr,run_loadVar_row w g t ty cs fr d hg hu hd hi]
end
theorem own_le{w:World}{base n m c size:Nat}{e:TypeId}{A:Option Addr}{xs:List Value}(h:w.ownsRow base e size (.slice A m c) n xs):m≤c:=by
 rcases h.2 with ⟨he,_⟩|⟨g,cap,cur,he,_,_,hnc,_⟩
 ·injection he with _ h2 h3
  omega
 ·injection he with _ h2 h3
  omega
def OwnRow{α:Type}(R:α→List Value→Prop)(e:TypeId)(size:Nat)(w:World)(base:Nat)(v:Value)(ps:List α):Prop:=
 ∃inner,w.ownsRow base e size v ps.length inner∧Reps R size ps inner
section
variable {α:Type} {R R':α→List Value→Prop} {e:TypeId} {size:Nat} {w w1:World} {base:Nat} {v:Value} {ps:List α}
theorem OwnRow.none_(R:α→List Value→Prop)(e:TypeId)(size:Nat)(w:World)(base:Nat):OwnRow R e size w base (.slice none 0 0) []:=⟨[],own_nil _ _ _ _,Reps.none _ _⟩
theorem OwnRow.imp_(h:OwnRow R e size w base v ps)(hR:∀p c,R p c→R' p c):OwnRow R' e size w base v ps:=by
 obtain⟨inner,ho,hr⟩:=h;exact⟨inner,ho,hr.imp_ hR⟩
theorem OwnRow.reads(h:OwnRow R e size w base v ps):∃A c,v= .slice A ps.length c∧ps.length≤c∧ReadsRow R size w A ps.length ps:=by
 obtain⟨inner,ho,hr⟩:=h;obtain⟨A,c,rfl,hrow⟩:=own_reads_row ho hr rfl;exact⟨A,c,rfl,own_le ho,hrow⟩
theorem OwnRow.ne_block(h:OwnRow R e size w base v ps){g:Nat}{t:TypeId}{cells:Array Value}(hb:w.heap[g]?=some (.cells cells t (0,0)))(ht:e≠t):some g≠v.ownBlock:=by
 obtain⟨inner,ho,hr⟩:=h;exact own_ne ho hb ht
end
theorem ReadsRow.inner_{α:Type}{R:α→List Value→Prop}{size:Nat}{w:World}{ad:Addr}{n:Nat}{ps:List α}(h:ReadsRow R size w (some ad) n ps):
  ∃inner,Reps R size ps inner∧∀j u,inner[j]?=some u→w.cell? (ad.add j)=some u:=by
 have key:∀m,m≤ps.length→∃inner,Reps R size (ps.take m) inner∧∀j u,inner[j]?=some u→w.cell? (ad.add j)=some u:=by
  intro m
  induction m with
  |zero=>exact fun _=>⟨[],Reps.none _ _,fun j u hu=>by simp at hu⟩
  |succ m ih=>
   intro hm;obtain⟨inner,hr,hc⟩:=ih (by omega);obtain⟨ad',he,hcell⟩:=h.2.2 (by have:=h.1;omega);injection he with he
   subst he;obtain⟨c,hcl,hp,hcc⟩:=hcell m _ (List.getElem?_eq_getElem (show m<ps.length by omega));refine⟨inner++c,?_,fun j u hu=>?_⟩
   ·rw[List.take_succ_eq_append_getElem (show m<ps.length by omega)];exact hr.snoc hp hcl
   ·have hil:inner.length=m*size:=by rw[hr.1,List.length_take,Nat.min_eq_left (by omega)]
    rcases Nat.lt_or_ge j inner.length with hj|hj
    ·rw[List.getElem?_append_left hj] at hu;exact hc j u hu
    ·rw[List.getElem?_append_right hj] at hu;have:=hcc (j - inner.length) u hu
     rwa [hil,Nat.add_sub_cancel' (by omega)] at this
 obtain⟨inner,hr,hc⟩:=key ps.length (Nat.le_refl _);rw[List.take_length] at hr;exact⟨inner,hr,hc⟩
section
variable {α:Type} {P:Program}
theorem print_drop_of(enc:α→Value)(d:α)(t e:TypeId)(kl:IntKind){i:TypeInfo}(ht:P.underlying t=some (.slice e))(hi:P.info? e=some i)(hsz:i.size=1)(A:Option Addr)(c:Nat)(xs:List α)(j:Int)(h0:0≤j)(hm:j≤xs.length)(hc:xs.length≤c):
  ∃A':Option Addr,(∀W:World,(Instr.slice t (.slice A xs.length c) (some (.int kl j)) none none).run P W= .ok (.slice A' (xs.drop j.toNat).length (c - j.toNat)) W)∧
   (∀w:World,ReadsOf enc d w A xs.length xs→ReadsOf enc d w A' (xs.drop j.toNat).length (xs.drop j.toNat))∧(xs.drop j.toNat).length≤c - j.toNat:=by
 obtain⟨m,rfl⟩:=Int.eq_ofNat_of_zero_le h0;simp only[Int.toNat_natCast];have hmn:m≤xs.length:=by omega
 obtain⟨A',h1,h2⟩:=print_cut_of (P:=P) enc d t e kl ht hi hsz A xs.length c m hmn;have hl:(xs.drop m).length=xs.length - m:=List.length_drop;exact⟨A',fun W=>by rw[hl];exact h1 W,fun w h=>by rw[hl];exact h2 w xs hc h,by rw[hl];omega⟩
end
structure Kd(α:Type) where
 sz:Nat
 E:List Nat
 K:World→α→List Value→Prop
 M:World→Nat→(Nat→Prop)→α→List Value→Prop
 K_len:∀ {w x cs},K w x cs→cs.length=sz
 K_one:∀ {w x cs},K w x cs→∀u∈cs,u.oneCell'=true
 K_below:∀ {w w1:World} {x cs},Below w.heap.size w w1→K w x cs→K w1 x cs
 K_of_M:∀ {w base ok x cs},M w base ok x cs→K w x cs
 M_mono:∀ {w base ok ok' x cs},(∀k,ok k→ok' k)→M w base ok x cs→M w base ok' x cs
 M_bound:∀ {w:World} {base ok x cs},M w base ok x cs→M w base (fun k=>ok k∧base≤k∧k<w.heap.size∧∃q,q∈E∧∃cells,w.heap[k]?=some (.cells cells q (0,0))) x cs
 M_move:∀ {w w1:World} {base ok x cs},(∀k,ok k→w1.heap[k]?=w.heap[k]?)→M w base ok x cs→M w1 base ok x cs
 M_lower:∀ {w base base' ok x cs},base'≤base→M w base ok x cs→M w base' ok x cs
theorem own_move{w w1:World}{base:Nat}{e:TypeId}{size n:Nat}{v:Value}{xs:List Value}(h:w.ownsRow base e size v n xs)(hm:∀k,v.ownBlock=some k→w1.heap[k]?=w.heap[k]?):w1.ownsRow base e size v n xs:=by
 obtain⟨h1,h2⟩:=h;refine⟨h1,?_⟩
 rcases h2 with h2|⟨g,cap,cur,rfl,hg,hh,r⟩
 ·exact .inl h2
 ·exact .inr ⟨g,cap,cur,rfl,hg,(hm g (by simp[Value.ownBlock])).trans hh,r⟩
theorem own_typed{w:World}{base:Nat}{e:TypeId}{size n:Nat}{v:Value}{xs:List Value}(h:w.ownsRow base e size v n xs)(k:Nat)(hk:v.ownBlock=some k):∃cells,w.heap[k]?=some (.cells cells e (0,0)):=by
 rcases h.2 with ⟨rfl,_⟩|⟨g,cap,cur,rfl,hg,hh,r⟩
 ·simp[Value.ownBlock] at hk
 ·have:g=k:=by simpa [Value.ownBlock] using hk
  subst this;exact⟨cur,hh⟩
namespace Kd
def C{α:Type}(d:Kd α)(w:World)(A:Option Addr)(n:Nat)(xs:List α):Prop:=ReadsRow (d.K w) d.sz w A n xs
def R{α:Type}(d:Kd α)(e:Nat)(w:World)(base:Nat)(ok:Nat→Prop)(v:Value)(xs:List α):Prop:=
 (∀k,v.ownBlock=some k→ok k)∧OwnRow (d.M w base (fun k=>ok k∧some k≠v.ownBlock)) e d.sz w base v xs
section
variable {α:Type} {d:Kd α} {e:Nat} {w w1:World} {base:Nat} {ok ok':Nat→Prop} {v:Value} {xs:List α}
theorem C_below{A:Option Addr}{n:Nat}(h:d.C w A n xs)(hb:Below w.heap.size w w1):d.C w1 A n xs:=ReadsRow.imp_ h hb (fun _ _ hp=>d.K_below hb hp)
theorem R_nil(d:Kd α)(e:Nat)(w:World)(base:Nat)(ok:Nat→Prop):d.R e w base ok (.slice none 0 0) []:=⟨fun k hk=>by simp[Value.ownBlock] at hk,OwnRow.none_ _ _ _ _ _⟩
theorem R_mono(h:d.R e w base ok v xs)(hok:∀k,ok k→ok' k):d.R e w base ok' v xs:=⟨fun k hk=>hok k (h.1 k hk),h.2.imp_ (fun _ _ hp=>d.M_mono (fun k hk=>⟨hok k hk.1,hk.2⟩) hp)⟩
theorem R_bound(h:d.R e w base ok v xs):d.R e w base (fun k=>ok k∧base≤k∧k<w.heap.size∧∃q,q∈e::d.E∧∃cells,w.heap[k]?=some (.cells cells q (0,0))) v xs:=by
 obtain⟨h0,inner,ho,hr⟩:=h;refine⟨fun k hk=>?_,inner,ho,hr.imp_ (fun _ _ hp=>d.M_mono (fun k hk=>?_) (d.M_bound hp))⟩
 ·obtain⟨cells,hc⟩:=own_typed ho k hk;exact⟨h0 k hk,own_base ho k hk,own_lt ho k hk,e,List.mem_cons_self,cells,hc⟩
 ·obtain⟨⟨h1,h2⟩,h3,h4,q,hq,hc⟩:=hk;exact⟨⟨h1,h3,h4,q,List.mem_cons_of_mem _ hq,hc⟩,h2⟩
theorem R_move(h:d.R e w base ok v xs)(hm:∀k,ok k→w1.heap[k]?=w.heap[k]?):d.R e w1 base ok v xs:=by
 obtain⟨h0,inner,ho,hr⟩:=h;exact⟨h0,inner,own_move ho (fun k hk=>hm k (h0 k hk)),hr.imp_ (fun _ _ hp=>d.M_move (fun k hk=>hm k hk.1) hp)⟩
theorem R_lower{base':Nat}(h:d.R e w base ok v xs)(hb:base'≤base):d.R e w base' ok v xs:=by
 obtain⟨h0,inner,ho,hr⟩:=h;exact⟨h0,inner,own_weaken ho hb,hr.imp_ (fun _ _ hp=>d.M_lower hb hp)⟩
theorem R_step(h:d.R e w base ok v xs)(hm:∀k,ok k→k<w.heap.size→w1.heap[k]?=w.heap[k]?):d.R e w1 base ok v xs:=
 R_mono (R_move (R_bound h) (fun k hk=>hm k hk.1 hk.2.2.1)) (fun _ hk=>hk.1)
theorem M_step{x:α}{cs:List Value}(h:d.M w base ok x cs)(hm:∀k,ok k→k<w.heap.size→w1.heap[k]?=w.heap[k]?):d.M w1 base ok x cs:=
 d.M_mono (fun _ hk=>hk.1) (d.M_move (fun k hk=>hm k hk.1 hk.2.2.1) (d.M_bound h))
theorem R_below(h:d.R e w base ok v xs)(hb:Below w.heap.size w w1):d.R e w1 base ok v xs:=R_step h (fun k _ hk=>hb.block k hk)
theorem M_below{x:α}{cs:List Value}(h:d.M w base ok x cs)(hb:Below w.heap.size w w1):d.M w1 base ok x cs:=M_step h (fun k _ hk=>hb.block k hk)
theorem R_grown(h:d.R e w base ok v xs){row:Option Nat}(hg:w.grownBy w1 row)(hok:∀k,ok k→some k≠row):d.R e w1 base ok v xs:=R_step h (fun k ho hk=>hg.block k hk (hok k ho))
theorem R_far(h:d.R e w base ok v xs){p:Addr}(hok:∀k,ok k→k≠p.block)(u:Value):d.R e (w.setCell p u) base ok v xs:=R_step h (fun k ho _=>Below.heap_setCell w p u k (hok k ho))
theorem R_types(h:d.R e w base ok v xs){g t:Nat}{cells:Array Value}(hb:w.heap[g]?=some (.cells cells t (0,0)))(ht:∀q,q∈e::d.E→q≠t):d.R e w base (fun k=>ok k∧k≠g) v xs:=
 R_mono (R_bound h) (fun k hk=>⟨hk.1,by
  obtain⟨_,_,_,q,hq,cells',hc⟩:=hk;rintro rfl;rw[hc] at hb;injection hb with hb
  injection hb with _ hb
  exact ht q hq hb⟩)
theorem R_reads(h:d.R e w base ok v xs):∃A c,v= .slice A xs.length c∧xs.length≤c∧d.C w A xs.length xs:=by
 obtain⟨A,c,he,hl,hr⟩:=OwnRow.reads h.2;exact⟨A,c,he,hl,hr.imp_ (Below.refl _ _) (fun _ _ hp=>d.K_of_M hp)⟩
theorem R_slice(h:d.R e w base ok v xs):∃A c,v= .slice A xs.length c:=by
 obtain⟨A,c,he,_⟩:=R_reads h;exact⟨A,c,he⟩
theorem R_own(h:d.R e w base ok v xs):∃inner,w.ownsRow base e d.sz v xs.length inner:=by
 obtain⟨_,inner,ho,_⟩:=h;exact⟨inner,ho⟩
theorem R_ne(h:d.R e w base ok v xs){g t:Nat}{cells:Array Value}(hb:w.heap[g]?=some (.cells cells t (0,0)))(ht:e≠t):some g≠v.ownBlock:=OwnRow.ne_block h.2 hb ht
end
def scalar{α:Type}(enc:α→Value)(h1:∀x,(enc x).oneCell'=true):Kd α where
 sz:=1
 E:= []
 K:=fun _ x cs=>cs= [enc x]
 M:=fun _ _ _ x cs=>cs= [enc x]
 K_len:=fun h=>by rw[h];rfl
 K_one:=fun h u hu=>by
  rw[h] at hu;rw[List.mem_singleton.1 hu];exact h1 _
 K_below:=fun _ h=>h
 K_of_M:=fun h=>h
 M_mono:=fun _ h=>h
 M_bound:=fun h=>h
 M_move:=fun _ h=>h
 M_lower:=fun _ h=>h
def int(k:IntKind):Kd Int:=scalar (Value.int k) (fun _=>rfl)
def string:Kd ByteArray:=scalar Value.string (fun _=>rfl)
def slice{α:Type}(e:Nat)(d:Kd α):Kd (List α) where
 sz:=1
 E:=e::d.E
 K:=fun w xs cs=>∃A c,cs= [.slice A xs.length c]∧xs.length≤c∧d.C w A xs.length xs
 M:=fun w base ok xs cs=>∃v,cs= [v]∧d.R e w base ok v xs
 K_len:=by
  rintro w x cs ⟨A,c,rfl,_⟩;rfl
 K_one:=by
  rintro w x cs ⟨A,c,rfl,_⟩ u hu;rw[List.mem_singleton.1 hu];rfl
 K_below:=by
  rintro w w1 x cs hb ⟨A,c,rfl,hl,hr⟩;exact⟨A,c,rfl,hl,C_below hr hb⟩
 K_of_M:=by
  rintro w base ok x cs ⟨v,rfl,h⟩;obtain⟨A,c,rfl,hl,hr⟩:=R_reads h;exact⟨A,c,rfl,hl,hr⟩
 M_mono:=by
  rintro w base ok ok' x cs hok ⟨v,rfl,h⟩;exact⟨v,rfl,R_mono h hok⟩
 M_bound:=by
  rintro w base ok x cs ⟨v,rfl,h⟩;exact⟨v,rfl,R_bound h⟩
 M_move:=by
  rintro w w1 base ok x cs hm ⟨v,rfl,h⟩;exact⟨v,rfl,R_move h hm⟩
 M_lower:=by
  rintro w base base' ok x cs hb ⟨v,rfl,h⟩;exact⟨v,rfl,R_lower h hb⟩
def pair{α β:Type}(a:Kd α)(b:Kd β):Kd (α×β) where
 sz:=a.sz+b.sz
 E:=a.E++b.E
 K:=fun w x cs=>∃c0 c1,cs=c0++c1∧a.K w x.1 c0∧b.K w x.2 c1
 M:=fun w base ok x cs=>∃c0 c1,cs=c0++c1∧a.M w base ok x.1 c0∧b.M w base ok x.2 c1
 K_len:=by
  rintro w x cs ⟨c0,c1,rfl,h0,h1⟩;rw[List.length_append,a.K_len h0,b.K_len h1]
 K_one:=by
  rintro w x cs ⟨c0,c1,rfl,h0,h1⟩ u hu
  rcases List.mem_append.1 hu with hu|hu
  ·exact a.K_one h0 u hu
  ·exact b.K_one h1 u hu
 K_below:=by
  rintro w w1 x cs hb ⟨c0,c1,rfl,h0,h1⟩;exact⟨c0,c1,rfl,a.K_below hb h0,b.K_below hb h1⟩
 K_of_M:=by
  rintro w base ok x cs ⟨c0,c1,rfl,h0,h1⟩;exact⟨c0,c1,rfl,a.K_of_M h0,b.K_of_M h1⟩
 M_mono:=by
  rintro w base ok ok' x cs hok ⟨c0,c1,rfl,h0,h1⟩;exact⟨c0,c1,rfl,a.M_mono hok h0,b.M_mono hok h1⟩
 M_bound:=by
  rintro w base ok x cs ⟨c0,c1,rfl,h0,h1⟩;refine⟨c0,c1,rfl,a.M_mono ?_ (a.M_bound h0),b.M_mono ?_ (b.M_bound h1)⟩
  ·rintro k ⟨h2,h3,h4,q,hq,hc⟩;exact⟨h2,h3,h4,q,List.mem_append_left _ hq,hc⟩
  ·rintro k ⟨h2,h3,h4,q,hq,hc⟩;exact⟨h2,h3,h4,q,List.mem_append_right _ hq,hc⟩
 M_move:=by
  rintro w w1 base ok x cs hm ⟨c0,c1,rfl,h0,h1⟩;exact⟨c0,c1,rfl,a.M_move hm h0,b.M_move hm h1⟩
 M_lower:=by
  rintro w base base' ok x cs hb ⟨c0,c1,rfl,h0,h1⟩;exact⟨c0,c1,rfl,a.M_lower hb h0,b.M_lower hb h1⟩
def iso{α β:Type}(d:Kd α)(f:β→α):Kd β where
 sz:=d.sz
 E:=d.E
 K:=fun w x cs=>d.K w (f x) cs
 M:=fun w base ok x cs=>d.M w base ok (f x) cs
 K_len:=d.K_len
 K_one:=d.K_one
 K_below:=d.K_below
 K_of_M:=d.K_of_M
 M_mono:=d.M_mono
 M_bound:=d.M_bound
 M_move:=d.M_move
 M_lower:=d.M_lower
def bot{α:Type}(sz:Nat)(E:List Nat):Kd α where
 sz:=sz
 E:=E
 K:=fun _ _ _=>False
 M:=fun _ _ _ _ _=>False
 K_len:=fun h=>h.elim
 K_one:=fun h=>h.elim
 K_below:=fun _ h=>h
 K_of_M:=fun h=>h
 M_mono:=fun _ h=>h
 M_bound:=fun h=>h
 M_move:=fun _ h=>h
 M_lower:=fun _ h=>h
def upto{α:Type}(F:Kd α→Kd α)(sz:Nat)(E:List Nat):Nat→Kd α
 |0=>bot sz E
 |n+1=>F (upto F sz E n)
theorem C_get{α:Type}{d:Kd α}{w:World}{A:Option Addr}{n:Nat}{xs:List α}(h:d.C w A n xs)(z:α)(i:Int)(h0:0≤i)(h1:i<n):
  ∃ad c,A=some ad∧c.length=d.sz∧d.K w (xs.getD i.toNat z) c∧∀j u,c[j]?=some u→w.cell? (ad.add (i.toNat*d.sz+j))=some u:=ReadsRow.get_ h z i h0 h1
theorem R_appended{α:Type}{d:Kd α}{e base:Nat}{ok okp:Nat→Prop}{W w1:World}{v v1:Value}{xs:List α}{p:α}{inner cs:List Value}(h0:∀k,v.ownBlock=some k→ok k)(hr:Reps (d.M W base (fun k=>ok k∧some k≠v.ownBlock)) d.sz xs inner)(hp:d.M W base okp p cs)(hokp:∀k,okp k→ok k∧some k≠v.ownBlock)(hfresh:∀k,W.heap.size≤k→ok k)
  (hown:w1.ownsRow base e d.sz v1 (xs.length+1) (inner++cs)) (hg:W.grownBy w1 v.ownBlock) (hat:v1.ownBlock=v.ownBlock∨∃b,v1.ownBlock=some b∧W.heap.size≤b):d.R e w1 base ok v1 (xs++ [p]):=by
 have hne:∀k,some k≠v.ownBlock→k<W.heap.size→some k≠v1.ownBlock:=by
  intro k hk hlt
  rcases hat with hat|⟨b,hb,hle⟩
  ·rw[hat];exact hk
  ·rw[hb];intro he;injection he with he
   omega
 have step:∀ {q:α} {c:List Value} {o:Nat→Prop},d.M W base o q c→(∀k,o k→ok k∧some k≠v.ownBlock)→d.M w1 base (fun k=>ok k∧some k≠v1.ownBlock) q c:=by
  intro q c o hq ho;have h1:=d.M_move (w1:=w1) (fun k hk=>hg.block k hk.2.2.1 (ho k hk.1).2) (d.M_bound hq);exact d.M_mono (fun k hk=>⟨(ho k hk.1).1,hne k (ho k hk.1).2 hk.2.2.1⟩) h1
 refine⟨fun k hk=>?_,inner++cs,by rw[List.length_append,List.length_singleton];exact hown,?_⟩
 ·rcases hat with hat|⟨b,hb,hle⟩
  ·exact h0 k (hat▸hk)
  ·rw[hb] at hk;injection hk with hk
   exact hfresh k (by omega)
 ·exact(hr.imp_ (fun _ _ hq=>step hq (fun _ hk=>hk))).snoc (step hp hokp) (d.K_len (d.K_of_M hp))
section
variable {P:Program} {ops:Array Oper} {rest:List Oper} {o:Oper} {a:Act} {Q:Exit→Act→World→Prop} {α:Type}
theorem R_append(d:Kd α){w0 W:World}(base:Nat)(hgd:o.guard=none)(s x:Operand)(t e:TypeId)(z:Value)(bytes:Nat)
  (ho:o.op= .call { callee:= .builtin .append,args:= #[s,x],argTypes:= #[t,t] })
  (ht:P.underlying t=some (.slice e)) (hinfo:(P.info? e).map (fun i=>(i.zero,i.size,i.bytes))=some (some z,d.sz,bytes)) (hz:z.cells.size=d.sz) (hs0:0<d.sz) (hb0:0<bytes)
  (v:Value) (xs:List α) (p:α) (cs:List Value) (ok okp:Nat→Prop) (hs:a.eval s=v) (hx:a.eval x= .slice (some ⟨W.heap.size,0,none⟩) 1 1) (hp:d.M W base okp p cs) (hokp:∀k,okp k→ok k∧some k≠v.ownBlock) (hfresh:∀k,W.heap.size≤k→ok k)
  (HO:d.R e W base ok v xs) (HB:Below base w0 W) (hbase:base≤W.heap.size) (hl:(xs.length+1)*bytes≤140737488355328)
  (h:∀v1 w1,d.R e w1 base ok v1 (xs++ [p])→Below base w0 w1→W.grownBy w1 v.ownBlock→(v1.ownBlock=v.ownBlock∨∃b,v1.ownBlock=some b∧W.heap.size≤b)→wpList P ops Q rest (a.put o.dst v1) w1):
  wpList P ops Q (o::rest) a (W.alloc (.cells cs.toArray e)):=by
 obtain⟨h0,inner,hown,hr⟩:=HO;refine print_append_cells base hgd s x t e z d.sz bytes ho ht hinfo hz hs0 hb0 v xs.length inner cs hs hx (d.K_len (d.K_of_M hp)) (d.K_one (d.K_of_M hp)) hown HB hbase hl ?_;intro v1 w1 hown1 hb1 hg1 wm;exact h v1 w1 (R_appended h0 hr hp hokp hfresh hown1 hg1 wm) hb1 hg1 wm
end
section
variable {P:Program} {ops:Array Oper} {o:Oper} {a:Act} {Q:Exit→Act→World→Prop} {Kc:Act→World→Prop} {α:Type}
theorem R_append_step(d:Kd α){w0 W:World}(base:Nat)(hw:Region.wanted o (yielded ops a.tmps)=true)(s x:Operand)(t e:TypeId)(z:Value)(bytes:Nat)
  (ho:o.op= .call { callee:= .builtin .append,args:= #[s,x],argTypes:= #[t,t] })
  (ht:P.underlying t=some (.slice e)) (hinfo:(P.info? e).map (fun i=>(i.zero,i.size,i.bytes))=some (some z,d.sz,bytes)) (hz:z.cells.size=d.sz) (hs0:0<d.sz) (hb0:0<bytes)
  (v:Value) (xs:List α) (p:α) (cs:List Value) (ok okp:Nat→Prop) (hs:a.eval s=v) (hx:a.eval x= .slice (some ⟨W.heap.size,0,none⟩) 1 1) (hp:d.M W base okp p cs) (hokp:∀k,okp k→ok k∧some k≠v.ownBlock) (hfresh:∀k,W.heap.size≤k→ok k)
  (HO:d.R e W base ok v xs) (HB:Below base w0 W) (hbase:base≤W.heap.size) (hl:(xs.length+1)*bytes≤140737488355328)
  (h:∀v1 w1,d.R e w1 base ok v1 (xs++ [p])→Below base w0 w1→W.grownBy w1 v.ownBlock→(v1.ownBlock=v.ownBlock∨∃b,v1.ownBlock=some b∧W.heap.size≤b)→Kc (a.put o.dst v1) w1):
  if Region.wanted o (yielded ops a.tmps)=true then Oper.wp P o a (W.alloc (.cells cs.toArray e)) Kc Q else Kc (a.put o.dst undef) (W.alloc (.cells cs.toArray e)):=by
 obtain⟨h0,inner,hown,hr⟩:=HO;refine step_append_cells base hw s x t e z d.sz bytes ho ht hinfo hz hs0 hb0 v xs.length inner cs hs hx (d.K_len (d.K_of_M hp)) (d.K_one (d.K_of_M hp)) hown HB hbase hl ?_;intro v1 w1 hown1 hb1 hg1 wm;exact h v1 w1 (R_appended h0 hr hp hokp hfresh hown1 hg1 wm) hb1 hg1 wm
end
theorem reps_scalar{α:Type}{enc:α→Value}(xs:List α):Reps (fun(x:α) (cs:List Value)=>cs= [enc x]) 1 xs (encs enc xs):=by
 refine⟨by simp[encs],fun j p hj=>?_⟩;obtain⟨hl,hp⟩:=List.getElem?_eq_some_iff.1 hj;have hl':j<(encs enc xs).length:=by rw[encs_length];exact hl
 rw[Nat.mul_one,List.drop_eq_getElem_cons hl'];simp[encs,hp]
theorem R_of_own{α:Type}{enc:α→Value}{h1:∀x,(enc x).oneCell'=true}{e:Nat}{w:World}{base:Nat}{ok:Nat→Prop}{v:Value}{xs:List α}(ho:w.ownsRow base e 1 v xs.length (encs enc xs))(hok:∀k,v.ownBlock=some k→ok k):(scalar enc h1).R e w base ok v xs:=⟨hok,encs enc xs,ho,reps_scalar xs⟩
theorem own_of_R{α:Type}{enc:α→Value}{h1:∀x,(enc x).oneCell'=true}{e:Nat}{w:World}{base:Nat}{ok:Nat→Prop}{v:Value}{xs:List α}(h:(scalar enc h1).R e w base ok v xs):w.ownsRow base e 1 v xs.length (encs enc xs):=by
 obtain⟨_,inner,ho,hr⟩:=h
 have:inner=encs enc xs:=by
  apply List.ext_getElem?;intro j
  rcases Nat.lt_or_ge j xs.length with hj|hj
  ·have h2:=hr.2 j _ (List.getElem?_eq_getElem hj);have hl:j<inner.length:=by have:=hr.1;simp[scalar] at this;omega
   have h3:(inner.drop (j*1)).take 1= [enc xs[j]]:=h2;rw[Nat.mul_one,List.drop_eq_getElem_cons hl] at h3
   have h4:inner[j]=enc xs[j]:=by
    have h5:=congrArg List.head? h3;rw[List.take_succ_cons] at h5;exact Option.some.inj h5
   rw[List.getElem?_eq_getElem hl,h4];simp[encs,List.getElem?_eq_getElem hj]
  ·have h3:inner.length=xs.length:=by have:=hr.1;simp[scalar] at this;omega
   rw[List.getElem?_eq_none (by omega),List.getElem?_eq_none (by rw[encs_length];omega)]
 rw[←this];exact ho
theorem C_of_reads{α:Type}{enc:α→Value}{d:α}{h1:∀x,(enc x).oneCell'=true}{w:World}{A:Option Addr}{n:Nat}{xs:List α}(h:ReadsOf enc d w A n xs):(scalar enc h1).C w A n xs:=by
 refine⟨h.1,h.2.1,fun hn=>?_⟩;obtain⟨ad,e,hc⟩:=h.2.2 hn;refine⟨ad,e,fun j p hj=>⟨[enc p],rfl,rfl,fun i u hu=>?_⟩⟩;obtain⟨hl,hp⟩:=List.getElem?_eq_some_iff.1 hj;have h2:=hc j (by have:=h.1;omega);rw[List.getD_eq_getElem?_getD,hj] at h2
 cases i with
 |zero=>
  have:enc p=u:=by simpa using hu
  subst this
  simpa [scalar] using h2
 |succ i=>simp at hu
theorem reads_of_C{α:Type}{enc:α→Value}{d:α}{h1:∀x,(enc x).oneCell'=true}{w:World}{A:Option Addr}{n:Nat}{xs:List α}(h:(scalar enc h1).C w A n xs):ReadsOf enc d w A n xs:=by
 refine⟨h.1,h.2.1,fun hn=>?_⟩;obtain⟨ad,e,hc⟩:=h.2.2 hn;refine⟨ad,e,fun j hj=>?_⟩;have hl:j<xs.length:=by have:=h.1;omega
 obtain⟨c,_,hK,hcell⟩:=hc j _ (List.getElem?_eq_getElem hl);have hK':c= [enc xs[j]]:=hK;subst hK';have:=hcell 0 _ rfl
 simpa [scalar,List.getD_eq_getElem?_getD,List.getElem?_eq_getElem hl] using this
end Kd
namespace Kd
end Kd
namespace Kd
theorem R_after{α:Type}{d:Kd α}{e base:Nat}{ok:Nat→Prop}{W w1:World}{u v v1:Value}{xs:List α}(h:d.R e W base (fun k=>ok k∧some k≠v.ownBlock) u xs)(hg:W.grownBy w1 v.ownBlock)(hat:v1.ownBlock=v.ownBlock∨∃b,v1.ownBlock=some b∧W.heap.size≤b):d.R e w1 base (fun k=>ok k∧some k≠v1.ownBlock) u xs:=by
 refine R_mono (R_move (R_bound h) (fun k hk=>hg.block k hk.2.2.1 hk.1.2)) (fun k hk=>⟨hk.1.1,?_⟩)
 rcases hat with hat|⟨b,hb,hle⟩
 ·rw[hat];exact hk.1.2
 ·rw[hb];intro he;injection he with he
  have:=hk.2.2.1;omega
theorem M_row{α:Type}{d:Kd α}{e base:Nat}{ok:Nat→Prop}{w:World}{v:Value}{xs:List α}(h:d.R e w base ok v xs):(slice e d).M w base ok xs [v]:=⟨v,rfl,h⟩
end Kd
namespace Kd
section
variable {α β:Type} {d:Kd α} {d':Kd β} {e e':Nat} {w w1 W:World} {base b b':Nat} {ok ok' okv oku:Nat→Prop} {v u:Value} {xs:List α} {ys:List β}
theorem R_alloc(h:d.R e w base ok v xs)(o:Obj):d.R e (w.alloc o) base ok v xs:=R_below h (below_alloc (Below.refl _ _) o)
theorem R_drew(h:d.R e w base ok v xs):d.R e w.drew base ok v xs:=R_below h (below_drew (Below.refl _ _))
theorem R_drewN(h:d.R e w base ok v xs)(m:Nat):d.R e (w.drewN m) base ok v xs:=R_below h (pw_below_drewN (Below.refl _ _) m)
theorem C_drew{A:Option Addr}{n:Nat}(h:d.C w A n xs):d.C w.drew A n xs:=C_below h (below_drew (Below.refl _ _))
theorem C_drewN{A:Option Addr}{n:Nat}(h:d.C w A n xs)(m:Nat):d.C (w.drewN m) A n xs:=C_below h (pw_below_drewN (Below.refl _ _) m)
theorem R_reads'{A:Option Addr}{n c:Nat}(h:d.R e w base ok (.slice A n c) xs):n=xs.length∧n≤c∧d.C w A xs.length xs:=by
 obtain⟨A',c',he,hl,hr⟩:=R_reads h;injection he with h1 h2 h3
 subst h1;exact⟨h2,by omega,hr⟩
theorem R_lt(h:d.R e w base ok v xs):∀k,v.ownBlock=some k→k<w.heap.size:=by
 obtain⟨inner,ho⟩:=R_own h;exact own_lt ho
theorem R_base(h:d.R e w base ok v xs):∀k,v.ownBlock=some k→base≤k:=by
 obtain⟨inner,ho⟩:=R_own h;exact own_base ho
theorem R_away(h:d.R e w base ok v xs){g:Nat}(hok:∀k,ok k→k≠g):some g≠v.ownBlock:=fun e=>hok g (h.1 g e.symm) rfl
theorem R_form(h:d.R e w base ok v xs)(hp:0<xs.length):∃g cap,v= .slice (some ⟨g,0,none⟩) xs.length cap∧base≤g∧g<w.heap.size∧∃cells,w.heap[g]?=some (.cells cells e (0,0)):=by
 obtain⟨inner,ho⟩:=R_own h;obtain⟨g,cap,he,hb,hl⟩:=ho.form hp;obtain⟨cells,hc⟩:=own_typed ho g (by rw[he];simp[Value.ownBlock]);exact⟨g,cap,he,hb,hl,cells,hc⟩
end
section
variable {w W:World} {A:Option Addr} {n:Nat}
theorem at_int{k:IntKind}{xs:List Int}(h:(Kd.int k).C w A n xs)(i:Int)(h0:0≤i)(h1:i<n):∃ad,A=some ad∧w.cell? (ad.add i.toNat)=some (.int k (rd xs i)):=
 ReadsOf.at_ (reads_of_C (enc:=Value.int k) (d:=(0:Int)) (h1:=fun _=>rfl) h) i h0 h1
theorem at_string{xs:List ByteArray}(h:Kd.string.C w A n xs)(i:Int)(h0:0≤i)(h1:i<n):∃ad,A=some ad∧w.cell? (ad.add i.toNat)=some (.string (rdOf ByteArray.empty xs i)):=
 ReadsOf.at_ (reads_of_C (enc:=Value.string) (d:=ByteArray.empty) (h1:=fun _=>rfl) h) i h0 h1
variable {α:Type} {enc:α→Value} {h1:∀x,(enc x).oneCell'=true} {e base g cap:Nat} {ok:Nat→Prop} {xs:List α}
theorem R_cell(d:α)(h:(scalar enc h1).R e W base ok (.slice (some ⟨g,0,none⟩) xs.length cap) xs)(i:Int)(h0:0≤i)(hi:i<xs.length):W.cell? ⟨g,i.toNat,none⟩=some (enc (rdOf d xs i))∧W.frozen? ⟨g,i.toNat,none⟩=false:=own_at_of (own_of_R h) i h0 hi
theorem R_put(h:(scalar enc h1).R e W base ok (.slice (some ⟨g,0,none⟩) xs.length cap) xs)(i:Int)(x:α):(scalar enc h1).R e (W.setCell ⟨g,i.toNat,none⟩ (enc x)) base ok (.slice (some ⟨g,0,none⟩) xs.length cap) (xs.set i.toNat x)∧W.grownBy (W.setCell ⟨g,i.toNat,none⟩ (enc x)) (some g):=by
 obtain⟨ho,hg⟩:=own_store_of (own_of_R h) i x;exact⟨R_of_own (by rw[List.length_set];exact ho) h.1,hg⟩
end
section
variable {P:Program} {ops:Array Oper} {rest:List Oper} {o:Oper} {a:Act} {Q:Exit→Act→World→Prop}
theorem event_run{W w1:World}{v:Value}(hgd:o.guard=none)(hrun:(execOp a.eval o).run P W= .ok (.value v) w1)(h:wpList P ops Q rest (a.put o.dst v) w1):wpList P ops Q (o::rest) a W:=by
 refine wpList_plain hgd fun K hK=>?_
 unfold Oper.wp;rw[hrun];exact hK _ _ h
variable {α:Type}
theorem R_lit(d:Kd α){w0 W:World}(base e:Nat)(hgd:o.guard=none){N:Tmp}(_hd:o.dst=some N){xs:List α}{inner:List Value}{ok okp:Nat→Prop}
  (hrun:(execOp a.eval o).run P W= .ok (.value (.slice (some ⟨W.heap.size,0,none⟩) xs.length xs.length)) (W.alloc (.cells inner.toArray e)))
  (hrep:Reps (d.M W base okp) d.sz xs inner) (hok:∀k,okp k→ok k) (hfresh:ok W.heap.size) (HB:Below base w0 W) (hbase:base≤W.heap.size) (hm:xs.length≤9223372036854775807)
  (h:∀v1 w1,d.R e w1 base ok v1 xs→Below base w0 w1→W.grownBy w1 none→(∃b,v1.ownBlock=some b∧W.heap.size≤b)→wpList P ops Q rest (a.put o.dst v1) w1):wpList P ops Q (o::rest) a W:=by
 refine event_run hgd hrun (h _ _ ⟨fun k hk=>?_,inner,?_,?_⟩ (HB.alloc hbase _) (World.grownBy_alloc W _ none) ⟨W.heap.size,by simp[Value.ownBlock],Nat.le_refl _⟩)
 ·have:W.heap.size=k:=by simpa [Value.ownBlock] using hk
  subst this;exact hfresh
 ·have h2:=World.ownsRow_lit (base:=base) (e:=e) (size:=d.sz) W inner.toArray xs.length hbase (by simpa [maxLen] using hm) (by simpa using hrep.1)
  simpa using h2
 ·refine hrep.imp_ (fun p c hp=>d.M_mono (fun k hk=>⟨hok k hk.1,fun he=>?_⟩) (M_below (d.M_bound hp) (below_alloc (Below.refl _ _) _)));have h3:k=W.heap.size:=by simpa [Value.ownBlock] using he
  have:=hk.2.2.1;omega
theorem reps_made{α:Type}{R:α→List Value→Prop}{z:Value}{size:Nat}{z0:α}(hz:z.cells.size=size)(hs:0<size)(h0:R z0 z.cells.toList)(m:Nat):Reps R size (List.replicate m z0) (madeCells z.cells (m*size)).toList:=by
 refine⟨by simp[size_madeCells],fun j p hj=>?_⟩;obtain⟨hjl,hp⟩:=List.getElem?_eq_some_iff.1 hj;have hjm:j<m:=by simpa using hjl
 have hp':z0=p:=by simpa using hp
 subst hp';have hle:j*size+size≤m*size:=by rw[←Nat.succ_mul];exact Nat.mul_le_mul_right _ hjm
 have:((madeCells z.cells (m*size)).toList.drop (j*size)).take size=z.cells.toList:=by
  apply List.ext_getElem
  ·simp[size_madeCells,hz];omega
  ·intro i h1 h2;have hi:i<size:=by rw[Array.length_toList,hz] at h2;exact h2
   have hmod:(j*size+i)%size=i:=by
    rw[Nat.mul_comm,Nat.mul_add_mod];exact Nat.mod_eq_of_lt hi
   simp[madeCells,hz,hmod];rw[getElem!_pos z.cells i (by omega)]
 rw[this];exact h0
theorem R_make(d:Kd α){w0 W:World}(base e:Nat)(hgd:o.guard=none){N:Tmp}(hd:o.dst=some N)(t:TypeId)(x y:Operand)(ho:o.op= .makeSlice t x y)(n:Int)(hx:a.eval x= .int .i64 n)(hy:a.eval y= .int .i64 n)
  (ht:P.underlying t=some (.slice e)) (z:Value) (bytes:Nat) (hinfo:(P.info? e).map (fun i=>(i.zero,i.size,i.bytes))=some (some z,d.sz,bytes)) (hz:z.cells.size=d.sz) (hs0:0<d.sz) (hb0:0<bytes)
  (z0:α) {ok okp:Nat→Prop} (hzero:d.M W base okp z0 z.cells.toList) (hok:∀k,okp k→ok k) (hfresh:ok W.heap.size) (h0:0≤n) (hl:n.toNat*bytes≤281474976710656) (HB:Below base w0 W) (hbase:base≤W.heap.size)
  (h:∀v1 w1,d.R e w1 base ok v1 (List.replicate n.toNat z0)→Below base w0 w1→W.grownBy w1 none→(∃b,v1.ownBlock=some b∧W.heap.size≤b)→wpList P ops Q rest (a.put o.dst v1) w1):wpList P ops Q (o::rest) a W:=by
 obtain⟨m,rfl⟩:=Int.eq_ofNat_of_zero_le h0;simp only[Int.toNat_natCast] at hl h;obtain⟨i0,hi,hzz⟩:=Option.map_eq_some_iff.1 hinfo;simp only[Prod.mk.injEq] at hzz;obtain⟨hz0,hz1,hz2⟩:=hzz;have hm:m≤281474976710656:=Nat.le_trans (Nat.le_mul_of_pos_right _ hb0) hl
 have hr:=run_make (P:=P) W t e i0 z ht hi hz0 .i64 .i64 (m:Int) (m:Int) (by omega) (by omega)
  (by
   have h3:((i0.bytes*m:Nat):Int)≤281474976710656:=by rw[hz2,Nat.mul_comm];omega
   rwa [Int.natCast_mul] at h3) (by omega)
 simp only[Int.toNat_natCast] at hr;rw[hz1] at hr;refine R_lit d base e hgd hd (xs:=List.replicate m z0) (inner:=(madeCells z.cells (m*d.sz)).toList) (okp:=okp) (ok:=ok) ?_ (reps_made hz hs0 hzero m) hok hfresh HB hbase (by simp;omega) h;simp[execOp,ho,hx,hy,hr]
end
end Kd
section
variable {w w1:World} {base n size:Nat} {e:TypeId} {v:Value} {xs:List Value}
theorem add_at(g o j:Nat):(⟨g,o,none⟩:Addr).add j=⟨g,o+j,none⟩:=by unfold Addr.add;split<;>simp_all
theorem setCells_far{g:Nat} :∀(vs:List Value) (o:Nat) {w:World} (k:Nat),k≠g→(w.setCells g o vs).heap[k]?=w.heap[k]?
 | [],_,_,_,_=>rfl
 |v::r,o,w,k,hk=>by
  rw[World.setCells,setCells_far r (o+1) k hk];exact Below.heap_setCell w ⟨g,o,none⟩ v k hk
theorem setCells_same(g:Nat):∀(vs:List Value) (o:Nat) (w:World),(w.setCells g o vs).os=w.os∧(w.setCells g o vs).tape=w.tape∧(w.setCells g o vs).output=w.output∧(w.setCells g o vs).heap.size=w.heap.size
 | [],_,_=>⟨rfl,rfl,rfl,rfl⟩
 |v::r,o,w=>by
  obtain⟨h1,h2,h3,h4⟩:=setCells_same g r (o+1) (w.setCell ⟨g,o,none⟩ v);rw[World.setCells];exact⟨h1,h2,h3,by rw[h4];simp[World.setCell]⟩
theorem setCells_row{g:Nat}{e:TypeId} :∀(vs:List Value) (o:Nat) (w:World) (cur:Array Value),w.heap[g]?=some (.cells cur e (0,0))→o+vs.length≤cur.size→
  ∃cur',(w.setCells g o vs).heap[g]?=some (.cells cur' e (0,0))∧cur'.size=cur.size∧cur'.toList=cur.toList.take o++vs++cur.toList.drop (o+vs.length)
 | [],o,w,cur,h,_=>⟨cur,h,rfl,by simp⟩
 |v::r,o,w,cur,h,hl=>by
  have h2:=blk_set h o v;simp only[List.length_cons] at hl;obtain⟨cur',h3,h4,h5⟩:=setCells_row r (o+1) (w.setCell ⟨g,o,none⟩ v) _ h2 (by simp;omega);refine⟨cur',h3,by rw[h4];simp,?_⟩;rw[h5,Array.toList_setIfInBounds];have ho:o<cur.toList.length:=by rw[Array.length_toList];omega
  rw[List.take_set,List.drop_set_of_lt (by omega)];simp only[List.length_cons];rw[show o+1+r.length=o+(r.length+1) by omega]
  congr 1
  rw[List.take_succ_eq_append_getElem ho,List.set_append_right _ _ (by rw[List.length_take];omega)];have ho':o<cur.size:=by omega
  simp[Nat.min_eq_left (Nat.le_of_lt ho')]
end
namespace Kd
end Kd
namespace Kd
section
variable {α:Type} {d:Kd α} {e e':Nat} {w w1 W:World} {base:Nat} {ok:Nat→Prop} {u v:Value} {xs:List α}
theorem R_typed(h:d.R e w base ok v xs):∀k,v.ownBlock=some k→∃cells,w.heap[k]?=some (.cells cells e (0,0)):=by
 obtain⟨inner,ho⟩:=R_own h;exact fun k hk=>own_typed ho k hk
theorem R_over'(h:d.R e W base ok u xs)(hty:∀k,v.ownBlock=some k→∃cells,W.heap[k]?=some (.cells cells e' (0,0)))(ht:∀q,q∈e::d.E→q≠e')(hg:W.grownBy w1 v.ownBlock):d.R e w1 base ok u xs:=by
 refine R_mono (R_move (R_bound h) (fun k hk=>hg.block k hk.2.2.1 (fun he=>?_))) (fun _ hk=>hk.1);obtain⟨_,_,_,q,hq,cells,hc⟩:=hk;obtain⟨cells',hc'⟩:=hty k he.symm;rw[hc] at hc';injection hc' with hc'
 injection hc' with _ hc'
 exact ht q hq hc'
theorem R_apart'(h:d.R e W base ok u xs)(hty:∀k,v.ownBlock=some k→∃cells,W.heap[k]?=some (.cells cells e' (0,0)))(ht:∀q,q∈e::d.E→q≠e'):d.R e W base (fun k=>ok k∧some k≠v.ownBlock) u xs:=by
 refine R_mono (R_bound h) (fun k hk=>⟨hk.1,fun he=>?_⟩);obtain⟨_,_,_,q,hq,cells,hc⟩:=hk;obtain⟨cells',hc'⟩:=hty k he.symm;rw[hc] at hc';injection hc' with hc'
 injection hc' with _ hc'
 exact ht q hq hc'
theorem R_elder'(hu:d.R e W base ok u xs)(hbase:∀k,v.ownBlock=some k→W.heap.size≤k)(hb:Below W.heap.size W w1):d.R e w1 base (fun k=>ok k∧some k≠v.ownBlock) u xs:=
 R_mono (R_move (R_bound hu) (fun k hk=>hb.block k hk.2.2.1)) (fun k hk=>⟨hk.1,fun he=>by have:=hbase k he.symm;have:=hk.2.2.1;omega⟩)
theorem R_new'(h:d.R e w1 W.heap.size ok v xs)(hlt:∀k,u.ownBlock=some k→k<W.heap.size):d.R e w1 W.heap.size (fun k=>ok k∧some k≠u.ownBlock) v xs:=
 R_mono (R_bound h) (fun k hk=>⟨hk.1,fun he=>by have:=hlt k he.symm;have:=hk.2.1;omega⟩)
theorem fresh'(hlt:∀k,u.ownBlock=some k→k<W.heap.size):∀k,W.heap.size≤k→some k≠u.ownBlock:=fun k hk he=>by have:=hlt k he.symm;omega
end
end Kd
theorem seg_get{α:Type}(a seg:List α)(o:Nat)(h:o+seg.length≤a.length)(q:Nat):
  (a.take o++seg++a.drop (o+seg.length))[q]?=if q<o then a[q]? else if q<o+seg.length then seg[q - o]? else a[q]?:=by
 have hl:(a.take o).length=o:=by rw[List.length_take];omega
 rw[List.append_assoc]
 by_cases h1:q<o
 ·rw[if_pos h1,List.getElem?_append_left (by omega),List.getElem?_take,if_pos h1]
 ·rw[if_neg h1,List.getElem?_append_right (by omega),hl]
  by_cases h2:q<o+seg.length
  ·rw[if_pos h2,List.getElem?_append_left (by omega)]
  ·rw[if_neg h2,List.getElem?_append_right (by omega),List.getElem?_drop]
   congr 1
   omega
namespace Kd
section
variable {α:Type} {d:Kd α} {e base g n cap:Nat} {ok okp:Nat→Prop} {W:World} {xs:List α}
theorem R_elem(h:d.R e W base ok (.slice (some ⟨g,0,none⟩) n cap) xs)(z:α)(i:Int)(h0:0≤i)(h1:i<n):
  ∃c,c.length=d.sz∧d.M W base (fun k=>ok k∧k≠g) (xs.getD i.toNat z) c∧(∀j u,c[j]?=some u→W.cell? ⟨g,i.toNat*d.sz+j,none⟩=some u)∧∀j,W.frozen? ⟨g,i.toNat*d.sz+j,none⟩=false:=by
 obtain⟨hn,hnc,hC⟩:=R_reads' h;obtain⟨_,inner,ho,hr⟩:=h;have hil:i.toNat<xs.length:=by omega
 have hseg:i.toNat*d.sz+d.sz≤inner.length:=by rw[hr.1,←Nat.succ_mul];exact Nat.mul_le_mul_right _ hil
 have hM:=hr.2 i.toNat _ (List.getElem?_eq_getElem hil);refine⟨(inner.drop (i.toNat*d.sz)).take d.sz,by rw[List.length_take,List.length_drop];omega,?_,fun j u hu=>?_,fun j=>?_⟩
 ·rw[List.getD_eq_getElem?_getD,List.getElem?_eq_getElem hil];exact d.M_mono (fun k hk=>⟨hk.1,fun he=>hk.2 (by rw[he];simp[Value.ownBlock])⟩) hM
 ·rw[List.getElem?_take] at hu
  split at hu
  ·rw[List.getElem?_drop] at hu;have:=ho.cells (g:=g) (by simp[Value.ownBlock]) _ u hu
   rwa [add_plain] at this
  ·cases hu
 ·obtain⟨cells,hc⟩:=own_typed ho g (by simp[Value.ownBlock]);exact blk_frozen hc _
theorem R_seg(h:d.R e W base ok (.slice (some ⟨g,0,none⟩) n cap) xs)(i:Int)(h0:0≤i)(h1:i<n){c seg:List Value}{j:Nat}(hcl:c.length=d.sz)(hcc:∀j u,c[j]?=some u→W.cell? ⟨g,i.toNat*d.sz+j,none⟩=some u)
  (hj:j+seg.length≤d.sz) {x':α} (hM:d.M W base okp x' (c.take j++seg++c.drop (j+seg.length))) (hokp:∀k,okp k→ok k∧k≠g):
  d.R e (W.setCells g (i.toNat*d.sz+j) seg) base ok (.slice (some ⟨g,0,none⟩) n cap) (xs.set i.toNat x')∧W.grownBy (W.setCells g (i.toNat*d.sz+j) seg) (some g):=by
 obtain⟨hn,hnc,_⟩:=R_reads' h;obtain⟨hok,inner,ho,hr⟩:=h;have hil:i.toNat<xs.length:=by omega
 have hseg:i.toNat*d.sz+d.sz≤inner.length:=by rw[hr.1,←Nat.succ_mul];exact Nat.mul_le_mul_right _ hil
 have hin:inner.length=n*d.sz:=by rw[hr.1,hn]
 obtain⟨ho1,ho2⟩:=ho
 rcases ho2 with ⟨hv,_⟩|⟨g',cap',cur,hv,hb,hh,hnc',hcm,hcs,ht⟩
 ·cases hv
 injection hv with ha _ hc
 injection ha with ha
 injection ha with hg
 subst hg;subst hc
 have hfit:i.toNat*d.sz+j+seg.length≤cur.size:=by
  have:n*d.sz≤cap*d.sz:=Nat.mul_le_mul_right _ hnc;omega
 obtain⟨cur',h3,h4,h5⟩:=setCells_row seg (i.toNat*d.sz+j) W cur hh hfit;obtain⟨s1,s2,s3,s4⟩:=setCells_same g seg (i.toNat*d.sz+j) W;have hfar:∀k,k≠g→(W.setCells g (i.toNat*d.sz+j) seg).heap[k]?=W.heap[k]?:=fun k hk=>setCells_far seg _ k hk
 -- the element's cells before are what was read
 have hcin:∀q,q<d.sz→c[q]?=inner[i.toNat*d.sz+q]?:=by
  intro q hq;have hq':q<c.length:=by omega
  have h6:=hcc q _ (List.getElem?_eq_getElem hq');rw[cell_of_row W g _ cur e (0,0) hh] at h6;rw[List.getElem?_eq_getElem hq',←h6,←ht,List.getElem?_take,if_pos (by rw[←hn];omega),Array.getElem?_toList]
 refine⟨⟨hok,inner.take (i.toNat*d.sz+j)++seg++inner.drop (i.toNat*d.sz+j+seg.length),⟨?_,.inr ⟨g,cap,cur',by rw[List.length_set,hn],hb,h3,by rw[List.length_set,←hn];exact hnc,hcm,by rw[h4,hcs],?_⟩⟩,?_⟩,
  ⟨s1,s2,s3,by rw[s4];exact Nat.le_refl _,fun k _ hk=>hfar k (fun he=>hk (by rw[he]))⟩⟩
 ·rw[List.length_set];simp only[List.length_append,List.length_take,List.length_drop];rw[hr.1] at hseg ⊢;omega
 ·rw[List.length_set,←hn];apply List.ext_getElem?;intro q;rw[List.getElem?_take,h5];rw[seg_get cur.toList seg (i.toNat*d.sz+j) (by rw[Array.length_toList];omega) q,seg_get inner seg (i.toNat*d.sz+j) (by omega) q]
  have hcur:∀q,q<n*d.sz→cur.toList[q]?=inner[q]?:=by
   intro q hq;rw[←ht,List.getElem?_take,if_pos (by rw[←hn];exact hq)]
  by_cases hq:q<n*d.sz
  ·rw[if_pos hq,hcur q hq]
  ·rw[if_neg hq,if_neg (by omega),if_neg (by omega),List.getElem?_eq_none (by omega)]
 ·refine⟨?_,fun m p hm=>?_⟩
  ·rw[List.length_set];simp only[List.length_append,List.length_take,List.length_drop];rw[hr.1] at hseg ⊢;omega
  ·have hml:m<xs.length:=by
    have:=(List.getElem?_eq_some_iff.1 hm).1
    rwa [List.length_set] at this
   have hmfit:m*d.sz+d.sz≤inner.length:=by rw[hr.1,←Nat.succ_mul];exact Nat.mul_le_mul_right _ hml
   have hgo:some g=(Value.slice (some ⟨g,0,none⟩) n cap).ownBlock:=by simp[Value.ownBlock]
   by_cases hmi:m=i.toNat
   ·subst hmi;rw[List.getElem?_set_self (by omega)] at hm;injection hm with hm
    subst hm
    have hcells:((inner.take (i.toNat*d.sz+j)++seg++inner.drop (i.toNat*d.sz+j+seg.length)).drop (i.toNat*d.sz)).take d.sz=c.take j++seg++c.drop (j+seg.length):=by
     apply List.ext_getElem?;intro q;rw[List.getElem?_take,List.getElem?_drop,seg_get inner seg _ (by omega),seg_get c seg j (by omega) q]
     by_cases hq:q<d.sz
     ·rw[if_pos hq,hcin q hq]
      by_cases hq1:q<j
      ·rw[if_pos (by omega),if_pos hq1]
      ·rw[if_neg (by omega),if_neg hq1]
       by_cases hq2:q<j+seg.length
       ·rw[if_pos (by omega),if_pos hq2]
        congr 1
        omega
       ·rw[if_neg (by omega),if_neg hq2]
     ·rw[if_neg hq,if_neg (by omega),if_neg (by omega),List.getElem?_eq_none (by omega)]
    rw[hcells];refine d.M_mono (fun k hk=>?_) (d.M_move (w1:=W.setCells g (i.toNat*d.sz+j) seg) (fun k hk=>hfar k (hokp k hk).2) hM);exact⟨(hokp k hk).1,fun he=>(hokp k hk).2 (by rw[←hgo] at he;injection he)⟩
   ·rw[List.getElem?_set_ne (by omega)] at hm;have hold:=hr.2 m p hm
    have hcells:((inner.take (i.toNat*d.sz+j)++seg++inner.drop (i.toNat*d.sz+j+seg.length)).drop (m*d.sz)).take d.sz=(inner.drop (m*d.sz)).take d.sz:=by
     apply List.ext_getElem?;intro q;rw[List.getElem?_take,List.getElem?_take,List.getElem?_drop,List.getElem?_drop,seg_get inner seg _ (by omega)]
     by_cases hq:q<d.sz
     ·rw[if_pos hq,if_pos hq]
      rcases Nat.lt_or_gt_of_ne hmi with hlt|hgt
      ·have:m*d.sz+d.sz≤i.toNat*d.sz:=by rw[←Nat.succ_mul];exact Nat.mul_le_mul_right _ hlt
       rw[if_pos (by omega)]
      ·have:i.toNat*d.sz+d.sz≤m*d.sz:=by rw[←Nat.succ_mul];exact Nat.mul_le_mul_right _ hgt
       rw[if_neg (by omega),if_neg (by omega)]
     ·rw[if_neg hq,if_neg hq]
    rw[hcells];refine d.M_move (fun k hk=>hfar k (fun he=>hk.2 (by rw[he];exact hgo))) hold
end
end Kd
namespace Kd
end Kd
namespace Kd
theorem reps_append{α:Type}{R:α→List Value→Prop}{size:Nat}{ps qs:List α}{cs ds:List Value}(h:Reps R size ps cs)(h':Reps R size qs ds):Reps R size (ps++qs) (cs++ds):=by
 refine⟨by rw[List.length_append,List.length_append,h.1,h'.1,Nat.add_mul],fun j p hj=>?_⟩
 rcases Nat.lt_or_ge j ps.length with hlt|hge
 ·rw[List.getElem?_append_left hlt] at hj;have hle:j*size+size≤cs.length:=by rw[h.1,←Nat.succ_mul];exact Nat.mul_le_mul_right _ hlt
  rw[List.drop_append_of_le_length (by omega),List.take_append_of_le_length (by rw[List.length_drop];omega)];exact h.2 j p hj
 ·rw[List.getElem?_append_right hge] at hj;have h2:=h'.2 (j - ps.length) p hj;have hle:ps.length*size≤j*size:=Nat.mul_le_mul_right _ hge;rw[List.drop_append,List.drop_eq_nil_of_le (by rw[h.1];exact hle),List.nil_append,h.1,←Nat.sub_mul];exact h2
section
variable {P:Program} {ops:Array Oper} {rest:List Oper} {o:Oper} {a:Act} {Q:Exit→Act→World→Prop} {α:Type}
theorem R_append_rows(d:Kd α){Rr:α→List Value→Prop}{w0 W:World}(base:Nat)(hgd:o.guard=none)(s x:Operand)(t e:TypeId)(z:Value)(bytes:Nat)
  (ho:o.op= .call { callee:= .builtin .append,args:= #[s,x],argTypes:= #[t,t] })
  (ht:P.underlying t=some (.slice e)) (hinfo:(P.info? e).map (fun i=>(i.zero,i.size,i.bytes))=some (some z,d.sz,bytes)) (hz:z.cells.size=d.sz) (hs0:0<d.sz) (hb0:0<bytes)
  (v:Value) (xs ys:List α) (A:Option Addr) (m c:Nat) (ok okp:Nat→Prop) (hs:a.eval s=v) (hx:a.eval x= .slice A m c)
  (HO:d.R e W base ok v xs) (HR:ReadsRow Rr d.sz W A m ys) (hKM:∀x cs,Rr x cs→d.M W base okp x cs) (hokp:∀k,okp k→ok k∧some k≠v.ownBlock) (hfresh:∀k,W.heap.size≤k→ok k)
  (HB:Below base w0 W) (hbase:base≤W.heap.size) (hl:(xs.length+m)*bytes≤140737488355328)
  (h:∀v1 w1,d.R e w1 base ok v1 (xs++ys)→Below base w0 w1→W.grownBy w1 v.ownBlock→(v1.ownBlock=v.ownBlock∨∃b,v1.ownBlock=some b∧W.heap.size≤b)→wpList P ops Q rest (a.put o.dst v1) w1):
  wpList P ops Q (o::rest) a W:=by
 obtain⟨i0,hi,hzz⟩:=Option.map_eq_some_iff.1 hinfo;simp only[Prod.mk.injEq] at hzz;obtain⟨hz0,hz1,hz2⟩:=hzz;have hm:ys.length=m:=HR.1;have hlen:xs.length+m≤140737488355328:=Nat.le_trans (Nat.le_mul_of_pos_right _ hb0) hl;obtain⟨hok,inner,hown,hr⟩:=HO
 have hrun:∃v1 w1,(Builtin.append_ #[t,t] o.type #[v,.slice A m c]).run P W= .ok v1 w1∧d.R e w1 base ok v1 (xs++ys)∧W.grownBy w1 v.ownBlock∧(v1.ownBlock=v.ownBlock∨∃b,v1.ownBlock=some b∧W.heap.size≤b):=by
  rcases A with _|ad
  ·have h0:m=0:=by
    rcases Nat.eq_zero_or_pos m with h0|h0
    ·exact h0
    ·obtain⟨ad,h,_⟩:=HR.2.2 h0
     cases h
   subst h0;obtain rfl:ys= []:=List.eq_nil_of_length_eq_zero hm;refine⟨v,W,?_,by rw[List.append_nil];exact⟨hok,inner,hown,hr⟩,World.grownBy.refl W _,.inl rfl⟩
   rcases hown.2 with ⟨rfl,hn⟩|⟨g,cap,cur,rfl,_,_,hnc,_⟩
   ·simp[Builtin.append_,run_underlying ht,sizeOf,typeInfo,hi,Builtin.lenOf,Builtin.firstCells]
   ·simp[Builtin.append_,run_underlying ht,sizeOf,typeInfo,hi,Builtin.lenOf,Builtin.firstCells,hnc,storeCells]
  ·obtain⟨news,hnr,hnc⟩:=ReadsRow.inner_ HR;have hnM:Reps (d.M W base okp) d.sz ys news:=hnr.imp_ (fun p c hp=>hKM p c hp)
   have hone:∀u∈news,u.oneCell'=true:=by
    intro u hu;obtain⟨q,hq,rfl⟩:=List.mem_iff_getElem.1 hu
    have hql:q / d.sz<ys.length:=by
     rw[Nat.div_lt_iff_lt_mul hs0];rw[←hnM.1];exact hq
    have hc:=hnM.2 (q / d.sz) _ (List.getElem?_eq_getElem hql);refine d.K_one (d.K_of_M hc) _ ?_;rw[List.mem_iff_getElem?];refine⟨q%d.sz,?_⟩;rw[List.getElem?_take,if_pos (Nat.mod_lt _ hs0),List.getElem?_drop,Nat.mul_comm,Nat.div_add_mod,List.getElem?_eq_getElem hq]
   obtain⟨v1,w1,hrun,h2,hg,_,hat⟩:=run_append_own_at (P:=P) W base t o.type e i0 z d.sz bytes ht hi hz0 hz1 hz2 hz hs0 v xs.length inner hown ad m c news (by rw[hnM.1,hm]) hnc hone (by simp only[maxLen];omega) hl hbase
   have hat':v1.ownBlock=v.ownBlock∨∃b,v1.ownBlock=some b∧W.heap.size≤b:=by
    rcases hat with hat|hat
    ·exact .inl hat
    ·exact .inr ⟨_,hat,Nat.le_refl _⟩
   have hne:∀k,some k≠v.ownBlock→k<W.heap.size→some k≠v1.ownBlock:=by
    intro k hk hlt
    rcases hat' with hat|⟨b,hb,hle⟩
    ·rw[hat];exact hk
    ·rw[hb];intro he;injection he with he
     omega
   have step:∀ {q:α} {c:List Value} {o:Nat→Prop},d.M W base o q c→(∀k,o k→ok k∧some k≠v.ownBlock)→d.M w1 base (fun k=>ok k∧some k≠v1.ownBlock) q c:=by
    intro q c o hq ho;have h1:=d.M_move (w1:=w1) (fun k hk=>hg.block k hk.2.2.1 (ho k hk.1).2) (d.M_bound hq);exact d.M_mono (fun k hk=>⟨(ho k hk.1).1,hne k (ho k hk.1).2 hk.2.2.1⟩) h1
   refine⟨v1,w1,hrun,⟨fun k hk=>?_,inner++news,by rw[List.length_append,hm];exact h2,reps_append (hr.imp_ (fun _ _ hq=>step hq (fun _ hk=>hk))) (hnM.imp_ (fun _ _ hq=>step hq hokp))⟩,hg,hat'⟩
   rcases hat' with hat|⟨b,hb,hle⟩
   ·exact hok k (hat▸hk)
   ·rw[hb] at hk;injection hk with hk
    exact hfresh k (by omega)
 obtain⟨v1,w1,hr1,h1,hg,hat⟩:=hrun;refine wpList_plain hgd fun K hK=>?_
 unfold Oper.wp execOp;simp only[ho,resolve,invoke,builtin,Sem.run_bind,Sem.run_pure,Result.andThen_ok,List.map_toArray,List.map_cons,List.map_nil,hs,hx,hr1];exact hK _ _ (h v1 w1 h1 (HB.grown hg hbase (own_base hown)) hg hat)
end
end Kd
namespace Kd
end Kd
theorem add_add(a:Addr)(i j:Nat):(a.add i).add j=a.add (i+j):=by
 unfold Addr.add
 by_cases h1:i=0<;>by_cases h2:j=0<;>simp[h1,h2,Nat.add_assoc]
namespace Kd
section
variable {α:Type} {k:Kd α} {w:World} {A:Option Addr} {xs:List α} {m c:Nat}
theorem C_take(h:k.C w A xs.length xs)(hm:m≤xs.length):k.C w A (xs.take m).length (xs.take m):=by
 have hl:(xs.take m).length=m:=by rw[List.length_take];omega
 refine⟨rfl,by rw[hl];have:=h.2.1;omega,fun hp=>?_⟩;obtain⟨ad,e,hc⟩:=h.2.2 (by omega);refine⟨ad,e,fun j p hj=>hc j p ?_⟩;rw[List.getElem?_take] at hj
 split at hj
 ·exact hj
 ·cases hj
theorem C_drop(h:k.C w A xs.length xs)(hm:m≤xs.length)(hc:xs.length≤c):k.C w (if c=m then A else A.map (·.add (m*k.sz))) (xs.drop m).length (xs.drop m):=by
 have hl:(xs.drop m).length=xs.length - m:=List.length_drop;refine⟨rfl,by rw[hl];have:=h.2.1;omega,fun hp=>?_⟩;rw[hl] at hp;obtain⟨ad,rfl,hcell⟩:=h.2.2 (by omega);rw[if_neg (by omega)];refine⟨ad.add (m*k.sz),rfl,fun j p hj=>?_⟩;rw[List.getElem?_drop] at hj;obtain⟨cs,h1,h2,h3⟩:=hcell (m+j) p hj;refine⟨cs,h1,h2,fun i u hu=>?_⟩;rw[add_add,show m*k.sz+(j*k.sz+i)=(m+j)*k.sz+i by rw[Nat.add_mul];omega];exact h3 i u hu
theorem C_mid{lo hi:Nat}(h:k.C w A xs.length xs)(h1:lo≤hi)(h2:hi≤xs.length)(hc:xs.length≤c):k.C w (if c=lo then A else A.map (·.add (lo*k.sz))) ((xs.take hi).drop lo).length ((xs.take hi).drop lo):=by
 have hl:(xs.take hi).length=hi:=by rw[List.length_take];omega
 exact C_drop (C_take h h2) (by omega) (by omega)
end
end Kd
section
variable {P:Program}
theorem cut_mid(t e:TypeId)(kl kh:IntKind){i:TypeInfo}(ht:P.underlying t=some (.slice e))(hi:P.info? e=some i)(size:Nat)(hsz:i.size=size)(A:Option Addr)(n c:Nat)(lo hi':Int)(h0:0≤lo)(h1:lo≤hi')(h2:hi'≤n)(hc:n≤c):
  ∀W:World,(Instr.slice t (.slice A n c) (some (.int kl lo)) (some (.int kh hi')) none).run P W= .ok (.slice (if c=lo.toNat then A else A.map (·.add (lo.toNat*size))) (hi'.toNat - lo.toNat) (c - lo.toNat)) W:=by
 intro W;have hel:P.elem t=e:=by simp[Program.elem,ht]
 have hu:P.underlying t=some (.slice (P.elem t)):=by rw[hel];exact ht
 rw[run_slice_lh W t A n c hu kl kh lo hi' h0 h1 (by omega),hel];simp[sizeOf,typeInfo,hi,hsz,sliced,Result.andThen]
end
theorem below_size{w W:World}(h:Below w.heap.size w W):w.heap.size≤W.heap.size:=h.size
theorem below_step{w W w2:World}(h:Below w.heap.size w W)(k:Below W.heap.size W w2):Below w.heap.size w w2:=below_then h h.size k
theorem below_set{w W:World}{g j:Nat}{v:Value}(h:Below w.heap.size w W)(hg:w.heap.size≤g):Below w.heap.size w (W.setCell ⟨g,j,none⟩ v):=h.setCell hg _
theorem add_block(a:Addr)(i:Nat):(a.add i).block=a.block:=by unfold Addr.add;split<;>rfl
theorem cell_far{W:World}{p a:Addr}(h:a.block≠p.block)(u:Value):(W.setCell p u).cell? a=W.cell? a:=by
 have:=Below.heap_setCell W p u a.block h;simp[World.cell?,this]
theorem blk_put{w:World}{g:Nat}{t:TypeId}{cs cs':Array Value}(h:w.heap[g]?=some (.cells cs t (0,0)))(i:Nat)(u:Value)(e:cs.setIfInBounds i u=cs'):(w.setCell ⟨g,i,none⟩ u).heap[g]?=some (.cells cs' t (0,0)):=e▸blk_set h i u
theorem below_drew1{base:Nat}{w W:World}(h:Below base w W):Below base w W.drew:=h.drew
namespace Kd
section
variable {α β:Type} {d:Kd α} {d':Kd β} {e e' base base' n:Nat} {ok ok':Nat→Prop} {w W w1 W1:World} {v u:Value} {xs:List α} {ys:List β} {A:Option Addr} {c:Nat}
theorem own_blk{ad:Addr}{g:Nat}(hne:some g≠(Value.slice (some ad) n c).ownBlock):ad.block≠g:=by
 rintro rfl;exact hne (by simp[Value.ownBlock])
end
end Kd
namespace Kd
section
variable {α:Type} {d:Kd α} {e base g:Nat} {ok:Nat→Prop} {w w1:World} {v:Value} {xs:List α} {o:Obj}
theorem R_elderB(h:d.R e w base ok v xs)(a:Nat)(ha:w.heap.size≤a):d.R e w base (fun k=>ok k∧k≠a) v xs:=R_mono (R_bound h) (fun k hk=>⟨hk.1,by have:=hk.2.2.1;omega⟩)
theorem freshB(hb:w.heap[g]?=some o):∀k,w.heap.size≤k→k≠g:=fun k hk=>by have:=blk_lt hb;omega
end
end Kd
section
variable {P:Program} {ops:Array Oper} {rest:List Oper} {o:Oper} {a:Act} {Q:Exit→Act→World→Prop}
theorem box_event{W:World}(hgd:o.guard=none){N:Tmp}(_hd:o.dst=some N){cs:Array Value}{t:TypeId}
  (hrun:(execOp a.eval o).run P W= .ok (.value (.pointer (some ⟨W.heap.size,0,none⟩))) (W.alloc (.cells cs t (0,0))))
  (h:∀g,g=W.heap.size→∀w1,w1.heap[g]?=some (.cells cs t (0,0))→Below W.heap.size W w1→wpList P ops Q rest (a.put o.dst (.pointer (some ⟨g,0,none⟩))) w1):wpList P ops Q (o::rest) a W:=
 Kd.event_run hgd hrun (h _ rfl _ (blk_new W _) (below_alloc (Below.refl _ _) _))
end
namespace Kd
section
variable {α:Type} {enc:α→Value} {h1:∀x,(enc x).oneCell'=true} {e base g n cap:Nat} {ok:Nat→Prop} {W:World} {xs:List α}
theorem R_celln(d:α)(h:(scalar enc h1).R e W base ok (.slice (some ⟨g,0,none⟩) n cap) xs)(i:Int)(h0:0≤i)(hi:i<n):W.cell? ⟨g,i.toNat,none⟩=some (enc (rdOf d xs i))∧W.frozen? ⟨g,i.toNat,none⟩=false:=by
 obtain⟨rfl,_⟩:=R_reads' h;exact R_cell d h i h0 hi
theorem R_putn(h:(scalar enc h1).R e W base ok (.slice (some ⟨g,0,none⟩) n cap) xs)(i:Int)(x:α):(scalar enc h1).R e (W.setCell ⟨g,i.toNat,none⟩ (enc x)) base ok (.slice (some ⟨g,0,none⟩) n cap) (xs.set i.toNat x):=by
 obtain⟨rfl,_⟩:=R_reads' h;exact(R_put h i x).1
end
end Kd
section
variable {P:Program} {ops:Array Oper} {rest:List Oper} {o:Oper} {a:Act} {Q:Exit→Act→World→Prop}
theorem store_event{W w1:World}(hgd:o.guard=none){t:TypeId}{p:Tmp}{v:Operand}(_ho:o.op= .store t (.tmp p) v)(hN:o.dst=none)
  (hrun:(execOp a.eval o).run P W= .ok .skip w1) (h:∀w',w'=w1→wpList P ops Q rest a w'):wpList P ops Q (o::rest) a W:=by
 refine wpList_plain hgd fun K hK=>?_
 unfold Oper.wp;rw[hrun];show K (a.put o.dst undef) w1;rw[hN];exact hK _ _ (h _ rfl)
end
namespace Kd
section
variable {α:Type} {enc:α→Value} {h1:∀x,(enc x).oneCell'=true} {e base g n cap:Nat} {ok:Nat→Prop} {W:World} {xs:List α}
theorem R_putg(h:(scalar enc h1).R e W base ok (.slice (some ⟨g,0,none⟩) n cap) xs)(i:Int)(x:α):(scalar enc h1).R e (W.setCell ⟨g,i.toNat,none⟩ (enc x)) base ok (.slice (some ⟨g,0,none⟩) n cap) (xs.set i.toNat x)∧W.grownBy (W.setCell ⟨g,i.toNat,none⟩ (enc x)) (some g):=by
 obtain⟨rfl,_⟩:=R_reads' h;exact R_put h i x
end
end Kd
section
variable {P:Program} {ops:Array Oper} {rest:List Oper} {o:Oper} {a:Act} {Q:Exit→Act→World→Prop} {W:World}
theorem gate_dst{N:Tmp}(_hN:o.dst=some N)(h:wpList P ops Q (o::rest) a W):wpList P ops Q (o::rest) a W:=h
theorem gate_store{t:TypeId}{p:Tmp}{v:Operand}(_ho:o.op= .store t (.tmp p) v)(h:wpList P ops Q (o::rest) a W):wpList P ops Q (o::rest) a W:=h
end
section
variable {P:Program} {ops:Array Oper} {o:Oper} {a:Act} {Q:Exit→Act→World→Prop} {Kc:Act→World→Prop}
theorem event_step{W w1:World}{v:Value}(hw:Region.wanted o (yielded ops a.tmps)=true)(hrun:(execOp a.eval o).run P W= .ok (.value v) w1)(h:Kc (a.put o.dst v) w1):if Region.wanted o (yielded ops a.tmps)=true then Oper.wp P o a W Kc Q else Kc (a.put o.dst undef) W:=by
 rw[if_pos hw];unfold Oper.wp;rw[hrun];exact h
theorem box_step{W:World}(hw:Region.wanted o (yielded ops a.tmps)=true){N:Tmp}(_hd:o.dst=some N){cs:Array Value}{t:TypeId}
  (hrun:(execOp a.eval o).run P W= .ok (.value (.pointer (some ⟨W.heap.size,0,none⟩))) (W.alloc (.cells cs t (0,0))))
  (h:∀g,g=W.heap.size→∀w1,w1.heap[g]?=some (.cells cs t (0,0))→Below W.heap.size W w1→Kc (a.put o.dst (.pointer (some ⟨g,0,none⟩))) w1):if Region.wanted o (yielded ops a.tmps)=true then Oper.wp P o a W Kc Q else Kc (a.put o.dst undef) W:=
 event_step hw hrun (h _ rfl _ (blk_new W _) (below_alloc (Below.refl _ _) _))
namespace Kd
variable {α:Type}
theorem R_append_rows_step(d:Kd α){Rr:α→List Value→Prop}{w0 W:World}(base:Nat)(hw:Region.wanted o (yielded ops a.tmps)=true)(s x:Operand)(t e:TypeId)(z:Value)(bytes:Nat)
  (ho:o.op= .call { callee:= .builtin .append,args:= #[s,x],argTypes:= #[t,t] })
  (ht:P.underlying t=some (.slice e)) (hinfo:(P.info? e).map (fun i=>(i.zero,i.size,i.bytes))=some (some z,d.sz,bytes)) (hz:z.cells.size=d.sz) (hs0:0<d.sz) (hb0:0<bytes)
  (v:Value) (xs ys:List α) (A:Option Addr) (m c:Nat) (ok okp:Nat→Prop) (hs:a.eval s=v) (hx:a.eval x= .slice A m c)
  (HO:d.R e W base ok v xs) (HR:ReadsRow Rr d.sz W A m ys) (hKM:∀x cs,Rr x cs→d.M W base okp x cs) (hokp:∀k,okp k→ok k∧some k≠v.ownBlock) (hfresh:∀k,W.heap.size≤k→ok k)
  (HB:Below base w0 W) (hbase:base≤W.heap.size) (hl:(xs.length+m)*bytes≤140737488355328)
  (h:∀v1 w1,d.R e w1 base ok v1 (xs++ys)→Below base w0 w1→W.grownBy w1 v.ownBlock→(v1.ownBlock=v.ownBlock∨∃b,v1.ownBlock=some b∧W.heap.size≤b)→Kc (a.put o.dst v1) w1):
  if Region.wanted o (yielded ops a.tmps)=true then Oper.wp P o a W Kc Q else Kc (a.put o.dst undef) W:=by
 obtain⟨i0,hi,hzz⟩:=Option.map_eq_some_iff.1 hinfo;simp only[Prod.mk.injEq] at hzz;obtain⟨hz0,hz1,hz2⟩:=hzz;have hm:ys.length=m:=HR.1;have hlen:xs.length+m≤140737488355328:=Nat.le_trans (Nat.le_mul_of_pos_right _ hb0) hl;obtain⟨hok,inner,hown,hr⟩:=HO
 have hrun:∃v1 w1,(Builtin.append_ #[t,t] o.type #[v,.slice A m c]).run P W= .ok v1 w1∧d.R e w1 base ok v1 (xs++ys)∧W.grownBy w1 v.ownBlock∧(v1.ownBlock=v.ownBlock∨∃b,v1.ownBlock=some b∧W.heap.size≤b):=by
  rcases A with _|ad
  ·have h0:m=0:=by
    rcases Nat.eq_zero_or_pos m with h0|h0
    ·exact h0
    ·obtain⟨ad,h,_⟩:=HR.2.2 h0
     cases h
   subst h0;obtain rfl:ys= []:=List.eq_nil_of_length_eq_zero hm;refine⟨v,W,?_,by rw[List.append_nil];exact⟨hok,inner,hown,hr⟩,World.grownBy.refl W _,.inl rfl⟩
   rcases hown.2 with ⟨rfl,hn⟩|⟨g,cap,cur,rfl,_,_,hnc,_⟩
   ·simp[Builtin.append_,run_underlying ht,sizeOf,typeInfo,hi,Builtin.lenOf,Builtin.firstCells]
   ·simp[Builtin.append_,run_underlying ht,sizeOf,typeInfo,hi,Builtin.lenOf,Builtin.firstCells,hnc,storeCells]
  ·obtain⟨news,hnr,hnc⟩:=ReadsRow.inner_ HR;have hnM:Reps (d.M W base okp) d.sz ys news:=hnr.imp_ (fun p c hp=>hKM p c hp)
   have hone:∀u∈news,u.oneCell'=true:=by
    intro u hu;obtain⟨q,hq,rfl⟩:=List.mem_iff_getElem.1 hu
    have hql:q / d.sz<ys.length:=by
     rw[Nat.div_lt_iff_lt_mul hs0];rw[←hnM.1];exact hq
    have hc:=hnM.2 (q / d.sz) _ (List.getElem?_eq_getElem hql);refine d.K_one (d.K_of_M hc) _ ?_;rw[List.mem_iff_getElem?];refine⟨q%d.sz,?_⟩;rw[List.getElem?_take,if_pos (Nat.mod_lt _ hs0),List.getElem?_drop,Nat.mul_comm,Nat.div_add_mod,List.getElem?_eq_getElem hq]
   obtain⟨v1,w1,hrun,h2,hg,_,hat⟩:=run_append_own_at (P:=P) W base t o.type e i0 z d.sz bytes ht hi hz0 hz1 hz2 hz hs0 v xs.length inner hown ad m c news (by rw[hnM.1,hm]) hnc hone (by simp only[maxLen];omega) hl hbase
   have hat':v1.ownBlock=v.ownBlock∨∃b,v1.ownBlock=some b∧W.heap.size≤b:=by
    rcases hat with hat|hat
    ·exact .inl hat
    ·exact .inr ⟨_,hat,Nat.le_refl _⟩
   have hne:∀k,some k≠v.ownBlock→k<W.heap.size→some k≠v1.ownBlock:=by
    intro k hk hlt
    rcases hat' with hat|⟨b,hb,hle⟩
    ·rw[hat];exact hk
    ·rw[hb];intro he;injection he with he
     omega
   have step:∀ {q:α} {c:List Value} {o:Nat→Prop},d.M W base o q c→(∀k,o k→ok k∧some k≠v.ownBlock)→d.M w1 base (fun k=>ok k∧some k≠v1.ownBlock) q c:=by
    intro q c o hq ho;have h1:=d.M_move (w1:=w1) (fun k hk=>hg.block k hk.2.2.1 (ho k hk.1).2) (d.M_bound hq);exact d.M_mono (fun k hk=>⟨(ho k hk.1).1,hne k (ho k hk.1).2 hk.2.2.1⟩) h1
   refine⟨v1,w1,hrun,⟨fun k hk=>?_,inner++news,by rw[List.length_append,hm];exact h2,reps_append (hr.imp_ (fun _ _ hq=>step hq (fun _ hk=>hk))) (hnM.imp_ (fun _ _ hq=>step hq hokp))⟩,hg,hat'⟩
   rcases hat' with hat|⟨b,hb,hle⟩
   ·exact hok k (hat▸hk)
   ·rw[hb] at hk;injection hk with hk
    exact hfresh k (by omega)
 obtain⟨v1,w1,hr1,h1,hg,hat⟩:=hrun;rw[if_pos hw];unfold Oper.wp execOp;simp only[ho,resolve,invoke,builtin,Sem.run_bind,Sem.run_pure,Result.andThen_ok,List.map_toArray,List.map_cons,List.map_nil,hs,hx,hr1];exact h v1 w1 h1 (HB.grown hg hbase (own_base hown)) hg hat
end Kd
end
namespace Kd
end Kd
end Go.Proofs.YtfghldonnffldaaGreatDoorW.PrintWords
namespace Go.Proofs.YtfghldonnffldaaGreatDoorW.PrintLast
section
variable {P:Program} {ops:Array Oper} {Q:Exit→Act→World→Prop} {md:Region.Mode} {S:World→Prop} {ds:List Nat}
def Region.reachB(md:Region.Mode)(ops:Array Oper)(i:Nat):Nat→Nat→Bool
 |0,_=>false
 |fuel+1,d=>match ops[d]? with
  |some o=>o.after.any fun e=>Region.binds md e && (e.on==i || Region.reachB md ops i fuel e.on)
  |none=>false
def Region.closedB(md:Region.Mode)(ops:Array Oper)(listed:Array Bool):Bool:=
 (List.range ops.size).all fun j=>!listed.getD j false || match ops[j]? with
  |some o=>o.after.all fun e=>!Region.binds md e || listed.getD e.on false
  |none=>true
def Region.lastB(md:Region.Mode)(ops:Array Oper)(listed:Array Bool)(ds:List Nat)(i:Nat):Bool:=
 ds.all fun d=>listed.getD d true || Region.reachB md ops i ops.size d
def ListedClosed(md:Region.Mode)(ops:Array Oper)(listed:Array Bool):Prop:=
 ∀j oj,ops[j]?=some oj→listed.getD j false=true→∀e∈oj.after,Region.binds md e=true→listed.getD e.on false=true
theorem Region.closedB_spec{listed:Array Bool}(h:Region.closedB md ops listed=true):ListedClosed md ops listed:=by
 intro j oj hj hl e he hb;have hlt:j<ops.size:=(Array.getElem?_eq_some_iff.1 hj).1;have h1:=List.all_eq_true.1 h j (List.mem_range.2 hlt);simp only[hl,hj,Bool.not_true,Bool.false_or] at h1;have h2:=Array.all_eq_true_iff_forall_mem.1 h1 e he
 simpa [hb] using h2
theorem ListedClosed.set{listed:Array Bool}{i:Nat}(h:ListedClosed md ops listed)(hi:i∈Region.ready md ops listed):ListedClosed md ops (listed.setIfInBounds i true):=by
 obtain⟨_,oi,hoi,hall⟩:=mem_ready.1 hi;intro j oj hj hl e he hb
 by_cases hij:i=j
 ·subst hij;have:oj=oi:=Option.some.inj (hj.symm.trans hoi);subst this;exact getD_set_true (hall e he hb)
 ·rw[getD_set_ne false hij] at hl;exact getD_set_true (h j oj hj hl e he hb)
theorem Region.reach_listed{listed:Array Bool}{i:Nat}(hc:ListedClosed md ops listed):∀(fuel d:Nat),Region.reachB md ops i fuel d=true→listed.getD d false=true→listed.getD i false=true
 |0,_,h,_=>by simp[Region.reachB] at h
 |fuel+1,d,h,hl=>by
  unfold Region.reachB at h
  cases ho:ops[d]? with
  |none=>rw[ho] at h;simp at h
  |some o=>
   rw[ho] at h;obtain⟨e,he,h1⟩:=Array.any_eq_true'.1 h;simp only[Bool.and_eq_true,Bool.or_eq_true,beq_iff_eq] at h1;have hle:=hc d o ho hl e he h1.1
   rcases h1.2 with h2|h2
   ·rw[←h2];exact hle
   ·exact Region.reach_listed hc fuel e.on h2 hle
theorem Region.reach_not_ready{listed:Array Bool}{i d fuel:Nat}(hc:ListedClosed md ops listed)(hr:Region.reachB md ops i fuel d=true)(hun:listed.getD i true=false):d∉Region.ready md ops listed:=by
 intro hd;obtain⟨_,o,ho,hall⟩:=mem_ready.1 hd
 have hi:listed.getD i false=true:=by
  cases fuel with
  |zero=>simp[Region.reachB] at hr
  |succ n=>
   unfold Region.reachB at hr;rw[ho] at hr;obtain⟨e,he,h1⟩:=Array.any_eq_true'.1 hr;simp only[Bool.and_eq_true,Bool.or_eq_true,beq_iff_eq] at h1;have hle:=hall e he h1.1
   rcases h1.2 with h2|h2
   ·rw[←h2];exact hle
   ·exact Region.reach_listed hc n e.on h2 hle
 rcases Nat.lt_or_ge i listed.size with h'|h'
 ·simp[h'] at hun hi;rw[hun] at hi
  cases hi
 ·simp[Array.getElem?_eq_none h'] at hun
def wpAnyLast(P:Program)(md:Region.Mode)(ops:Array Oper)(Q:Exit→Act→World→Prop)(S:World→Prop)(ds:List Nat):Nat→Array Bool→Act→World→Prop
 |0,listed,a,w=>Region.ready md ops listed= []∧Q .normal a w
 |fuel+1,listed,a,w=>
  (Region.ready md ops listed= []→Q .normal a w)∧
  ∀i∈Region.ready md ops listed,wpOp P ops Q i (fun a' w'=>(i∉ds→S w→S w')∧wpAnyLast P md ops Q S ds fuel (listed.setIfInBounds i true) a' w') a w
theorem wpAny_of_last:∀(fuel:Nat) (listed:Array Bool) (a:Act) (w:World),wpAnyLast P md ops Q S ds fuel listed a w→wpAny P md ops Q fuel listed a w
 |0,_,_,_,h=>h
 |fuel+1,_,_,_,h=>⟨h.1,fun i hi=>wpOp_mono (fun a' w' h'=>wpAny_of_last fuel _ a' w' h'.2) (h.2 i hi)⟩
theorem wpAnyLast_first{i:Nat}{oi:Oper}{v:Value}(hi:ops[i]?=some oi)(hsel:∀(j:Nat) (o:Oper) cs b,ops[j]?=some o→o.op≠ .select cs b)
  (hQ:∀c a w,Q (.panic c) (a.put oi.dst v) w→Q (.panic c) a w) (n:Nat):
  ∀(fuel:Nat) (listed:Array Bool) (a:Act) (w:World),
   (∀j oj,ops[j]?=some oj→j≠i→listed.getD j true=false→(∀e∈oj.after,Region.binds md e=true→e.on≠i)→oi.apart ops oj=true)→
   ListedClosed md ops listed→(∀d∈ds,listed.getD d true=false→Region.reachB md ops i n d=true)→
   i∈Region.ready md ops listed→YieldsIf P ops S oi v a→S w→
   wpAnyLast P md ops Q S ds fuel (listed.setIfInBounds i true) (a.put oi.dst v) w→wpAnyLast P md ops Q S ds (fuel+1) listed a w:=by
 intro fuel
 induction fuel with
 |zero=>
  intro listed a w _ _ _ hr hy hS H;refine⟨fun h=>(by rw[h] at hr;cases hr),fun j hj=>?_⟩
  by_cases hji:j=i
  ·subst hji;exact hy.wpOp hi hS ⟨fun _ h=>h,H⟩
  ·have:=ready_mono hj hji;rw[H.1] at this
   cases this
 |succ fuel ih=>
  intro listed a w hfree hc hd hr hy hS H;refine⟨fun h=>(by rw[h] at hr;cases hr),fun j hj=>?_⟩
  by_cases hji:j=i
  ·subst hji;exact hy.wpOp hi hS ⟨fun _ h=>h,H⟩
  ·have h1:=H.2 j (ready_mono hj hji);obtain⟨hjun,oj,hoj,hall⟩:=mem_ready.1 hj;have hiun:=(mem_ready.1 hr).1
   have hnot:∀e∈oj.after,Region.binds md e=true→e.on≠i:=fun e he hb heq=>by
    have h1:=hall e he hb;rw[heq] at h1
    rcases Nat.lt_or_ge i listed.size with h'|h'
    ·simp[h'] at hiun h1;rw[hiun] at h1;cases h1
    ·simp[Array.getElem?_eq_none h'] at h1
   have hjd:j∉ds:=fun hm=>Region.reach_not_ready hc (hd j hm hjun) hiun hj
   have h2:=wpOp_putIf hoj (hfree j oj hoj hji hjun hnot) (fun cs b=>hsel i oi cs b hi) (fun cs b=>hsel j oj cs b hoj) hQ hy h1
   have hfree':∀k ok,ops[k]?=some ok→k≠i→(listed.setIfInBounds j true).getD k true=false→
     (∀e∈ok.after,Region.binds md e=true→e.on≠i)→oi.apart ops ok=true:=fun k ok hk hki hun hno=>by
    refine hfree k ok hk hki ?_ hno
    by_cases hjk:j=k
    ·subst hjk;exact hjun
    ·rw[getD_set_ne true hjk] at hun;exact hun
   have hd':∀d∈ds,(listed.setIfInBounds j true).getD d true=false→Region.reachB md ops i n d=true:=fun d hm hun=>by
    refine hd d hm ?_
    by_cases hjk:j=d
    ·subst hjk;exact hjun
    ·rw[getD_set_ne true hjk] at hun;exact hun
   refine wpOp_mono (fun a' w' h3=>⟨h3.2.1,ih (listed.setIfInBounds j true) a' w' hfree' (hc.set hj) hd' (ready_mono hr (Ne.symm hji)) h3.1 (h3.2.1 hjd hS) ?_⟩) h2;rw[Array.setIfInBounds_comm _ _ hji];exact h3.2.2
theorem wpAnyLast_any{i:Nat}{oi:Oper}{v:Value}(hi:ops[i]?=some oi)(hsel:∀(j:Nat) (o:Oper) cs b,ops[j]?=some o→o.op≠ .select cs b)
  (hQ:∀c a w,Q (.panic c) (a.put oi.dst v) w→Q (.panic c) a w):
  ∀(fuel:Nat) (listed:Array Bool) (a:Act) (w:World),
   (∀j oj,ops[j]?=some oj→j≠i→listed.getD j true=false→(∀e∈oj.after,Region.binds md e=true→e.on≠i)→oi.apart ops oj=true)→
   i∈Region.ready md ops listed→Yields P ops oi v a→
   wpAnyLast P md ops Q S ds fuel (listed.setIfInBounds i true) (a.put oi.dst v) w→wpAnyLast P md ops Q S ds (fuel+1) listed a w:=by
 intro fuel
 induction fuel with
 |zero=>
  intro listed a w _ hr hy H;refine⟨fun h=>(by rw[h] at hr;cases hr),fun j hj=>?_⟩
  by_cases hji:j=i
  ·subst hji;exact(hy.yieldsIf (S:=fun _=>True)).wpOp hi trivial ⟨fun _ h=>h,H⟩
  ·have:=ready_mono hj hji;rw[H.1] at this
   cases this
 |succ fuel ih=>
  intro listed a w hfree hr hy H;refine⟨fun h=>(by rw[h] at hr;cases hr),fun j hj=>?_⟩
  by_cases hji:j=i
  ·subst hji;exact(hy.yieldsIf (S:=fun _=>True)).wpOp hi trivial ⟨fun _ h=>h,H⟩
  ·have h1:=H.2 j (ready_mono hj hji);obtain⟨hjun,oj,hoj,hall⟩:=mem_ready.1 hj;have hiun:=(mem_ready.1 hr).1
   have hnot:∀e∈oj.after,Region.binds md e=true→e.on≠i:=fun e he hb heq=>by
    have h1:=hall e he hb;rw[heq] at h1
    rcases Nat.lt_or_ge i listed.size with h'|h'
    ·simp[h'] at hiun h1;rw[hiun] at h1;cases h1
    ·simp[Array.getElem?_eq_none h'] at h1
   have h2:=wpOp_put hoj (hfree j oj hoj hji hjun hnot) (fun cs b=>hsel i oi cs b hi) (fun cs b=>hsel j oj cs b hoj) hQ hy h1
   have hfree':∀k ok,ops[k]?=some ok→k≠i→(listed.setIfInBounds j true).getD k true=false→
     (∀e∈ok.after,Region.binds md e=true→e.on≠i)→oi.apart ops ok=true:=fun k ok hk hki hun hno=>by
    refine hfree k ok hk hki ?_ hno
    by_cases hjk:j=k
    ·subst hjk;exact hjun
    ·rw[getD_set_ne true hjk] at hun;exact hun
   refine wpOp_mono (fun a' w' h3=>⟨h3.2.1,ih (listed.setIfInBounds j true) a' w' hfree' (ready_mono hr (Ne.symm hji)) h3.1 ?_⟩) h2;rw[Array.setIfInBounds_comm _ _ hji];exact h3.2.2
theorem wpAnyLast_take{i:Nat}{oi:Oper}{v:Value}{fuel:Nat}{listed:Array Bool}{a:Act}{w:World}(hi:ops[i]?=some oi)
  (hs:Region.noSelect ops=true) (hf:Region.free md ops listed i=true) (hr:(Region.ready md ops listed).contains i=true)
  (hc:Region.closedB md ops listed=true) (hl:Region.lastB md ops listed ds i=true)
  (hQ:∀c a w,Q (.panic c) (a.put oi.dst v) w→Q (.panic c) a w) (hy:YieldsIf P ops S oi v a) (hS:S w)
  (h:wpAnyLast P md ops Q S ds fuel (listed.setIfInBounds i true) (a.put oi.dst v) w):wpAnyLast P md ops Q S ds (fuel+1) listed a w:=
 wpAnyLast_first hi (Region.noSelect_spec hs) hQ ops.size fuel listed a w (Region.free_spec hi hf) (Region.closedB_spec hc)
  (fun d hm hun=>by have:=List.all_eq_true.1 hl d hm;rw[hun] at this;simpa using this) (by simpa using hr) hy hS h
theorem wpAnyLast_all{rs:List Nat}{fuel:Nat}{listed:Array Bool}{a:Act}{w:World}(hr:Region.ready md ops listed=rs)(hne:rs≠ [])
  (h:∀i∈rs,wpOp P ops Q i (fun a' w'=>(i∉ds→S w→S w')∧wpAnyLast P md ops Q S ds fuel (listed.setIfInBounds i true) a' w') a w):wpAnyLast P md ops Q S ds (fuel+1) listed a w:=
 ⟨fun h0=>absurd (hr▸h0) hne,hr▸h⟩
theorem wpAnyLast_done{listed:Array Bool}{a:Act}{w:World}(hr:Region.ready md ops listed= [])(h:Q .normal a w):
  ∀fuel,wpAnyLast P md ops Q S ds fuel listed a w
 |0=>⟨hr,h⟩
 |_+1=>⟨fun _=>h,by rw[hr];simp⟩
theorem wp_region_last{id:Nat}{a:Act}{w:World}(hm:P.follows .mixedOrders=true)
  (h:wpAnyLast P .any ops Q S ds ops.size (Array.replicate ops.size false) a { w with drawn:=w.drawn+1 }):(Code.region id ops true).wp P Q a w:=
 wp_region_any hm (wpAny_of_last _ _ _ _ h)
end
section
variable {P:Program} {ops:Array Oper} {Q:Exit→Act→World→Prop} {md:Region.Mode} {S:World→Prop} {ds:List Nat}
def AllReadyL(P:Program)(md:Region.Mode)(ops:Array Oper)(Q:Exit→Act→World→Prop)(S:World→Prop)(ds:List Nat)(fuel:Nat)(listed:Array Bool)(a:Act)(w:World)(rs:List Nat):Prop:=
 ∀i∈rs,wpOp P ops Q i (fun a' w'=>(i∉ds→S w→S w')∧wpAnyLast P md ops Q S ds fuel (listed.setIfInBounds i true) a' w') a w
theorem AllReadyL.nil{fuel:Nat}{listed:Array Bool}{a:Act}{w:World} :AllReadyL P md ops Q S ds fuel listed a w []:=fun _ h=>by cases h
theorem AllReadyL.cons{fuel:Nat}{listed:Array Bool}{a:Act}{w:World}{i:Nat}{o:Oper}{rs:List Nat}(ho:ops[i]?=some o)(hd:i∉ds)
  (h:∀K':Act→World→Prop,Shut (∀a w,S w→(S w→wpAnyLast P md ops Q S ds fuel (listed.setIfInBounds i true) a w)→K' a w)→if Region.wanted o (yielded ops a.tmps)=true then Oper.wp P o a w K' Q else K' (a.put o.dst undef) w)
  (hs:AllReadyL P md ops Q S ds fuel listed a w rs):AllReadyL P md ops Q S ds fuel listed a w (i::rs):=fun j hj=>by
 rcases List.mem_cons.1 hj with rfl|hj
 ·exact wpOp_step ho (fun K' hK=>h K' (fun a w hS hW=>hK a w ⟨fun _ _=>hS,hW hS⟩))
 ·exact hs j hj
theorem AllReadyL.cons_last{fuel:Nat}{listed:Array Bool}{a:Act}{w:World}{i:Nat}{o:Oper}{rs:List Nat}(ho:ops[i]?=some o)(hd:i∈ds)
  (h:∀K':Act→World→Prop,Shut (∀a w,wpAnyLast P md ops Q S ds fuel (listed.setIfInBounds i true) a w→K' a w)→if Region.wanted o (yielded ops a.tmps)=true then Oper.wp P o a w K' Q else K' (a.put o.dst undef) w)
  (hs:AllReadyL P md ops Q S ds fuel listed a w rs):AllReadyL P md ops Q S ds fuel listed a w (i::rs):=fun j hj=>by
 rcases List.mem_cons.1 hj with rfl|hj
 ·exact wpOp_step ho (fun K' hK=>h K' (fun a w hW=>hK a w ⟨fun hn=>absurd hd hn,hW⟩))
 ·exact hs j hj
theorem wpAnyLast_ready{rs:List Nat}{fuel:Nat}{listed:Array Bool}{a:Act}{w:World}(hr:Region.ready md ops listed=rs)(hne:rs≠ [])
  (h:AllReadyL P md ops Q S ds fuel listed a w rs):wpAnyLast P md ops Q S ds (fuel+1) listed a w:=wpAnyLast_all hr hne h
theorem start_{id n:Nat}{a:Act}{w:World}(l:Array Bool)(hm:P.follows .mixedOrders=true)(hn:ops.size=n)(hl:Array.replicate n false=l)(hS:S w.drew)
  (h:S w.drew→wpAnyLast P .any ops Q S ds n l a w.drew):(Code.region id ops true).wp P Q a w:=by
 subst hn;subst hl;exact wp_region_last hm (h hS)
def takeB(md:Region.Mode)(ops:Array Oper)(ds:List Nat)(l l':Array Bool)(i:Nat):Bool:=
 Region.noSelect ops && Region.free md ops l i && (Region.ready md ops l).contains i && Region.closedB md ops l && Region.lastB md ops l ds i && (l.setIfInBounds i true==l')
theorem take_{i:Nat}{N:Option Tmp}{oi:Oper}{v:Value}{fuel:Nat}{l:Array Bool}{a:Act}{w:World}(l':Array Bool)(hi:ops[i]?=some oi)(hN:oi.dst=N)(hc:takeB md ops ds l l' i=true)
  (hQ:∀c a w,Q (.panic c) (a.put oi.dst v) w→Q (.panic c) a w) (hy:YieldsIf P ops S oi v a) (hS:S w) {a':Act} (ha:a.put N v=a')
  (h:wpAnyLast P md ops Q S ds fuel l' a' w):wpAnyLast P md ops Q S ds (fuel+1) l a w:=by
 subst ha;subst hN;simp only[takeB,Bool.and_eq_true,beq_iff_eq] at hc;obtain⟨⟨⟨⟨⟨h1,h2⟩,h3⟩,h4⟩,h5⟩,h6⟩:=hc;subst h6;exact wpAnyLast_take hi h1 h2 h3 h4 h5 hQ hy hS h
def anyB(md:Region.Mode)(ops:Array Oper)(l l':Array Bool)(i:Nat):Bool:=
 Region.noSelect ops && Region.free md ops l i && (Region.ready md ops l).contains i && (l.setIfInBounds i true==l')
theorem pure_{i:Nat}{N:Option Tmp}{oi:Oper}{v:Value}{fuel:Nat}{l:Array Bool}{a:Act}{w:World}(l':Array Bool)(hi:ops[i]?=some oi)(hN:oi.dst=N)(hc:anyB md ops l l' i=true)
  (hQ:∀c a w,Q (.panic c) (a.put oi.dst v) w→Q (.panic c) a w) (hy:Yields P ops oi v a) {a':Act} (ha:a.put N v=a')
  (h:wpAnyLast P md ops Q S ds fuel l' a' w):wpAnyLast P md ops Q S ds (fuel+1) l a w:=by
 subst ha;subst hN;simp only[anyB,Bool.and_eq_true,beq_iff_eq] at hc;obtain⟨⟨⟨h1,h2⟩,h3⟩,h6⟩:=hc;subst h6;exact wpAnyLast_any hi (Region.noSelect_spec h1) hQ fuel l a w (Region.free_spec hi h2) (by simpa using h3) hy h
def readyB(md:Region.Mode)(ops:Array Oper)(l l':Array Bool)(i:Nat):Bool:=(Region.ready md ops l== [i]) && (l.setIfInBounds i true==l')
theorem one_{i:Nat}{N:Option Tmp}{oi:Oper}{fuel:Nat}{l:Array Bool}{a:Act}{w:World}(l':Array Bool)(hi:ops[i]?=some oi)(hN:oi.dst=N)(hc:readyB md ops l l' i=true)(hd:i∉ds)
  (h:∀K:Act→World→Prop,Shut (∀a' w',S w'→(S w'→wpAnyLast P md ops Q S ds fuel l' a' w')→K a' w')→if Region.wanted oi (yielded ops a.tmps)=true then Oper.wp P oi a w K Q else K (a.put N undef) w):
  wpAnyLast P md ops Q S ds (fuel+1) l a w:=by
 subst hN;simp only[readyB,Bool.and_eq_true,beq_iff_eq] at hc;obtain⟨h1,h2⟩:=hc;subst h2;exact wpAnyLast_ready h1 (by simp) (AllReadyL.cons hi hd (fun K hK=>h K hK) AllReadyL.nil)
theorem last_{i:Nat}{N:Option Tmp}{oi:Oper}{fuel:Nat}{l:Array Bool}{a:Act}{w:World}(l':Array Bool)(hi:ops[i]?=some oi)(hN:oi.dst=N)(hc:readyB md ops l l' i=true)(hd:i∈ds)
  (h:∀K:Act→World→Prop,Shut (∀a' w',wpAnyLast P md ops Q S ds fuel l' a' w'→K a' w')→if Region.wanted oi (yielded ops a.tmps)=true then Oper.wp P oi a w K Q else K (a.put N undef) w):
  wpAnyLast P md ops Q S ds (fuel+1) l a w:=by
 subst hN;simp only[readyB,Bool.and_eq_true,beq_iff_eq] at hc;obtain⟨h1,h2⟩:=hc;subst h2;exact wpAnyLast_ready h1 (by simp) (AllReadyL.cons_last hi hd (fun K hK=>h K hK) AllReadyL.nil)
theorem done_{l:Array Bool}{a:Act}{w:World}{n:Nat}(hr:(Region.ready md ops l== [])=true)(h:Q .normal a w):wpAnyLast P md ops Q S ds n l a w:=wpAnyLast_done (by simpa using hr) h n
theorem two_{i j:Nat}{Ni Nj:Option Tmp}{oi oj:Oper}{fuel:Nat}{l:Array Bool}{a:Act}{w:World}(li lj:Array Bool)(hi:ops[i]?=some oi)(hj:ops[j]?=some oj)(hNi:oi.dst=Ni)(hNj:oj.dst=Nj)
  (hc:(Region.ready md ops l== [i,j] && l.setIfInBounds i true==li && l.setIfInBounds j true==lj)=true) (hdi:i∉ds) (hdj:j∉ds)
  (h1:∀K:Act→World→Prop,Shut (∀a' w',S w'→(S w'→wpAnyLast P md ops Q S ds fuel li a' w')→K a' w')→if Region.wanted oi (yielded ops a.tmps)=true then Oper.wp P oi a w K Q else K (a.put Ni undef) w)
  (h2:∀K:Act→World→Prop,Shut (∀a' w',S w'→(S w'→wpAnyLast P md ops Q S ds fuel lj a' w')→K a' w')→if Region.wanted oj (yielded ops a.tmps)=true then Oper.wp P oj a w K Q else K (a.put Nj undef) w):
  wpAnyLast P md ops Q S ds (fuel+1) l a w:=by
 subst hNi;subst hNj;simp only[Bool.and_eq_true,beq_iff_eq] at hc;obtain⟨⟨h3,h4⟩,h5⟩:=hc;subst h4;subst h5;exact wpAnyLast_ready h3 (by simp) (AllReadyL.cons hi hdi (fun K hK=>h1 K hK) (AllReadyL.cons hj hdj (fun K hK=>h2 K hK) AllReadyL.nil))
def putAll:Act→List (Tmp×Value)→Act
 |a,[]=>a
 |a,(n,v)::r=>putAll (a.put (some n) v) r
theorem join_{σ:Type}{fuel:Nat}{l:Array Bool}{a:Act}{w:World}(fuel':Nat)(l':Array Bool)(ns:σ→List (Tmp×Value))(F:σ→World→Prop)
  (hcont:∀s w',F s w'→wpAnyLast P md ops Q S ds fuel' l' (putAll a (ns s)) w')
  (h:(∀s w',F s w'→wpAnyLast P md ops Q S ds fuel' l' (putAll a (ns s)) w')→wpAnyLast P md ops Q S ds fuel l a w):wpAnyLast P md ops Q S ds fuel l a w:=h hcont
theorem norm_{fuel:Nat}{l:Array Bool}{a a':Act}{w:World}(ha:a=a')(h:wpAnyLast P md ops Q S ds fuel l a' w):wpAnyLast P md ops Q S ds fuel l a w:=by
 subst ha;exact h
theorem call_{oi:Oper}{N:Option Tmp}{a:Act}{w:World}{K:Act→World→Prop}(f:FuncId)(args:Array Value)(hw:Region.wanted oi (yielded ops a.tmps)=true)(hN:oi.dst=N)(hrun:(execOp a.eval oi).run P w= .ok (.enter f args) w)
  (h:Calls P f args w fun e w'=>∃v,e= .returned v∧K (a.put N v) w'):if Region.wanted oi (yielded ops a.tmps)=true then Oper.wp P oi a w K Q else K (a.put N undef) w:=by
 rw[if_pos hw];subst hN;unfold Oper.wp;rw[hrun,Oper.upon_enter];refine h.mono fun e w'' hh=>?_
 obtain⟨v,rfl,hk⟩:=hh;exact hk
theorem enters_{f:FuncId}{fn:Func}(hf:P.funcs[f]?=some fn)(hname:(fn.name== "runtime.NumGoroutine")=false)(hb:fn.body.isSome=true)(args:Array Value)(w:World):(callFunc f args).run P w= .ok (.enter f args) w:=by
 have h1:fn.name≠ "runtime.NumGoroutine" :=by simpa using hname
 obtain⟨c,hc⟩:=Option.isSome_iff_exists.1 hb;simp[callFunc,hf,h1,hc]
theorem goes_{oi:Oper}{N:Option Tmp}{a:Act}{w:World}{K:Act→World→Prop}{f:FuncId}{fn:Func}{as_:Array Operand}{ts:Array TypeId}(hf:P.funcs[f]?=some fn)(hname:(fn.name== "runtime.NumGoroutine")=false)(hb:fn.body.isSome=true)(args:Array Value)
  (hw:Region.wanted oi (yielded ops a.tmps)=true) (hN:oi.dst=N) (hop:oi.op= .call { callee:= .value (.func f),args:=as_,argTypes:=ts }) (hargs:as_.map a.eval=args)
  (h:Calls P f args w fun e w'=>∃v,e= .returned v∧K (a.put N v) w'):if Region.wanted oi (yielded ops a.tmps)=true then Oper.wp P oi a w K Q else K (a.put N undef) w:=by
 refine call_ f args hw hN ?_ h;have he:=enters_ hf hname hb args w;unfold execOp;simp[hop,resolve,Deferred.ofValue,invoke,Act.eval,hargs,he]
theorem goesL_{rest:List Oper}{oi:Oper}{a:Act}{w:World}(N:Option Tmp)(hd:oi.dst=N)(hg:oi.guard=none){f:FuncId}{fn:Func}{as_:Array Operand}{ts:Array TypeId}(hf:P.funcs[f]?=some fn)(hname:(fn.name== "runtime.NumGoroutine")=false)(hb:fn.body.isSome=true)(args:Array Value)
  (hop:oi.op= .call { callee:= .value (.func f),args:=as_,argTypes:=ts }) (hargs:as_.map a.eval=args)
  (h:Calls P f args w fun e w'=>∃v,e= .returned v∧wpList P ops Q rest (a.put N v) w'):wpList P ops Q (oi::rest) a w:=by
 refine wpList_plain hg fun K hK=>?_
 have he:=enters_ hf hname hb args w
 have hrun:(execOp a.eval oi).run P w= .ok (.enter f args) w:=by
  unfold execOp;simp[hop,resolve,Deferred.ofValue,invoke,Act.eval,hargs,he]
 unfold Oper.wp;rw[hrun,Oper.upon_enter];refine h.mono fun e w'' hh=>?_
 obtain⟨v,rfl,hk⟩:=hh;subst hd;exact hK _ _ hk
theorem value_{oi:Oper}{N:Option Tmp}{a:Act}{w w1:World}{v:Value}{K:Act→World→Prop}(hw:Region.wanted oi (yielded ops a.tmps)=true)(hN:oi.dst=N)(hrun:(execOp a.eval oi).run P w= .ok (.value v) w1)
  (h:K (a.put N v) w1):if Region.wanted oi (yielded ops a.tmps)=true then Oper.wp P oi a w K Q else K (a.put N undef) w:=by
 rw[if_pos hw];subst hN;unfold Oper.wp;rw[hrun];exact h
theorem skip_{oi:Oper}{a:Act}{w w1:World}{K:Act→World→Prop}(hw:Region.wanted oi (yielded ops a.tmps)=true)(hN:oi.dst=none)(hrun:(execOp a.eval oi).run P w= .ok .skip w1)
  (h:K a w1):if Region.wanted oi (yielded ops a.tmps)=true then Oper.wp P oi a w K Q else K (a.put none undef) w:=by
 rw[if_pos hw];unfold Oper.wp;rw[hrun];show K (a.put oi.dst undef) w1;rw[hN];exact h
theorem i64_w(n:Int):IntKind.i64.wrap n=Go.RowKit.wrap64 n:=by unfold Go.RowKit.wrap64;exact IntKind.wrap_i64 n
theorem i32_w(n:Int):IntKind.i32.wrap n=Go.RowKit.wrap32 n:=by unfold Go.RowKit.wrap32;exact IntKind.wrap_i32 n
end
end Go.Proofs.YtfghldonnffldaaGreatDoorW.PrintLast
namespace Go.Proofs.YtfghldonnffldaaGreatDoorW.PrintLast
open Go.Proofs.YtfghldonnffldaaGreatDoorW.PrintWords (Aside0)
def needsOf(md:Region.Mode)(o:Oper):List Nat:=(o.after.toList.filter (fun e=>Region.binds md e)).map (fun e=>e.on)
def clashOf(md:Region.Mode)(ops:Array Oper)(i:Nat)(oi:Oper):List Nat:=(List.range ops.size).filter fun j=>!(j==i) && match ops[j]? with
 |some oj=>!(oj.after.any (fun e=>Region.binds md e && e.on==i) || oi.apart ops oj)
 |none=>false
def rtab(md:Region.Mode)(ops:Array Oper):Bool×List (List Nat×List Nat):=(Region.noSelect ops,(List.range ops.size).map fun i=>match ops[i]? with
 |some o=>(needsOf md o,clashOf md ops i o)
 |none=>([],[]))
def readyAt(T:List (List Nat×List Nat))(l:List Bool)(i:Nat):Bool:=!l.getD i true && match T[i]? with
 |some r=>r.1.all (fun j=>l.getD j false)
 |none=>false
def readyT(T:List (List Nat×List Nat))(l:List Bool):List Nat:=(List.range T.length).filter (readyAt T l)
def freeT(T:List (List Nat×List Nat))(l:List Bool)(i:Nat):Bool:=match T[i]? with
 |some r=>r.2.all (fun j=>l.getD j true)
 |none=>false
def closedT(T:List (List Nat×List Nat))(l:List Bool):Bool:=(List.range T.length).all fun j=>!l.getD j false || match T[j]? with
 |some r=>r.1.all (fun k=>l.getD k false)
 |none=>true
def reachT(T:List (List Nat×List Nat))(i:Nat):Nat→Nat→Bool
 |0,_=>false
 |fuel+1,d=>match T[d]? with
  |some r=>r.1.any fun j=>j==i || reachT T i fuel j
  |none=>false
def lastT(T:List (List Nat×List Nat))(l:List Bool)(ds:List Nat)(i:Nat):Bool:=ds.all fun d=>l.getD d true || reachT T i T.length d
section
variable {md:Region.Mode} {ops:Array Oper} {T:Bool×List (List Nat×List Nat)} {l l' li lj lk:Array Bool} {ds:List Nat} {i j k:Nat}
theorem gd(l:Array Bool)(j:Nat)(b:Bool):l.getD j b=l.toList.getD j b:=by simp[Array.getD_eq_getD_getElem?,List.getD_eq_getElem?_getD]
theorem needs_all(o:Oper)(p:Nat→Bool):o.after.all (fun e=>!Region.binds md e || p e.on)=(needsOf md o).all p:=by
 unfold needsOf;rw[←Array.all_toList]
 induction o.after.toList with
 |nil=>rfl
 |cons e r ih=>
  rw[List.all_cons,ih,List.filter_cons]
  cases h:Region.binds md e<;>simp
theorem needs_any(o:Oper)(p:Nat→Bool):o.after.any (fun e=>Region.binds md e && p e.on)=(needsOf md o).any p:=by
 unfold needsOf;rw[←Array.any_toList]
 induction o.after.toList with
 |nil=>rfl
 |cons e r ih=>
  rw[List.any_cons,ih,List.filter_cons]
  cases h:Region.binds md e<;>simp
theorem rtab_length:(rtab md ops).2.length=ops.size:=by simp[rtab]
theorem rtab_some{o:Oper}(h:ops[i]?=some o):(rtab md ops).2[i]?=some (needsOf md o,clashOf md ops i o):=by
 have hi:=(Array.getElem?_eq_some_iff.1 h).1;unfold rtab;rw[List.getElem?_map,List.getElem?_range hi,Option.map_some,h]
theorem rtab_none(h:ops[i]?=none):(rtab md ops).2[i]?=none:=by
 have hi:ops.size≤i:=Array.getElem?_eq_none_iff.1 h;exact List.getElem?_eq_none (by rw[rtab_length];exact hi)
theorem readyAt_eq:readyAt (rtab md ops).2 l.toList i=(!l.getD i true && ((ops[i]?).map (·.after.all fun e=>!Region.binds md e || l.getD e.on false)).getD false):=by
 unfold readyAt;rw[gd]
 cases h:ops[i]? with
 |none=>rw[rtab_none h];rfl
 |some o=>
  rw[rtab_some h];simp only[Option.map_some,Option.getD_some];rw[←needs_all];simp only[gd]
theorem ready_eq:Region.ready md ops l=readyT (rtab md ops).2 l.toList:=by
 unfold Region.ready readyT;rw[rtab_length];refine List.filter_congr (fun i _=>?_);rw[readyAt_eq]
theorem free_eq:Region.free md ops l i=freeT (rtab md ops).2 l.toList i:=by
 unfold Region.free freeT
 cases h:ops[i]? with
 |none=>rw[rtab_none h]
 |some oi=>
  rw[rtab_some h];simp only[clashOf];rw[List.all_filter]
  congr 1
  funext j
  rw[gd]
  cases hj:ops[j]? with
  |none=>cases (j==i)<;>cases (l.toList.getD j true)<;>simp
  |some oj=>
   cases (j==i)<;>cases (l.toList.getD j true)<;>cases (oj.after.any (fun e=>Region.binds md e && e.on==i) || oi.apart ops oj)<;>simp_all
theorem closed_eq:Region.closedB md ops l=closedT (rtab md ops).2 l.toList:=by
 unfold Region.closedB closedT;rw[rtab_length]
 congr 1
 funext j
 rw[gd]
 cases h:ops[j]? with
 |none=>rw[rtab_none h]
 |some o=>
  rw[rtab_some h];simp only;rw[←needs_all];simp only[gd]
theorem reach_eq:∀(fuel d:Nat),Region.reachB md ops i fuel d=reachT (rtab md ops).2 i fuel d
 |0,_=>rfl
 |fuel+1,d=>by
  unfold Region.reachB reachT
  cases h:ops[d]? with
  |none=>rw[rtab_none h]
  |some o=>
   rw[rtab_some h];simp only;rw[←needs_any]
   congr 1
   funext e
   rw[reach_eq fuel]
theorem last_eq:Region.lastB md ops l ds i=lastT (rtab md ops).2 l.toList ds i:=by
 unfold Region.lastB lastT;rw[rtab_length]
 congr 1
 funext d
 rw[gd,reach_eq]
theorem readyAt_mem(h:readyAt T.2 l.toList i=true)(hT:rtab md ops=T):(Region.ready md ops l).contains i=true:=by
 subst hT;rw[ready_eq];unfold readyT;rw[List.contains_iff_mem,List.mem_filter,List.mem_range];refine⟨?_,h⟩;unfold readyAt at h;rw[Bool.and_eq_true] at h
 cases hq:(rtab md ops).2[i]? with
 |none=>rw[hq] at h;simp at h
 |some r=>exact(List.getElem?_eq_some_iff.1 hq).1
theorem set_of(h:(l.toList.set i true==l'.toList)=true):(l.setIfInBounds i true==l')=true:=by
 rw[beq_iff_eq] at h ⊢;apply Array.ext';rw[Array.toList_setIfInBounds];exact h
def anyT(T:Bool×List (List Nat×List Nat))(l l':List Bool)(i:Nat):Bool:=T.1 && freeT T.2 l i && readyAt T.2 l i && (l.set i true==l')
theorem any_of(hT:rtab md ops=T)(h:anyT T l.toList l'.toList i=true):anyB md ops l l' i=true:=by
 simp only[anyT,Bool.and_eq_true] at h;obtain⟨⟨⟨h1,h2⟩,h3⟩,h4⟩:=h;have h5:=readyAt_mem h3 hT;have h6:=set_of h4;subst hT;simp only[anyB,Bool.and_eq_true];exact⟨⟨⟨h1,by rw[free_eq];exact h2⟩,h5⟩,h6⟩
def takeT(T:Bool×List (List Nat×List Nat))(ds:List Nat)(l l':List Bool)(i:Nat):Bool:=T.1 && freeT T.2 l i && readyAt T.2 l i && closedT T.2 l && lastT T.2 l ds i && (l.set i true==l')
theorem take_of(hT:rtab md ops=T)(h:takeT T ds l.toList l'.toList i=true):takeB md ops ds l l' i=true:=by
 simp only[takeT,Bool.and_eq_true] at h;obtain⟨⟨⟨⟨⟨h1,h2⟩,h3⟩,h4⟩,h5⟩,h6⟩:=h;have h7:=readyAt_mem h3 hT;have h8:=set_of h6;subst hT;simp only[takeB,Bool.and_eq_true];exact⟨⟨⟨⟨⟨h1,by rw[free_eq];exact h2⟩,h7⟩,by rw[closed_eq];exact h4⟩,by rw[last_eq];exact h5⟩,h8⟩
theorem one_of(hT:rtab md ops=T)(h:(readyT T.2 l.toList== [i] && l.toList.set i true==l'.toList)=true):readyB md ops l l' i=true:=by
 simp only[Bool.and_eq_true] at h;obtain⟨h1,h2⟩:=h;subst hT;simp only[readyB,Bool.and_eq_true];exact⟨by rw[ready_eq];exact h1,set_of h2⟩
theorem two_of(hT:rtab md ops=T)(h:(readyT T.2 l.toList== [i,j] && l.toList.set i true==li.toList && l.toList.set j true==lj.toList)=true):(Region.ready md ops l== [i,j] && l.setIfInBounds i true==li && l.setIfInBounds j true==lj)=true:=by
 simp only[Bool.and_eq_true] at h ⊢;obtain⟨⟨h1,h2⟩,h3⟩:=h;subst hT;exact⟨⟨by rw[ready_eq];exact h1,set_of h2⟩,set_of h3⟩
theorem done_of(hT:rtab md ops=T)(h:(readyT T.2 l.toList== [])=true):(Region.ready md ops l== [])=true:=by
 subst hT;rw[ready_eq];exact h
def upM(B:List Nat)(d:Nat):List Nat→Nat
 | []=>0
 |n::r=>(2 ^ n ||| (if n<d then B.getD n 0 else 0)) ||| upM B d r
def waitsOk(T:List (List Nat×List Nat))(B:List Nat):Bool:=(List.range T.length).all fun d=>match T[d]? with
 |some r=>(B.getD d 0 ||| upM B d r.1)==upM B d r.1
 |none=>false
theorem upM_bit{B:List Nat}{d i:Nat} :∀ {ns:List Nat},(upM B d ns).testBit i=true→∃n∈ns,n=i∨(n<d∧(B.getD n 0).testBit i=true)
 | [],h=>by simp[upM] at h
 |n::r,h=>by
  unfold upM at h;rw[Nat.testBit_or,Nat.testBit_or,Bool.or_eq_true,Bool.or_eq_true] at h
  rcases h with (h|h)|h
  ·rw[Nat.testBit_two_pow] at h;exact⟨n,List.mem_cons_self,.inl (by simpa using h)⟩
  ·by_cases hn:n<d
   ·rw[if_pos hn] at h;exact⟨n,List.mem_cons_self,.inr ⟨hn,h⟩⟩
   ·rw[if_neg hn] at h;simp at h
  ·obtain⟨m,hm,h2⟩:=upM_bit h;exact⟨m,List.mem_cons_of_mem _ hm,h2⟩
theorem reach_bit{T:List (List Nat×List Nat)}{B:List Nat}(hB:waitsOk T B=true):∀(fuel d:Nat),d<fuel→d<T.length→(B.getD d 0).testBit i=true→reachT T i fuel d=true
 |0,d,h,_,_=>by omega
 |fuel+1,d,h,hd,hb=>by
  have h1:=List.all_eq_true.1 hB d (List.mem_range.2 hd)
  cases hr:T[d]? with
  |none=>rw[hr] at h1;simp at h1
  |some r=>
   rw[hr] at h1;simp only[beq_iff_eq] at h1;have h2:(upM B d r.1).testBit i=true:=by rw[←h1,Nat.testBit_or,hb,Bool.true_or]
   obtain⟨n,hn,h3⟩:=upM_bit h2;unfold reachT;rw[hr];simp only;rw[List.any_eq_true];refine⟨n,hn,?_⟩
   rcases h3 with rfl|⟨h4,h5⟩
   ·simp
   ·rw[reach_bit hB fuel n (by omega) (by omega) h5,Bool.or_true]
def lastW(T:List (List Nat×List Nat))(B:List Nat)(l:List Bool)(ds:List Nat)(i:Nat):Bool:=ds.all fun d=>l.getD d true || (decide (d<T.length) && (B.getD d 0).testBit i)
def takeW(T:Bool×List (List Nat×List Nat))(B:List Nat)(ds:List Nat)(l l':List Bool)(i:Nat):Bool:=T.1 && freeT T.2 l i && readyAt T.2 l i && closedT T.2 l && lastW T.2 B l ds i && (l.set i true==l')
theorem take_ofW{B:List Nat}(hT:rtab md ops=T)(hB:waitsOk T.2 B=true)(h:takeW T B ds l.toList l'.toList i=true):takeB md ops ds l l' i=true:=by
 refine take_of hT ?_;simp only[takeW,takeT,Bool.and_eq_true] at h ⊢;obtain⟨⟨⟨⟨⟨h1,h2⟩,h3⟩,h4⟩,h5⟩,h6⟩:=h;refine⟨⟨⟨⟨⟨h1,h2⟩,h3⟩,h4⟩,?_⟩,h6⟩;unfold lastW at h5;unfold lastT;rw[List.all_eq_true] at h5 ⊢;intro d hd;have h7:=h5 d hd;rw[Bool.or_eq_true,Bool.and_eq_true,decide_eq_true_eq] at h7
 rcases h7 with h7|⟨h8,h9⟩
 ·rw[h7,Bool.true_or]
 ·rw[reach_bit hB _ d h8 h8 h9,Bool.or_true]
theorem with_tabW{P:Program}{Q:Exit→Act→World→Prop}{S:World→Prop}{n:Nat}{a:Act}{w:World}{B:List Nat}(hT:rtab md ops=T)(hB:waitsOk T.2 B=true)(h:Aside0 (rtab md ops=T)→Aside0 (waitsOk T.2 B=true)→wpAnyLast P md ops Q S ds n l a w):wpAnyLast P md ops Q S ds n l a w:=h ⟨hT⟩ ⟨hB⟩
end
def opsIn:Code→Nat→Option (Array Oper)
 | .region id ops _,k=>if id==k then some ops else none
 | .seq a b,k=>match opsIn a k with
  |some o=>some o
  |none=>opsIn b k
 | .cond _ a b,k=>match opsIn a k with
  |some o=>some o
  |none=>opsIn b k
 | .block _ c,k=>opsIn c k
 | .loop c,k=>opsIn c k
 | .scope c,k=>opsIn c k
 | .rangeFunc _ _ a b,k=>match opsIn a k with
  |some o=>some o
  |none=>opsIn b k
 |_,_=>none
def opsOf(f:Func)(k:Nat):Array Oper:=((f.body.bind fun c=>opsIn c k)).getD #[]
end Go.Proofs.YtfghldonnffldaaGreatDoorW.PrintLast
namespace Go.Proofs.YtfghldonnffldaaGreatDoorW.PrintLast
section
variable {P:Program} {ops:Array Oper} {Q:Exit→Act→World→Prop} {md:Region.Mode} {S:World→Prop} {ds:List Nat} {T:Bool×List (List Nat×List Nat)}
end
end Go.Proofs.YtfghldonnffldaaGreatDoorW.PrintLast
namespace Go.Proofs.YtfghldonnffldaaGreatDoorW.PrintLast
section
variable {P:Program} {ops:Array Oper} {Q:Exit→Act→World→Prop} {md:Region.Mode} {T:Bool×List (List Nat×List Nat)} {B:List Nat} {O:List Nat} {b:Nat→Bool} {i j n:Nat}
end
end Go.Proofs.YtfghldonnffldaaGreatDoorW.PrintLast
namespace Go.Proofs.YtfghldonnffldaaGreatDoorW.PrintWords
open Go.RowKit
namespace Kd
end Kd
namespace Kd
def tag{α:Type}(f:Nat→Nat)(d:Kd α):Kd (α×Nat) where
 sz:=d.sz
 E:=d.E
 K:=fun w x cs=>d.K w x.1 cs
 M:=fun w base ok x cs=>d.M w base (fun k=>ok k∧f k=x.2) x.1 cs
 K_len:=fun h=>d.K_len h
 K_one:=fun h=>d.K_one h
 K_below:=fun hb h=>d.K_below hb h
 K_of_M:=fun h=>d.K_of_M h
 M_mono:=fun hok h=>d.M_mono (fun k hk=>⟨hok k hk.1,hk.2⟩) h
 M_bound:=fun h=>d.M_mono (fun _ hk=>⟨⟨hk.1.1,hk.2⟩,hk.1.2⟩) (d.M_bound h)
 M_move:=fun hm h=>d.M_move (fun k hk=>hm k hk.1) h
 M_lower:=fun hb h=>d.M_lower hb h
def bare{α:Type}(d:Kd α):Kd α where
 sz:=d.sz
 E:=d.E
 K:=d.K
 M:=fun w base _ x cs=>d.M w base (fun _=>False) x cs
 K_len:=fun h=>d.K_len h
 K_one:=fun h=>d.K_one h
 K_below:=fun hb h=>d.K_below hb h
 K_of_M:=fun h=>d.K_of_M h
 M_mono:=fun _ h=>h
 M_bound:=fun h=>h
 M_move:=fun _ h=>d.M_move (fun _ hk=>hk.elim) h
 M_lower:=fun hb h=>d.M_lower hb h
def raw(sz:Nat):Kd (List Value) where
 sz:=sz
 E:= []
 K:=fun _ x cs=>cs=x∧cs.length=sz∧∀u∈cs,u.oneCell'=true
 M:=fun _ _ _ x cs=>cs=x∧cs.length=sz∧∀u∈cs,u.oneCell'=true
 K_len:=fun h=>h.2.1
 K_one:=fun h=>h.2.2
 K_below:=fun _ h=>h
 K_of_M:=fun h=>h
 M_mono:=fun _ h=>h
 M_bound:=fun h=>h
 M_move:=fun _ h=>h
 M_lower:=fun _ h=>h
def S{α:Type}(d:Kd α)(e:Nat)(w:World)(base:Nat)(ok:Nat→Prop)(v:Value)(xs:List α):Prop:=∃f,(tag f d).R e w base ok v xs.zipIdx
section
variable {α β:Type} {d:Kd α} {d':Kd β} {e e':Nat} {w w1 W:World} {base b:Nat} {ok ok' okv oku:Nat→Prop} {u v:Value} {xs:List α} {ys:List β}
theorem zip_at{xs:List α}{j:Nat}{p:α}(h:xs[j]?=some p):xs.zipIdx[j]?=some (p,j):=by rw[List.getElem?_zipIdx,h,Nat.zero_add];rfl
theorem S_R(h:S d e w base ok v xs):d.R e w base ok v xs:=by
 obtain⟨f,h0,inner,ho,hr⟩:=h;rw[List.length_zipIdx] at ho;exact⟨h0,inner,ho,by have:=hr.1;rw[List.length_zipIdx] at this;exact this,fun j p hj=>d.M_mono (fun _ hk=>hk.1) (hr.2 j (p,j) (zip_at hj))⟩
theorem R_head{ad:Addr}{n cap:Nat}(h:d.R e w base ok (.slice (some ad) n cap) xs):∃g,ad=⟨g,0,none⟩:=by
 obtain⟨_,inner,ho,hr⟩:=h
 rcases ho.2 with ⟨hv,_⟩|⟨g,cap',cur,hv,_⟩
 ·cases hv
 ·injection hv with ha _ _
  injection ha with ha
  exact⟨g,ha⟩
theorem R_getA{ad:Addr}{n cap:Nat}(h:d.R e W base ok (.slice (some ad) n cap) xs)(z:α)(i:Int)(h0:0≤i)(h1:i<n):
  ∃c,c.length=d.sz∧d.M W base (fun k=>ok k∧some k≠(Value.slice (some ad) n cap).ownBlock) (xs.getD i.toNat z) c∧∀j u,c[j]?=some u→W.cell? (ad.add (i.toNat*d.sz+j))=some u:=by
 obtain⟨g,rfl⟩:=R_head h;obtain⟨c,hcl,hM,hcc,_⟩:=R_elem h z i h0 h1;refine⟨c,hcl,d.M_mono (fun k hk=>⟨hk.1,fun he=>hk.2 (by simpa [Value.ownBlock] using he)⟩) hM,fun j u hu=>?_⟩;rw[add_at,Nat.zero_add];exact hcc j u hu
theorem R_tight(hE:d.E= [])(h:d.R e w base ok v xs):d.R e w base (fun k=>some k=v.ownBlock) v xs:=by
 obtain⟨h0,inner,ho,hr⟩:=h;refine⟨fun k hk=>hk.symm,inner,ho,hr.imp_ (fun p c hp=>d.M_mono (fun k hk=>?_) (d.M_bound hp))⟩;obtain⟨_,_,_,q,hq,_⟩:=hk;rw[hE] at hq
 cases hq
theorem S_nil(d:Kd α)(e:Nat)(w:World)(base:Nat)(ok:Nat→Prop):S d e w base ok (.slice none 0 0) []:=⟨fun _=>0,R_nil _ _ _ _ _⟩
theorem S_mono(h:S d e w base ok v xs)(hok:∀k,ok k→ok' k):S d e w base ok' v xs:=by
 obtain⟨f,h⟩:=h;exact⟨f,R_mono h hok⟩
theorem S_bound(h:S d e w base ok v xs):S d e w base (fun k=>ok k∧base≤k∧k<w.heap.size∧∃q,q∈e::d.E∧∃cells,w.heap[k]?=some (.cells cells q (0,0))) v xs:=by
 obtain⟨f,h⟩:=h;exact⟨f,R_bound h⟩
theorem S_move(h:S d e w base ok v xs)(hm:∀k,ok k→w1.heap[k]?=w.heap[k]?):S d e w1 base ok v xs:=by
 obtain⟨f,h⟩:=h;exact⟨f,R_move h hm⟩
theorem S_lower{base':Nat}(h:S d e w base ok v xs)(hb:base'≤base):S d e w base' ok v xs:=by
 obtain⟨f,h⟩:=h;exact⟨f,R_lower h hb⟩
theorem S_step(h:S d e w base ok v xs)(hm:∀k,ok k→k<w.heap.size→w1.heap[k]?=w.heap[k]?):S d e w1 base ok v xs:=
 S_mono (S_move (S_bound h) (fun k hk=>hm k hk.1 hk.2.2.1)) (fun _ hk=>hk.1)
theorem S_below(h:S d e w base ok v xs)(hb:Below w.heap.size w w1):S d e w1 base ok v xs:=S_step h (fun k _ hk=>hb.block k hk)
theorem S_drew(h:S d e w base ok v xs):S d e w.drew base ok v xs:=S_below h (below_drew (Below.refl _ _))
theorem S_drewN(h:S d e w base ok v xs)(m:Nat):S d e (w.drewN m) base ok v xs:=S_below h (pw_below_drewN (Below.refl _ _) m)
theorem S_far(h:S d e w base ok v xs){p:Addr}(hok:∀k,ok k→k≠p.block)(u:Value):S d e (w.setCell p u) base ok v xs:=S_step h (fun k ho _=>Below.heap_setCell w p u k (hok k ho))
theorem S_typed(h:S d e w base ok v xs):∀k,v.ownBlock=some k→∃cells,w.heap[k]?=some (.cells cells e (0,0)):=R_typed (S_R h)
theorem S_lt(h:S d e w base ok v xs):∀k,v.ownBlock=some k→k<w.heap.size:=R_lt (S_R h)
theorem S_base(h:S d e w base ok v xs):∀k,v.ownBlock=some k→base≤k:=R_base (S_R h)
theorem S_elder'(h:S d e W base ok u xs)(hbase:∀k,v.ownBlock=some k→W.heap.size≤k)(hb:Below W.heap.size W w1):S d e w1 base (fun k=>ok k∧some k≠v.ownBlock) u xs:=by
 obtain⟨f,h⟩:=h;exact⟨f,R_elder' h hbase hb⟩
theorem S_new'(h:S d e w1 W.heap.size ok v xs)(hlt:∀k,u.ownBlock=some k→k<W.heap.size):S d e w1 W.heap.size (fun k=>ok k∧some k≠u.ownBlock) v xs:=by
 obtain⟨f,h⟩:=h;exact⟨f,R_new' h hlt⟩
theorem S_after{v1:Value}(h:S d e W base (fun k=>ok k∧some k≠v.ownBlock) u xs)(hg:W.grownBy w1 v.ownBlock)(hat:v1.ownBlock=v.ownBlock∨∃b,v1.ownBlock=some b∧W.heap.size≤b):S d e w1 base (fun k=>ok k∧some k≠v1.ownBlock) u xs:=by
 obtain⟨f,h⟩:=h;exact⟨f,R_after h hg hat⟩
theorem S_bare(h:(bare d).R e w base ok v xs):S d e w base ok v xs:=by
 obtain⟨h0,inner,ho,hr⟩:=h;refine⟨fun _=>0,h0,inner,by rw[List.length_zipIdx];exact ho,by rw[List.length_zipIdx];exact hr.1,fun j p hj=>?_⟩;rw[List.getElem?_zipIdx,Nat.zero_add] at hj;obtain⟨x,hx,rfl⟩:=Option.map_eq_some_iff.1 hj;exact d.M_mono (fun _ hk=>hk.elim) (hr.2 j x hx)
theorem R_tag{f f':Nat→Nat}{zs:List (α×Nat)}(h:(tag f d).R e w base ok v zs)(hf:∀k,ok k→k<w.heap.size→f' k=f k):(tag f' d).R e w base ok v zs:=by
 obtain⟨h0,inner,ho,hr⟩:=R_bound h;exact⟨fun k hk=>(h0 k hk).1,inner,ho,hr.1,fun j p hj=>d.M_mono (fun k hk=>⟨⟨hk.1.1.1,hk.1.2⟩,(hf k hk.1.1.1 hk.1.1.2.2.1).trans hk.2⟩) (hr.2 j p hj)⟩
end
section
variable {α β:Type} {d:Kd α} {d':Kd β} {e e' g:Nat} {w w1 W:World} {base b:Nat} {ok ok' okv oku:Nat→Prop} {u v:Value} {xs:List α} {ys:List β}
theorem S_ne(h:S d e w base ok v xs){t:Nat}{cells:Array Value}(hb:w.heap[g]?=some (.cells cells t (0,0)))(ht:e≠t):some g≠v.ownBlock:=R_ne (S_R h) hb ht
theorem S_form(h:S d e w base ok v xs)(hp:0<xs.length):∃g cap,v= .slice (some ⟨g,0,none⟩) xs.length cap∧base≤g∧g<w.heap.size∧∃cells,w.heap[g]?=some (.cells cells e (0,0)):=R_form (S_R h) hp
theorem S_slice(h:S d e w base ok v xs):∃A c,v= .slice A xs.length c:=R_slice (S_R h)
theorem S_reads(h:S d e w base ok v xs):∃A c,v= .slice A xs.length c∧xs.length≤c∧d.C w A xs.length xs:=R_reads (S_R h)
theorem S_reads'{A:Option Addr}{n c:Nat}(h:S d e w base ok (.slice A n c) xs):n=xs.length∧n≤c∧d.C w A xs.length xs:=R_reads' (S_R h)
theorem S_get{ad:Addr}{n cap:Nat}(h:S d e W base ok (.slice (some ad) n cap) xs)(z:α)(i:Int)(h0:0≤i)(h1:i<n):
  ∃c,c.length=d.sz∧d.M W base (fun k=>ok k∧some k≠(Value.slice (some ad) n cap).ownBlock) (xs.getD i.toNat z) c∧∀j u,c[j]?=some u→W.cell? (ad.add (i.toNat*d.sz+j))=some u:=R_getA (S_R h) z i h0 h1
theorem zip_snoc(xs:List α)(p:α):(xs++ [p]).zipIdx=xs.zipIdx++ [(p,xs.length)]:=by rw[List.zipIdx_append];simp
end
section
open Classical in
theorem S_tag{α:Type}{d:Kd α}{e base:Nat}{okv:Nat→Prop}{w:World}{v:Value}{xs:List α}(h:S d e w base okv v xs)(m:Nat)(okp:Nat→Prop)(hap:∀k,okp k→¬okv k):∃f,(∀k,okp k→f k=m)∧(tag f d).R e w base okv v xs.zipIdx:=by
 obtain⟨f,h⟩:=h;exact⟨fun k=>if okp k then m else f k,fun k hk=>if_pos hk,R_tag h (fun k hk _=>if_neg (fun h2=>hap k h2 hk))⟩
variable {P:Program} {ops:Array Oper} {rest:List Oper} {o:Oper} {a:Act} {Q:Exit→Act→World→Prop} {Kc:Act→World→Prop} {α:Type}
theorem S_append(d:Kd α){w0 W:World}(base:Nat)(hgd:o.guard=none)(s x:Operand)(t e:TypeId)(z:Value)(bytes:Nat)
  (ho:o.op= .call { callee:= .builtin .append,args:= #[s,x],argTypes:= #[t,t] })
  (ht:P.underlying t=some (.slice e)) (hinfo:(P.info? e).map (fun i=>(i.zero,i.size,i.bytes))=some (some z,d.sz,bytes)) (hz:z.cells.size=d.sz) (hs0:0<d.sz) (hb0:0<bytes)
  (v:Value) (xs:List α) (p:α) (cs:List Value) (ok okp:Nat→Prop) (hs:a.eval s=v) (hx:a.eval x= .slice (some ⟨W.heap.size,0,none⟩) 1 1) (hp:d.M W base okp p cs) (hokp:∀k,okp k→ok k∧some k≠v.ownBlock) (hfresh:∀k,W.heap.size≤k→ok k)
  (HO:S d e W base (fun k=>ok k∧¬okp k) v xs) (HB:Below base w0 W) (hbase:base≤W.heap.size) (hl:(xs.length+1)*bytes≤140737488355328)
  (h:∀v1 w1,S d e w1 base ok v1 (xs++ [p])→Below base w0 w1→W.grownBy w1 v.ownBlock→(v1.ownBlock=v.ownBlock∨∃b,v1.ownBlock=some b∧W.heap.size≤b)→wpList P ops Q rest (a.put o.dst v1) w1):
  wpList P ops Q (o::rest) a (W.alloc (.cells cs.toArray e)):=by
 obtain⟨f,hf,hR⟩:=S_tag HO xs.length okp (fun _ hk h2=>h2.2 hk);refine R_append (tag f d) base hgd s x t e z bytes ho ht hinfo hz hs0 hb0 v xs.zipIdx (p,xs.length) cs ok okp hs hx (d.M_mono (fun k hk=>⟨hk,hf k hk⟩) hp) hokp hfresh (R_mono hR (fun _ hk=>hk.1)) HB hbase (by rw[List.length_zipIdx];exact hl) ?_;intro v1 w1 hr;rw[←zip_snoc] at hr;exact h v1 w1 ⟨f,hr⟩
theorem S_make(d:Kd α){w0 W:World}(base e:Nat)(hgd:o.guard=none){N:Tmp}(hd:o.dst=some N)(t:TypeId)(x y:Operand)(ho:o.op= .makeSlice t x y)(n:Int)(hx:a.eval x= .int .i64 n)(hy:a.eval y= .int .i64 n)
  (ht:P.underlying t=some (.slice e)) (z:Value) (bytes:Nat) (hinfo:(P.info? e).map (fun i=>(i.zero,i.size,i.bytes))=some (some z,d.sz,bytes)) (hz:z.cells.size=d.sz) (hs0:0<d.sz) (hb0:0<bytes)
  (z0:α) {ok okp:Nat→Prop} (hzero:d.M W base (fun _=>False) z0 z.cells.toList) (_hok:∀k,okp k→ok k) (hfresh:ok W.heap.size) (h0:0≤n) (hl:n.toNat*bytes≤281474976710656) (HB:Below base w0 W) (hbase:base≤W.heap.size)
  (h:∀v1 w1,S d e w1 base ok v1 (List.replicate n.toNat z0)→Below base w0 w1→W.grownBy w1 none→(∃b,v1.ownBlock=some b∧W.heap.size≤b)→wpList P ops Q rest (a.put o.dst v1) w1):wpList P ops Q (o::rest) a W:=
 R_make (bare d) base e hgd hd t x y ho n hx hy ht z bytes hinfo hz hs0 hb0 z0 (ok:=ok) (okp:=ok) hzero (fun _ hk=>hk) hfresh h0 hl HB hbase (fun v1 w1 hr=>h v1 w1 (S_bare hr))
end
def gap{α:Type}(f:Nat→Nat)(d:Kd α)(i:Nat)(c:List Value):Kd (α×Nat) where
 sz:=d.sz
 E:=d.E
 K:=fun w x cs=>(x.2=i→cs=c∧cs.length=d.sz∧∀u∈cs,u.oneCell'=true)∧(x.2≠i→d.K w x.1 cs)
 M:=fun w base ok x cs=>(x.2=i→cs=c∧cs.length=d.sz∧∀u∈cs,u.oneCell'=true)∧(x.2≠i→d.M w base (fun k=>ok k∧f k=x.2) x.1 cs)
 K_len:=fun {w x cs} h=>by
  by_cases hx:x.2=i
  ·exact(h.1 hx).2.1
  ·exact d.K_len (h.2 hx)
 K_one:=fun {w x cs} h=>by
  by_cases hx:x.2=i
  ·exact(h.1 hx).2.2
  ·exact d.K_one (h.2 hx)
 K_below:=fun hb h=>⟨h.1,fun hx=>d.K_below hb (h.2 hx)⟩
 K_of_M:=fun h=>⟨h.1,fun hx=>d.K_of_M (h.2 hx)⟩
 M_mono:=fun hok h=>⟨h.1,fun hx=>d.M_mono (fun k hk=>⟨hok k hk.1,hk.2⟩) (h.2 hx)⟩
 M_bound:=fun h=>⟨h.1,fun hx=>d.M_mono (fun _ hk=>⟨⟨hk.1.1,hk.2⟩,hk.1.2⟩) (d.M_bound (h.2 hx))⟩
 M_move:=fun hm h=>⟨h.1,fun hx=>d.M_move (fun k hk=>hm k hk.1) (h.2 hx)⟩
 M_lower:=fun hb h=>⟨h.1,fun hx=>d.M_lower hb (h.2 hx)⟩
def H{α:Type}(d:Kd α)(e:Nat)(w:World)(base:Nat)(ok:Nat→Prop)(v:Value)(xs:List α)(i:Int)(oki:Nat→Prop)(c:List Value):Prop:=
 (∀k,oki k→ok k)∧∃f,(gap f d i.toNat c).R e w base (fun k=>ok k∧¬oki k) v xs.zipIdx
section
variable {α β:Type} {d:Kd α} {e e' g n cap:Nat} {w w1 W:World} {base:Nat} {ok ok' oki okp:Nat→Prop} {u v:Value} {xs:List α} {i:Int} {c:List Value}
theorem S_lend(h:S d e W base ok (.slice (some ⟨g,0,none⟩) n cap) xs)(z:α)(i:Int)(h0:0≤i)(h1:i<n):
  ∃(oki:Nat→Prop) (c:List Value),c.length=d.sz∧d.M W base oki (xs.getD i.toNat z) c∧(∀j u,c[j]?=some u→W.cell? ⟨g,i.toNat*d.sz+j,none⟩=some u)∧(∀k,oki k→ok k∧k≠g)∧H d e W base ok (.slice (some ⟨g,0,none⟩) n cap) xs i oki c:=by
 obtain⟨f,hR⟩:=h;have hn:=(R_reads' hR).1;rw[List.length_zipIdx] at hn;have hgo:some g=(Value.slice (some ⟨g,0,none⟩) n cap).ownBlock:=by simp[Value.ownBlock]
 obtain⟨hok0,inner,ho,hr⟩:=hR;have hil:i.toNat<xs.length:=by omega
 have hlen:inner.length=xs.length*d.sz:=by have:=hr.1;rw[List.length_zipIdx] at this;exact this
 have hseg:i.toNat*d.sz+d.sz≤inner.length:=by rw[hlen,←Nat.succ_mul];exact Nat.mul_le_mul_right _ hil
 have hM:=hr.2 i.toNat _ (zip_at (List.getElem?_eq_getElem hil));have hkg:∀k,some k≠(Value.slice (some ⟨g,0,none⟩) n cap).ownBlock→k≠g:=fun k hk he=>hk (by rw[he];exact hgo)
 refine⟨fun k=>(ok k∧k≠g)∧f k=i.toNat,(inner.drop (i.toNat*d.sz)).take d.sz,by rw[List.length_take,List.length_drop];omega,?_,fun j u hu=>?_,fun k hk=>hk.1,fun k hk=>hk.1.1,f,fun k hk=>⟨hok0 k hk,fun h2=>h2.1.2 ?_⟩,inner,ho,hr.1,fun m p hm=>?_⟩
 ·rw[List.getD_eq_getElem?_getD,List.getElem?_eq_getElem hil];exact d.M_mono (fun k hk=>⟨⟨hk.1.1,hkg k hk.1.2⟩,hk.2⟩) hM
 ·rw[List.getElem?_take] at hu
  split at hu
  ·rw[List.getElem?_drop] at hu;have:=ho.cells (g:=g) hgo.symm _ u hu
   rwa [add_plain] at this
  ·cases hu
 ·rw[←hgo] at hk;injection hk with hk;exact hk.symm
 ·have hold:=hr.2 m p hm
  have hp2:p.2=m:=by
   rw[List.getElem?_zipIdx,Nat.zero_add] at hm;obtain⟨q,_,rfl⟩:=Option.map_eq_some_iff.1 hm;rfl
  refine⟨fun hx=>?_,fun hx=>d.M_mono (fun k hk=>⟨⟨⟨hk.1.1,fun h2=>hx ?_⟩,hk.1.2⟩,hk.2⟩) hold⟩
  ·have hmi:m=i.toNat:=by omega
   subst hmi;exact⟨rfl,d.K_len (d.K_of_M hM),d.K_one (d.K_of_M hM)⟩
  ·rw[←hk.2];exact h2.2
open Classical in
theorem H_back(h:H d e w base ok v xs i oki c){x':α}(hM:d.M w base okp x' c)(hok:∀k,okp k→oki k):S d e w base ok v (xs.set i.toNat x'):=by
 obtain⟨ho,f,h0,inner,hown,hr⟩:=h;refine⟨fun k=>if oki k then i.toNat else f k,fun k hk=>(h0 k hk).1,inner,by rw[List.length_zipIdx,List.length_set];rw[List.length_zipIdx] at hown;exact hown,by have:=hr.1;rw[List.length_zipIdx] at this;rw[List.length_zipIdx,List.length_set];exact this,fun m p hm=>?_⟩;rw[List.getElem?_zipIdx,Nat.zero_add] at hm;obtain⟨q,hq,rfl⟩:=Option.map_eq_some_iff.1 hm
 have hml:m<xs.length:=by
  have:=(List.getElem?_eq_some_iff.1 hq).1
  rwa [List.length_set] at this
 by_cases hmi:m=i.toNat
 ·subst hmi;rw[List.getElem?_set_self hml] at hq;injection hq with hq
  subst hq;have hc:=((hr.2 i.toNat _ (zip_at (List.getElem?_eq_getElem hml))).1 rfl).1;show d.M w base _ x' ((inner.drop (i.toNat*d.sz)).take d.sz);rw[show(inner.drop (i.toNat*d.sz)).take d.sz=c from hc];exact d.M_mono (fun k hk=>⟨⟨ho k (hok k hk),fun he=>(h0 k he.symm).2 (hok k hk)⟩,if_pos (hok k hk)⟩) hM
 ·rw[List.getElem?_set_ne (Ne.symm hmi)] at hq;exact d.M_mono (fun k hk=>⟨⟨hk.1.1.1,hk.1.2⟩,(if_neg hk.1.1.2).trans hk.2⟩) ((hr.2 m (q,m) (zip_at hq)).2 hmi)
theorem H_widen(h:H d e w base ok v xs i oki c):H d e w base ok v xs i (fun k=>oki k∨ok k∧w.heap.size≤k) c:=by
 obtain⟨ho,f,h⟩:=h;exact⟨fun k hk=>hk.elim (ho k) (fun h2=>h2.1),f,R_mono (R_bound h) (fun k hk=>⟨hk.1.1,fun h2=>h2.elim hk.1.2 (fun h3=>by have:=hk.2.2.1;omega)⟩)⟩
theorem H_step(h:H d e w base ok v xs i oki c)(hm:∀k,ok k→¬oki k→k<w.heap.size→w1.heap[k]?=w.heap[k]?):H d e w1 base ok v xs i oki c:=by
 obtain⟨ho,f,h⟩:=h;exact⟨ho,f,R_step h (fun k hk hlt=>hm k hk.1 hk.2 hlt)⟩
theorem H_grown(h:H d e w base ok v xs i oki c){row:Option Nat}(hg:w.grownBy w1 row)(hrow:∀k,row=some k→oki k):H d e w1 base ok v xs i oki c:=
 H_step h (fun k _ hn hlt=>hg.block k hlt (fun he=>hn (hrow k he.symm)))
theorem H_mono(h:H d e w base ok v xs i oki c)(hok:∀k,ok k→ok' k):H d e w base ok' v xs i oki c:=by
 obtain⟨ho,f,h⟩:=h;exact⟨fun k hk=>hok k (ho k hk),f,R_mono h (fun k hk=>⟨hok k hk.1,hk.2⟩)⟩
theorem H_more{okg:Nat→Prop}(h:H d e w base (fun k=>ok k∧¬okg k) v xs i oki c)(hg:∀k,okg k→ok k):H d e w base ok v xs i (fun k=>oki k∨okg k) c:=by
 obtain⟨ho,f,h⟩:=h;exact⟨fun k hk=>hk.elim (fun h2=>(ho k h2).1) (hg k),f,R_mono h (fun k hk=>⟨hk.1.1,fun h2=>h2.elim hk.2 hk.1.2⟩)⟩
theorem S_elem(h:S d e W base ok (.slice (some ⟨g,0,none⟩) n cap) xs)(z:α)(i:Int)(h0:0≤i)(h1:i<n):
  ∃(oki:Nat→Prop) (c:List Value),c.length=d.sz∧d.M W base oki (xs.getD i.toNat z) c∧(∀j u,c[j]?=some u→W.cell? ⟨g,i.toNat*d.sz+j,none⟩=some u)∧(∀j,W.frozen? ⟨g,i.toNat*d.sz+j,none⟩=false)∧(∀k,oki k→ok k∧k≠g)∧H d e W base ok (.slice (some ⟨g,0,none⟩) n cap) xs i oki c:=by
 obtain⟨_,_,_,_,hfr⟩:=R_elem (S_R h) z i h0 h1;obtain⟨oki,c,hcl,hM,hcc,hoki,hH⟩:=S_lend h z i h0 h1;exact⟨oki,c,hcl,hM,hcc,hfr,hoki,hH⟩
theorem H_raw(h:H d e W base ok (.slice (some ⟨g,0,none⟩) n cap) xs i oki c)(h0:0≤i)(h1:i<n):
  ∃rows:List (List Value),rows.length=xs.length∧(raw d.sz).R e W base (fun _=>True) (.slice (some ⟨g,0,none⟩) n cap) rows∧c.length=d.sz∧(∀u∈c,u.oneCell'=true)∧(∀j u,c[j]?=some u→W.cell? ⟨g,i.toNat*d.sz+j,none⟩=some u)∧
   ∀w1 c',W.grownBy w1 (some g)→(raw d.sz).R e w1 base (fun _=>True) (.slice (some ⟨g,0,none⟩) n cap) (rows.set i.toNat c')→H d e w1 base ok (.slice (some ⟨g,0,none⟩) n cap) xs i oki c':=by
 obtain⟨hoo,f,hR⟩:=h;have hn:=(R_reads' hR).1;rw[List.length_zipIdx] at hn;have hgo:some g=(Value.slice (some ⟨g,0,none⟩) n cap).ownBlock:=by simp[Value.ownBlock]
 obtain⟨hok0,inner,ho,hr⟩:=hR;have hil:i.toNat<xs.length:=by omega
 have hlen:inner.length=xs.length*d.sz:=by have:=hr.1;rw[List.length_zipIdx] at this;exact this
 have hkg:∀k,some k≠(Value.slice (some ⟨g,0,none⟩) n cap).ownBlock→k≠g:=fun k hk he=>hk (by rw[he];exact hgo)
 have hci:=(hr.2 i.toNat _ (zip_at (List.getElem?_eq_getElem hil))).1 rfl;rw[hci.1] at hci;have hc:=((hr.2 i.toNat _ (zip_at (List.getElem?_eq_getElem hil))).1 rfl).1;refine⟨(List.range xs.length).map fun j=>(inner.drop (j*d.sz)).take d.sz,by rw[List.length_map,List.length_range],⟨fun _ _=>trivial,inner,?_,?_,fun j p hj=>?_⟩,hci.2.1,hci.2.2,fun j u hu=>?_,fun w1 c' hg hraw=>?_⟩
 ·rw[List.length_map,List.length_range];rw[List.length_zipIdx] at ho;exact ho
 ·rw[List.length_map,List.length_range];exact hlen
 ·rw[List.getElem?_map] at hj;obtain⟨j',hj',rfl⟩:=Option.map_eq_some_iff.1 hj;obtain⟨hl,he⟩:=List.getElem?_eq_some_iff.1 hj';rw[List.getElem_range] at he;subst he;rw[List.length_range] at hl;have hm:=(gap f d i.toNat c).K_of_M (hr.2 j _ (zip_at (List.getElem?_eq_getElem hl)));exact⟨rfl,(gap f d i.toNat c).K_len hm,(gap f d i.toNat c).K_one hm⟩
 ·rw[←hc,List.getElem?_take] at hu
  split at hu
  ·rw[List.getElem?_drop] at hu;have:=ho.cells (g:=g) hgo.symm _ u hu
   rwa [add_plain] at this
  ·cases hu
 ·obtain⟨_,inner',ho',hr'⟩:=hraw;have hl':inner'.length=xs.length*d.sz:=by have:=hr'.1;rw[List.length_set,List.length_map,List.length_range] at this;exact this
  rw[List.length_set,List.length_map,List.length_range] at ho';refine⟨hoo,f,hok0,inner',by rw[List.length_zipIdx];exact ho',by rw[List.length_zipIdx];exact hl',fun m p hm=>?_⟩;rw[List.getElem?_zipIdx,Nat.zero_add] at hm;obtain⟨q,hq,rfl⟩:=Option.map_eq_some_iff.1 hm;have hml:m<xs.length:=(List.getElem?_eq_some_iff.1 hq).1;have hold:=hr.2 m (q,m) (zip_at hq);refine⟨fun hx=>?_,fun hx=>?_⟩
  ·have hx':m=i.toNat:=hx;subst hx';exact hr'.2 i.toNat c' (List.getElem?_set_self (by rw[List.length_map,List.length_range];exact hml))
  ·have hx':m≠i.toNat:=hx
   have hcm:=(hr'.2 m ((inner.drop (m*d.sz)).take d.sz) (by
    rw[List.getElem?_set_ne (Ne.symm hx'),List.getElem?_map,List.getElem?_eq_getElem (by rw[List.length_range];exact hml),List.getElem_range]
    rfl)).1
   show d.M w1 base _ q ((inner'.drop (m*d.sz)).take d.sz);rw[show(inner'.drop (m*d.sz)).take d.sz=_ from hcm];exact d.M_mono (fun k hk=>hk.1) (d.M_move (w1:=w1) (fun k hk=>hg.block k hk.2.2.1 (fun he=>hkg k hk.1.1.2 (by injection he))) (d.M_bound (hold.2 hx)))
theorem H_seg(h:H d e W base ok (.slice (some ⟨g,0,none⟩) n cap) xs i oki c)(h0:0≤i)(h1:i<n){seg:List Value}{j:Nat}(hj:j+seg.length≤d.sz)(hone:∀q∈seg,q.oneCell'=true):
  H d e (W.setCells g (i.toNat*d.sz+j) seg) base ok (.slice (some ⟨g,0,none⟩) n cap) xs i oki (c.take j++seg++c.drop (j+seg.length))∧W.grownBy (W.setCells g (i.toNat*d.sz+j) seg) (some g):=by
 obtain⟨rows,_,hraw,hcl,hco,hcc,hback⟩:=H_raw h h0 h1
 obtain⟨h2,h3⟩:=R_seg hraw i h0 h1 (c:=c) (seg:=seg) (j:=j) (x':=c.take j++seg++c.drop (j+seg.length)) (okp:=fun _=>False) hcl hcc hj
  ⟨rfl,by
   show(c.take j++seg++c.drop (j+seg.length)).length=d.sz;simp only[List.length_append,List.length_take,List.length_drop];omega,fun u hu=>by
   rcases List.mem_append.1 hu with hu|hu
   ·rcases List.mem_append.1 hu with hu|hu
    ·exact hco u (List.mem_of_mem_take hu)
    ·exact hone u hu
   ·exact hco u (List.mem_of_mem_drop hu)⟩ (fun _ hk=>hk.elim)
 exact⟨hback _ _ h3 h2,h3⟩
theorem S_seg{okg:Nat→Prop}(hH:H d e W base (fun k=>ok k∧¬okg k) (.slice (some ⟨g,0,none⟩) n cap) xs i oki c)(h0:0≤i)(h1:i<n){seg:List Value}{j:Nat}(hj:j+seg.length≤d.sz)
  {x':α} (hM:d.M W base okp x' (c.take j++seg++c.drop (j+seg.length))) (hokp:∀k,okp k→oki k∨okg k) (hg:∀k,okg k→ok k∧k≠g):
  S d e (W.setCells g (i.toNat*d.sz+j) seg) base ok (.slice (some ⟨g,0,none⟩) n cap) (xs.set i.toNat x')∧W.grownBy (W.setCells g (i.toNat*d.sz+j) seg) (some g):=by
 have hne:∀k,oki k∨okg k→k≠g:=by
  intro k hk he;subst he
  rcases hk with hk|hk
  ·obtain⟨_,f,hR⟩:=hH;exact(hR.1 k (by simp[Value.ownBlock])).2 hk
  ·exact(hg k hk).2 rfl
 obtain⟨h2,h3⟩:=H_seg (H_more hH (fun k hk=>(hg k hk).1)) h0 h1 hj (fun q hq=>d.K_one (d.K_of_M hM) q (List.mem_append_left _ (List.mem_append_right _ hq)));exact⟨H_back h2 (M_step hM (fun k hk hlt=>h3.block k hlt (fun he=>hne k (hokp k hk) (by injection he)))) hokp,h3⟩
end
end Kd
end Go.Proofs.YtfghldonnffldaaGreatDoorW.PrintWords
namespace Go.Proofs.YtfghldonnffldaaGreatDoorW.PrintWords
open Go.RowKit
namespace Kd
end Kd
namespace Kd
end Kd
namespace Kd
end Kd
namespace Kd
end Kd
namespace Foot
variable {P Q:World→Prop} {W W1:World} {ok ok':Nat→Prop}
end Foot
namespace Kd
end Kd
end Go.Proofs.YtfghldonnffldaaGreatDoorW.PrintWords
namespace Go.Proofs.YtfghldonnffldaaGreatDoorW.PrintWords
open Go.RowKit
namespace Kd
end Kd
namespace Kd
end Kd
namespace Kd
end Kd
section
variable {P:Program} {d:Nat} {xs ys:Array Value} {f:Field} {fs:List Field} {a b:Value} {r s:Bool} {w:World}
theorem eqf_last(hn:(f.name== "_")=false)(ha:(part f.type xs f.offset).run P w= .ok a w)(hb:(part f.type ys f.offset).run P w= .ok b w)(he:(Op.equalIn d f.type a b).run P w= .ok r w):(Op.eqFields d xs ys [f]).run P w= .ok r w:=by
 have hn':f.name≠ "_" :=by simpa using hn
 simp only[Op.eqFields,if_pos hn',Sem.run_bind,ha,hb,he,Result.andThen_ok]
 cases r<;>simp
theorem eqf_cons(hn:(f.name== "_")=false)(ha:(part f.type xs f.offset).run P w= .ok a w)(hb:(part f.type ys f.offset).run P w= .ok b w)(he:(Op.equalIn d f.type a b).run P w= .ok r w)(hr:(Op.eqFields d xs ys fs).run P w= .ok s w):(Op.eqFields d xs ys (f::fs)).run P w= .ok (r && s) w:=by
 have hn':f.name≠ "_" :=by simpa using hn
 rw[Op.eqFields];simp only[if_pos hn',Sem.run_bind,ha,hb,he,Result.andThen_ok]
 cases r
 ·simp
 ·simpa using hr
theorem eqA_of{t:TypeId}{fs:Array Field}(hu:P.underlying t=some (.struct fs))(hp:P.stoodInHeld t=false)(h:(Op.eqFields d xs ys fs.toList).run P w= .ok r w):(Op.equalIn (d+1) t (.agg xs) (.agg ys)).run P w= .ok r w:=by
 have hf:P.fieldsOf t=fs:=by simp[Program.fieldsOf,hu]
 rw[run_equalIn_struct (P:=P) w d t xs ys (by rw[hf];exact hu) hp,hf];exact h
end
end Go.Proofs.YtfghldonnffldaaGreatDoorW.PrintWords
namespace Go.Proofs.YtfghldonnffldaaGreatDoorW.PrintWords
open Go.RowKit
section
variable {P:Program} {ops:Array Oper} {rest:List Oper} {o:Oper} {a:Act} {Q:Exit→Act→World→Prop} {W:World}
theorem gate_guard(hw:Region.wanted o (yielded ops a.tmps)=true)(h:wpList P ops Q ({ o with guard:=none } ::rest) a W):wpList P ops Q (o::rest) a W:=by
 have h1:Region.wanted { o with guard:=none } (yielded ops a.tmps)=true:=rfl;unfold wpList at h ⊢;rw[if_pos h1] at h;rw[if_pos hw];exact h
end
end Go.Proofs.YtfghldonnffldaaGreatDoorW.PrintWords
namespace Go.Proofs.YtfghldonnffldaaGreatDoorW.PrintWords
open Go.RowKit
namespace Kd
end Kd
end Go.Proofs.YtfghldonnffldaaGreatDoorW.PrintWords
namespace Go.Proofs.YtfghldonnffldaaGreatDoorW.PrintWords
theorem Reps.one{α:Type}{R:α→List Value→Prop}{ps:List α}{cs:List Value}{p:α}{v:Value}(hp:R p [v])(h:Reps R 1 ps cs):Reps R 1 (p::ps) (v::cs):=by
 refine⟨by simp[h.1],fun j q hq=>?_⟩
 cases j with
 |zero=>
  simp only[List.getElem?_cons_zero,Option.some.injEq] at hq;subst hq
  simpa using hp
 |succ j=>
  simp only[List.getElem?_cons_succ] at hq;have h1:=h.2 j q hq
  simpa [Nat.mul_one] using h1
end Go.Proofs.YtfghldonnffldaaGreatDoorW.PrintWords
namespace Go.Proofs.YtfghldonnffldaaGreatDoorW.PrintWords
open Go.RowKit
end Go.Proofs.YtfghldonnffldaaGreatDoorW.PrintWords
namespace Go.Proofs.YtfghldonnffldaaGreatDoorW.PrintLast
end Go.Proofs.YtfghldonnffldaaGreatDoorW.PrintLast
namespace Go.Proofs.YtfghldonnffldaaGreatDoorW.PrintMore
open Go.RowKit YtfghldonnffldaaGreatDoorW.PrintWords
namespace Kd
open YtfghldonnffldaaGreatDoorW.PrintWords.Kd
end Kd
namespace Kd
open YtfghldonnffldaaGreatDoorW.PrintWords.Kd
end Kd
theorem max2_int(k k':IntKind)(x y:Int):Builtin.max2 (.int k x) (.int k' y)=pure (.int k (if x<y then y else x)):=by simp only[Builtin.max2,gt_iff_lt]
theorem min2_int(k k':IntKind)(x y:Int):Builtin.min2 (.int k x) (.int k' y)=pure (.int k (if y<x then y else x)):=by simp only[Builtin.min2]
theorem max_two(ats:Array TypeId)(ty:TypeId)(a b:Value):Builtin.max_ ats ty #[a,b]=(Builtin.max2 a b>>=fun s=>pure s):=by simp only[Builtin.max_,List.foldlM_cons,List.foldlM_nil]
theorem min_two(ats:Array TypeId)(ty:TypeId)(a b:Value):Builtin.min_ ats ty #[a,b]=(Builtin.min2 a b>>=fun s=>pure s):=by simp only[Builtin.min_,List.foldlM_cons,List.foldlM_nil]
theorem max_three(ats:Array TypeId)(ty:TypeId)(a b c:Value):Builtin.max_ ats ty #[a,b,c]=(Builtin.max2 a b>>=fun s=>Builtin.max2 s c>>=fun s=>pure s):=by simp only[Builtin.max_,List.foldlM_cons,List.foldlM_nil]
theorem min_three(ats:Array TypeId)(ty:TypeId)(a b c:Value):Builtin.min_ ats ty #[a,b,c]=(Builtin.min2 a b>>=fun s=>Builtin.min2 s c>>=fun s=>pure s):=by simp only[Builtin.min_,List.foldlM_cons,List.foldlM_nil]
theorem max_four(ats:Array TypeId)(ty:TypeId)(a b c d:Value):Builtin.max_ ats ty #[a,b,c,d]=(Builtin.max2 a b>>=fun s=>Builtin.max2 s c>>=fun s=>Builtin.max2 s d>>=fun s=>pure s):=by simp only[Builtin.max_,List.foldlM_cons,List.foldlM_nil]
theorem min_four(ats:Array TypeId)(ty:TypeId)(a b c d:Value):Builtin.min_ ats ty #[a,b,c,d]=(Builtin.min2 a b>>=fun s=>Builtin.min2 s c>>=fun s=>Builtin.min2 s d>>=fun s=>pure s):=by simp only[Builtin.min_,List.foldlM_cons,List.foldlM_nil]
end Go.Proofs.YtfghldonnffldaaGreatDoorW.PrintMore
namespace Go.Proofs.YtfghldonnffldaaGreatDoorW.PrintWords
open Go.RowKit
section
variable {P:Program} {ops:Array Oper} {rest:List Oper} {o:Oper} {a:Act} {Q:Exit→Act→World→Prop} {W:World}
theorem gate_callee{f:FuncId}{as_:Array Operand}{ts:Array TypeId}(_ho:o.op= .call { callee:= .value (.func f),args:=as_,argTypes:=ts })(h:wpList P ops Q (o::rest) a W):wpList P ops Q (o::rest) a W:=h
theorem gate_builtin{b:Builtin}{xs:Array Operand}{ts:Array TypeId}(_ho:o.op= .call { callee:= .builtin b,args:=xs,argTypes:=ts })(h:wpList P ops Q (o::rest) a W):wpList P ops Q (o::rest) a W:=h
end
def mx(a b:Int):Int:=if a<b then b else a
def mn(a b:Int):Int:=if b<a then b else a
def shl(k:IntKind)(x y:Int):Int:=k.wrap (x*2 ^ min y.toNat k.bits)
def shr(k:IntKind)(x y:Int):Int:=x / 2 ^ min y.toNat k.bits
theorem shl_small{k:IntKind}{x y j:Int}(h:shl k x y=j)(hy:y≤k.bits):k.wrap (x*2 ^ y.toNat)=j:=by rw[←h];unfold shl;rw[Nat.min_eq_left (by omega)]
theorem shr_small{k:IntKind}{x y j:Int}(h:shr k x y=j)(hy:y≤k.bits):x / 2 ^ y.toNat=j:=by rw[←h];unfold shr;rw[Nat.min_eq_left (by omega)]
theorem drewN_self(w:World)(n:Nat):w.drewN n=w.drewN n:=rfl
theorem cell_unalloc{W:World}{o:Obj}{a:Addr}{v:Value}(h:(W.alloc o).cell? a=some v)(hlt:a.block<W.heap.size):W.cell? a=some v:=(World.cell?_alloc_lt _ _ _ hlt).symm.trans h
theorem cell_grown{W w1:World}{row:Option Nat}(hg:W.grownBy w1 row){a:Addr}{v:Value}(h:W.cell? a=some v)(hne:some a.block≠row):w1.cell? a=some v:=by
 have:=hg.block a.block (World.block_lt_of_cell? W a h) hne
 simpa [World.cell?,this] using h
namespace Kd
section
variable {α:Type} {d:Kd α} {e base g n cap:Nat} {ok oki okp:Nat→Prop} {W:World} {xs:List α} {i:Int} {c:List Value}
theorem H_at(h:H d e W base ok (.slice (some ⟨g,0,none⟩) n cap) xs i oki c)(h0:0≤i)(h1:i<n):(∀j u,c[j]?=some u→W.cell? ⟨g,i.toNat*d.sz+j,none⟩=some u)∧∀j,W.frozen? ⟨g,i.toNat*d.sz+j,none⟩=false:=by
 obtain⟨rows,_,hraw,_,_,hcc,_⟩:=H_raw h h0 h1;obtain⟨_,_,_,_,hfr⟩:=R_elem hraw [] i h0 h1;exact⟨hcc,hfr⟩
theorem S_seg0(hH:H d e W base ok (.slice (some ⟨g,0,none⟩) n cap) xs i oki c)(h0:0≤i)(h1:i<n){seg:List Value}{j:Nat}(hj:j+seg.length≤d.sz)
  {x':α} (hM:d.M W base okp x' (c.take j++seg++c.drop (j+seg.length))) (hokp:∀k,okp k→oki k):
  S d e (W.setCells g (i.toNat*d.sz+j) seg) base ok (.slice (some ⟨g,0,none⟩) n cap) (xs.set i.toNat x')∧W.grownBy (W.setCells g (i.toNat*d.sz+j) seg) (some g):=
 S_seg (okg:=fun _=>False) (H_mono hH (fun _ hk=>⟨hk,fun h=>h⟩)) h0 h1 hj hM (fun k hk=> .inl (hokp k hk)) (fun _ hk=>hk.elim)
end
end Kd
end Go.Proofs.YtfghldonnffldaaGreatDoorW.PrintWords
namespace Go.Proofs.YtfghldonnffldaaGreatDoorW.PrintWords
open Go.RowKit
namespace Kd
end Kd
end Go.Proofs.YtfghldonnffldaaGreatDoorW.PrintWords
namespace Go.Proofs.YtfghldonnffldaaGreatDoorW.PrintWords
open Go.RowKit YtfghldonnffldaaGreatDoorW.PrintLast YtfghldonnffldaaGreatDoorW.PrintMore
theorem B_{w W:World}(h:Below w.heap.size w W:=by repeat (first|(with_reducible first|exact HB.out|apply below_alloc|apply pw_below_drewN|apply below_drew1|refine below_set ?_ (Aside0.out (by with_reducible assumption)))|exact HB.out)):Below w.heap.size w W:=h
theorem G2_{w W:World}{g:Nat}(hg:g=W.heap.size)(h:Below w.heap.size w W:=by repeat (first|(with_reducible first|exact HB.out|apply below_alloc|apply pw_below_drewN|apply below_drew1|refine below_set ?_ (Aside0.out (by with_reducible assumption)))|exact HB.out)):w.heap.size≤g:=by
  rw[hg];exact h.size
theorem Hc_{W W1:World}{a:Addr}{v:Value}(hb:Below W.heap.size W W1)(h:W.cell? a=some v):W1.cell? a=some v:=(hb.cell (World.block_lt_of_cell? _ _ h)).trans h
theorem Cf_{w:World}{a:Addr}{u:Value}(g i:Nat)(v:Value)(h:w.cell? a=some u)(hn:a.block≠g):(w.setCell ⟨g,i,none⟩ v).cell? a=some u:=(cell_far (p:=⟨g,i,none⟩) hn v).trans h
theorem Ob_{α β:Type}{o:Option α}{f:α→Option β}{b:β}(h:o.bind f=some b):∃a,o=some a∧f a=some b:=Option.bind_eq_some_iff.mp h
theorem dt_{p:Prop}[Decidable p](h:p):decide p=true:=decide_eq_true h
theorem df_{p:Prop}[Decidable p](h:¬p):decide p=false:=decide_eq_false h
theorem od_{p:Prop}[Decidable p](h:decide p=true):p:=of_decide_eq_true h
theorem gD_{α:Type}{l:List α}{i:Nat}{a:α} :List.getD l i a=(l[i]?).getD a:=List.getD_eq_getElem?_getD
theorem gE_{α:Type}{l:List α}{i:Nat}(h:i<l.length):l[i]?=some (l[i]'h):=List.getElem?_eq_getElem h
theorem bs_{α β:Type}(a:α)(f:α→Option β):(some a).bind f=f a:=rfl
theorem nC_(n:Nat):(n:Int).toNat=n:=Int.toNat_natCast n
theorem Z_{p:Prop}(h:p):Aside0 p:=⟨h⟩
theorem E1_{p:Prop}(h:p:=by first|rfl|(simp;done)|(simp[*];done)):p:=h
theorem E_{p:Prop}(h:p:=by first|rfl|(simp[errW_none,errW_some]<;>rfl)|(simp[*,errW_none,errW_some]<;>rfl)):p:=h
theorem D_{w W:World}(h:Drawn0 w W:=by repeat (first|exact Drawn0.refl _|apply Drawn0.step)):Drawn0 w W:=h
theorem Wb_{a:Addr}{i g:Nat}(h:a.block≠g):(a.add i).block≠g:=by
  rw[add_block];exact h
theorem cz_{w:World}{g:Nat}{t:TypeId}{cs:Array Value}{v:Value}(h:Aside0 (w.heap[g]?=some (.cells cs t (0,0))))(i:Nat)(hv:cs[i]?=some v:=by(simp only[List.getElem?_toArray,List.getElem?_cons_zero,List.getElem?_cons_succ];rfl)):w.cell? ⟨g,i,none⟩=some v:=(blk_cell h.out i).trans hv
theorem Hb_{w W W2:World}(hb:Below W.heap.size W W2)(h:Below w.heap.size w W:=by repeat (first|(with_reducible first|exact HB.out|apply below_alloc|apply pw_below_drewN|apply below_drew1|refine below_set ?_ (Aside0.out (by with_reducible assumption)))|exact HB.out)):Aside0 (Below w.heap.size w W2):=⟨below_step h hb⟩
theorem Dr_{p:Prop}(h:p:=by first|exact⟨rfl,_,World.drewN_drewN _ _ _⟩|exact⟨rfl,_,Eq.trans (World.drewN_drewN _ _ _) (congrArg (World.drewN _) (Nat.add_assoc _ _ _))⟩):p:=h
theorem fz_{w:World}{g:Nat}{t:TypeId}{cs:Array Value}(h:Aside0 (w.heap[g]?=some (.cells cs t (0,0))))(i:Nat):w.frozen? ⟨g,i,none⟩=false:=blk_frozen h.out i
theorem L_{a b:Nat}(h:a≤b:=by first|omega|exact Nat.le_refl _):a≤b:=h
theorem A_{p:Prop}(h:p:=by first|(with_reducible assumption)|assumption):p:=h
section
variable {α:Type} {d:Kd α} {e base:Nat} {ok:Nat→Prop} {w W:World} {v:Value} {xs:List α}
theorem R_(h:Aside0 (d.R e w base ok v xs))(hb:Below w.heap.size w W:=by repeat (first|(with_reducible first|exact Below.refl _ _|apply below_alloc|apply pw_below_drewN|apply below_drew1)|exact Below.refl _ _)):d.R e W base ok v xs:=Kd.R_below h.out hb
theorem S_(h:Aside0 (d.S e w base ok v xs))(hb:Below w.heap.size w W:=by repeat (first|(with_reducible first|exact Below.refl _ _|apply below_alloc|apply pw_below_drewN|apply below_drew1)|exact Below.refl _ _)):d.S e W base ok v xs:=Kd.S_below h.out hb
theorem C_{A:Option Addr}{n:Nat}(h:d.C w A n xs)(hb:Below w.heap.size w W:=by repeat (first|(with_reducible first|exact Below.refl _ _|apply below_alloc|apply pw_below_drewN|apply below_drew1)|exact Below.refl _ _)):d.C W A n xs:=Kd.C_below h hb
end
theorem K_{w W:World}{g:Nat}{o:Obj}(h:Aside0 (w.heap[g]?=some o))(hb:Below w.heap.size w W:=by repeat (first|(with_reducible first|exact Below.refl _ _|apply below_alloc|apply pw_below_drewN|apply below_drew1)|exact Below.refl _ _)):W.heap[g]?=some o:=blk_below h.out hb
section
variable {P:Program} {ops:Array Oper} {Q:Exit→Act→World→Prop} {md:Region.Mode} {S:World→Prop} {ds:List Nat}
theorem P_{oi:Oper}{v:Value}{fuel:Nat}{l l':Array Bool}{a a':Act}{w:World}(i:Nat)(N:Tmp)(h:wpAnyLast P md ops Q S ds fuel l' a' w)(hi:ops[i]?=some oi:=by rfl)(hN:oi.dst=some N:=by rfl)(hl:l.setIfInBounds i true=l':=by(simp only[List.setIfInBounds_toArray,List.set_cons_zero,List.set_cons_succ];rfl))(hc:anyB md ops l l' i=true:=by exact any_of HT_.out (by kernel_rfl))
    (hQ:∀c a w,Q (.panic c) (a.put oi.dst v) w→Q (.panic c) a w:=by exact fun _ _ _ h=>h) (hw:Region.wanted oi (yielded ops a.tmps)=true:=by rfl) (hy:∀w,(execOp a.eval oi).run P w= .ok (.value v) w:=by(intro w';go_simp;with_reducible rfl)) (ha:a.put (some N) v=a':=by(simp only[Act.put,List.setIfInBounds_toArray,List.set_cons_zero,List.set_cons_succ,i64_w,i32_w];rfl)):wpAnyLast P md ops Q S ds (fuel+1) l a w:=
  pure_ l' hi hN hc hQ (Or.inl ⟨hw,hy⟩) ha h
theorem U_{oi:Oper}{fuel:Nat}{l l':Array Bool}{a a':Act}{w:World}(i:Nat)(N:Tmp)(h:wpAnyLast P md ops Q S ds fuel l' a' w)(hi:ops[i]?=some oi:=by rfl)(hN:oi.dst=some N:=by rfl)(hl:l.setIfInBounds i true=l':=by(simp only[List.setIfInBounds_toArray,List.set_cons_zero,List.set_cons_succ];rfl))(hc:anyB md ops l l' i=true:=by exact any_of HT_.out (by kernel_rfl))
    (hQ:∀c a w,Q (.panic c) (a.put oi.dst undef) w→Q (.panic c) a w:=by exact fun _ _ _ h=>h) (hw:Region.wanted oi (yielded ops a.tmps)=false:=by rfl) (ha:a.put (some N) undef=a':=by(simp only[Act.put,List.setIfInBounds_toArray,List.set_cons_zero,List.set_cons_succ,i64_w,i32_w];rfl)):wpAnyLast P md ops Q S ds (fuel+1) l a w:=
  pure_ l' hi hN hc hQ (Or.inr ⟨hw,rfl⟩) ha h
theorem T_{oi:Oper}{v:Value}{fuel:Nat}{l l':Array Bool}{a a':Act}{w:World}(i:Nat)(N:Tmp)(hi:ops[i]?=some oi:=by rfl)(hN:oi.dst=some N:=by rfl)(hl:l.setIfInBounds i true=l':=by(simp only[List.setIfInBounds_toArray,List.set_cons_zero,List.set_cons_succ];rfl))(hc:takeB md ops ds l l' i=true:=by exact take_ofW HT_.out HW_.out (by kernel_rfl))
    (hQ:∀c a w,Q (.panic c) (a.put oi.dst v) w→Q (.panic c) a w:=by exact fun _ _ _ h=>h) (hw:Region.wanted oi (yielded ops a.tmps)=true:=by rfl) (y:∀w',S w'→(execOp a.eval oi).run P w'= .ok (.value v) w') (hS:S w:=by exact hHeld) (ha:a.put (some N) v=a':=by(simp only[Act.put,List.setIfInBounds_toArray,List.set_cons_zero,List.set_cons_succ,i64_w,i32_w];rfl)) (h:wpAnyLast P md ops Q S ds fuel l' a' w):wpAnyLast P md ops Q S ds (fuel+1) l a w:=
  take_ l' hi hN hc hQ (Or.inl ⟨hw,y⟩) hS ha h
theorem O_{oi:Oper}{fuel:Nat}{l l':Array Bool}{a:Act}{w:World}(i:Nat)(N:Tmp)
    (h:∀K:Act→World→Prop,Shut (∀a' w',S w'→(S w'→wpAnyLast P md ops Q S ds fuel l' a' w')→K a' w')→if Region.wanted oi (yielded ops a.tmps)=true then Oper.wp P oi a w K Q else K (a.put (some N) undef) w) (hi:ops[i]?=some oi:=by rfl) (hN:oi.dst=some N:=by rfl) (hl:l.setIfInBounds i true=l':=by(simp only[List.setIfInBounds_toArray,List.set_cons_zero,List.set_cons_succ];rfl)) (hc:readyB md ops l l' i=true:=by exact one_of HT_.out (by kernel_rfl)) (hd:i∉ds:=by decide):
    wpAnyLast P md ops Q S ds (fuel+1) l a w:=one_ l' hi hN hc hd h
theorem Nm_{fuel:Nat}{l:Array Bool}{a a':Act}{v:Value}{w:World}(N:Tmp)(h:wpAnyLast P md ops Q S ds fuel l a' w)(ha:a.put (some N) v=a':=by(simp only[Act.put,List.setIfInBounds_toArray,List.set_cons_zero,List.set_cons_succ,i64_w,i32_w];rfl)):wpAnyLast P md ops Q S ds fuel l (a.put (some N) v) w:=norm_ ha h
theorem g_{oi:Oper}{N:Option Tmp}{a:Act}{w:World}{K:Act→World→Prop}{f:FuncId}{fn:Func}{as_:Array Operand}{ts:Array TypeId}(hf:P.funcs[f]?=some fn)(args:Array Value)
    (h:Calls P f args w fun e w'=>∃v,e= .returned v∧K (a.put N v) w') (hname:(fn.name== "runtime.NumGoroutine")=false:=by kernel_rfl) (hb:fn.body.isSome=true:=by rfl) (hw:Region.wanted oi (yielded ops a.tmps)=true:=by rfl) (hN:oi.dst=N:=by rfl) (hop:oi.op= .call { callee:= .value (.func f),args:=as_,argTypes:=ts } :=by rfl) (hargs:as_.map a.eval=args:=by(try simp only[List.map_toArray,List.map_cons,List.map_nil]);first|done|rfl|(simp only[List.length_drop,List.length_take];rfl)):
    if Region.wanted oi (yielded ops a.tmps)=true then Oper.wp P oi a w K Q else K (a.put N undef) w:=goes_ hf hname hb args hw hN hop hargs h
theorem G_{rest:List Oper}{oi:Oper}{a:Act}{w:World}{f:FuncId}{fn:Func}{as_:Array Operand}{ts:Array TypeId}(N:Tmp)(hf:P.funcs[f]?=some fn)(args:Array Value)
    (h:Calls P f args w fun e w'=>∃v,e= .returned v∧wpList P ops Q rest (a.put (some N) v) w') (hd:oi.dst=some N:=by rfl) (hg:oi.guard=none:=by rfl) (hop:oi.op= .call { callee:= .value (.func f),args:=as_,argTypes:=ts } :=by rfl) (hname:(fn.name== "runtime.NumGoroutine")=false:=by kernel_rfl) (hb:fn.body.isSome=true:=by rfl) (hargs:as_.map a.eval=args:=by(try simp only[List.map_toArray,List.map_cons,List.map_nil]);first|done|rfl|(simp only[List.length_drop,List.length_take];rfl)):
    wpList P ops Q (oi::rest) a w:=goesL_ (some N) hd hg hf hname hb args hop hargs h
theorem X_{rest:List Oper}{o:Oper}{a:Act}{W:World}(N:Tmp)(cs:Array Value)(t:TypeId)
    (h:∀g,g=W.heap.size→∀w1,w1.heap[g]?=some (.cells cs t (0,0))→Below W.heap.size W w1→wpList P ops Q rest (a.put o.dst (.pointer (some ⟨g,0,none⟩))) w1) (hd:o.dst=some N:=by rfl) (hg:o.guard=none:=by rfl)
    (hrun:(execOp a.eval o).run P W= .ok (.value (.pointer (some ⟨W.heap.size,0,none⟩))) (W.alloc (.cells cs t (0,0))):=by first|(go_simp;done)|(go_simp;rfl)):wpList P ops Q (o::rest) a W:=box_event hg hd hrun h
end
end Go.Proofs.YtfghldonnffldaaGreatDoorW.PrintWords
namespace Go.Proofs.YtfghldonnffldaaGreatDoor.TBase
open Go.RowKit YtfghldonnffldaaGreatDoorW.PrintWords YtfghldonnffldaaGreatDoorW.PrintLast YtfghldonnffldaaGreatDoorW.PrintMore
attribute [local go_sem] max2_int min2_int max_two min_two max_three min_three max_four min_four
theorem info3:(Tryz.prog.info? 3).map (fun i=>(i.zero,i.size,i.bytes))=some (some (.int .i64 0),1,8):=by kernel_rfl
theorem info5:(Tryz.prog.info? 5).map (fun i=>(i.zero,i.size,i.bytes))=some (some (.int .u8 0),1,1):=by kernel_rfl
theorem info36:(Tryz.prog.info? 36).map (fun i=>(i.zero,i.size,i.bytes))=some (some (.slice none 0 0),1,24):=by kernel_rfl
theorem info116:(Tryz.prog.info? 116).map (fun i=>(i.zero,i.size,i.bytes))=some (some (.agg #[(.string ⟨#[]⟩),(.int .i64 0),(.int .i64 0)]),3,32):=by kernel_rfl
def rd_L1(xs:List (List Int))(i:Int):(List Int):=xs.getD i.toNat ([]:List Int)
theorem at_L1{w:World}{A:Option Addr}{n:Nat}{xs:List (List Int)}(h:Kd.C (Kd.slice 3 (Kd.int .i64)) w A n xs)(i:Int)(h0:0≤i)(h1:i<n):∃ad A0 c0,A=some ad∧w.cell? (ad.add i.toNat)=some (.slice A0 (rd_L1 xs i).length c0)∧(rd_L1 xs i).length≤c0∧(Kd.int .i64).C w A0 (rd_L1 xs i).length (rd_L1 xs i):=by
 obtain⟨ad,c,e,_,hK,hc0⟩:=Kd.C_get h ([]:List Int) i h0 h1;have hc:∀j u,c[j]?=some u→w.cell? (ad.add (i.toNat*1+j))=some u:=hc0;obtain⟨A0,c0,rfl,l0,g0⟩:=hK;exact⟨ad,A0,c0,e,by have hq:=hc 0 _ rfl;rwa [Nat.mul_one,Nat.add_zero] at hq,l0,g0⟩
structure S116 where
 f0:ByteArray
 f1:Int
 f2:Int
def z116:S116:=⟨(⟨#[]⟩:ByteArray),(0:Int),(0:Int)⟩
def k116:Kd S116:=Kd.iso (Kd.pair Kd.string (Kd.pair (Kd.int .i64) (Kd.int .i64))) (fun x:S116=>(x.f0,x.f1,x.f2))
theorem k116_open{w:World}{x:S116}{cs:List Value}(h:k116.K w x cs):cs= [.string x.f0,.int .i64 x.f1,.int .i64 x.f2]:=by
 obtain⟨_,_,rfl,rfl,⟨_,_,rfl,rfl,rfl⟩⟩:=h;exact rfl
theorem k116_mkM(w:World)(base:Nat)(ok:Nat→Prop)(x:S116)  :k116.M w base ok x [.string x.f0,.int .i64 x.f1,.int .i64 x.f2]:=⟨[.string x.f0],[.int .i64 x.f1,.int .i64 x.f2],rfl,rfl,⟨[.int .i64 x.f1],[.int .i64 x.f2],rfl,rfl,rfl⟩⟩
def rd_T116(xs:List S116)(i:Int):S116:=xs.getD i.toNat z116
theorem at_T116{w:World}{A:Option Addr}{n:Nat}{xs:List S116}(h:Kd.C k116 w A n xs)(i:Int)(h0:0≤i)(h1:i<n):∃ad,A=some ad∧w.cell? (ad.add (i.toNat*3))=some (.string (rd_T116 xs i).f0)∧w.cell? ⟨(ad.add (i.toNat*3)).block,(ad.add (i.toNat*3)).off+1,none⟩=some (.int .i64 (rd_T116 xs i).f1)∧w.cell? ⟨(ad.add (i.toNat*3)).block,(ad.add (i.toNat*3)).off+2,none⟩=some (.int .i64 (rd_T116 xs i).f2):=by
 obtain⟨ad,c,e,_,hK,hc0⟩:=Kd.C_get h z116 i h0 h1;have hc:∀j u,c[j]?=some u→w.cell? (ad.add (i.toNat*3+j))=some u:=hc0;obtain rfl:=k116_open hK;exact⟨ad,e,hc 0 _ rfl,by rw[←add_field _ _ 1 (by omega)];exact hc 1 _ rfl,by rw[←add_field _ _ 2 (by omega)];exact hc 2 _ rfl⟩
def pcm_Frame.f(ae:Int)(af:Int):Option (Int):=some (wrap64 (Int.tdiv (wrap64 (ae*af)) 8))
theorem pcm_Frame.calls(ae:Int)(af:Int)(r:Int)(w:World)(h:pcm_Frame.f ae af=some r):
  Calls Tryz.prog 29 #[.agg #[.int .i64 ae,.int .i64 af]] w fun e w'=>e= .returned (.int .i64 r)∧Below w.heap.size w w':=by
 have fH:=Tryz.underlying23;have HB:=Z_ (Below.refl w.heap.size w);have H:(some (wrap64 (Int.tdiv (wrap64 (ae*af)) 8)))=some r:=h;clear h;obtain rfl:=Option.some.inj H
 go_enter Tryz.func29,Tryz.ntmps29
 go_wp2_with (first|(refine X_ 1 #[.int .i64 ae,.int .i64 af] 23 ?_;intro az hg w2 hbox hb;have aa:=Z_ (hbox);have iy:=Z_ (G2_ hg:w.heap.size≤_);have nu:=iy;replace HB:=Hb_ hb;clear hb hbox hg;have Cq:=cz_ aa 0;have Cr:=cz_ aa 1;have Cs:=fz_ aa 0;have Ct:=fz_ aa 1))
 go_ret;exact⟨E_,B_⟩
def pcm_Frames.f(a0:ByteArray)(av:Int)(aA:Int):Option (Bool):=(pcm_Frame.f av aA).bind fun bG=>(if bG=0 then(none) else(some (((a0.size:Int)%bG)==0)))
theorem pcm_Frames.calls(a0:ByteArray)(av:Int)(aA:Int)(r:Bool)(w:World)(h:pcm_Frames.f a0 av aA=some r):
  Calls Tryz.prog 61 #[.string a0,.agg #[.int .i64 av,.int .i64 aA]] w fun e w'=>e= .returned (.bool r)∧Below w.heap.size w w':=by
 have fH:=Tryz.underlying23;have HB:=Z_ (Below.refl w.heap.size w);have H:((pcm_Frame.f av aA).bind fun bG=>(if bG=0 then(none) else(some (((a0.size:Int)%bG)==0))))=some r:=h;clear h;replace H:=Ob_ H;obtain⟨bG,jw,H⟩:=H;(try dsimp only at H);have A3:=Z_ jw;clear jw
 by_cases c4:bG=0
 ·rw[if_pos c4] at H;exact absurd H (by simp)
 ·rw[if_neg c4] at H;have c4b0:(bG==0)=false:=beq_eq_false_iff_ne.mpr c4;have c4b1:(bG !=0)=true:=bne_iff_ne.mpr c4;obtain rfl:=Option.some.inj H
  go_enter Tryz.func61,Tryz.ntmps61
  go_wp2_with (first|(refine X_ 3 #[.int .i64 av,.int .i64 aA] 23 ?_;intro R9 hg w5 hbox hb;have ny:=Z_ (hbox);have E8:=Z_ (G2_ hg:w.heap.size≤_);have Sa:=E8;replace HB:=Hb_ hb;clear hb hbox hg;have lY:=cz_ ny 0;have lZ:=cz_ ny 1;have l5:=fz_ ny 0;have l7:=fz_ ny 1)|(refine G_ 8 Tryz.func29 #[.agg #[.int .i64 av,.int .i64 aA]] ?_;refine(pcm_Frame.calls av aA bG _ A3.out).mono ?_;rintro e w7 ⟨rfl,hb⟩;refine⟨_,rfl,?_⟩;replace ny:=Z_ (blk_below (K_ ny) hb);replace HB:=Hb_ hb;(try clear hb)))
  go_ret;exact⟨E_,B_⟩
def pcm_May.f(ae:Int)(af:Int):Option (Bool):=if ae=1 then(if af=8 then(some true) else(some (af==16))) else(if ae=2 then(if af=8 then(some true) else(some (af==16))) else(some false))
theorem pcm_May.calls(ae:Int)(af:Int)(r:Bool)(w:World)(h:pcm_May.f ae af=some r):
  Calls Tryz.prog 62 #[.agg #[.int .i64 ae,.int .i64 af]] w fun e w'=>e= .returned (.bool r)∧Below w.heap.size w w':=by
 have fH:=Tryz.underlying23;have HB:=Z_ (Below.refl w.heap.size w);have H:(if ae=1 then(if af=8 then(some true) else(some (af==16))) else(if ae=2 then(if af=8 then(some true) else(some (af==16))) else(some false)))=some r:=h;clear h
 by_cases c2:ae=1
 ·rw[if_pos c2] at H;have c2b0:(ae==1)=true:=beq_iff_eq.mpr c2;have c2b1:(ae !=1)=false:=bne_eq_false_iff_eq.mpr c2;clear c2
  by_cases c3:af=8
  ·rw[if_pos c3] at H;have c3b0:(af==8)=true:=beq_iff_eq.mpr c3;have c3b1:(af !=8)=false:=bne_eq_false_iff_eq.mpr c3;clear c3;obtain rfl:=Option.some.inj H
   go_enter Tryz.func62,Tryz.ntmps62
   go_wp2_with (first|(refine X_ 1 #[.int .i64 ae,.int .i64 af] 23 ?_;intro rW hg w4 hbox hb;have dG:=Z_ (hbox);have jM:=Z_ (G2_ hg:w.heap.size≤_);have rX:=jM;replace HB:=Hb_ hb;clear hb hbox hg;have jE:=cz_ dG 0;have jF:=cz_ dG 1;have jG:=fz_ dG 0;have jH:=fz_ dG 1))
   go_ret;exact⟨E_,B_⟩
  ·rw[if_neg c3] at H;have c3b0:(af==8)=false:=beq_eq_false_iff_ne.mpr c3;have c3b1:(af !=8)=true:=bne_iff_ne.mpr c3;obtain rfl:=Option.some.inj H
   go_enter Tryz.func62,Tryz.ntmps62
   go_wp2_with (first|(refine X_ 1 #[.int .i64 ae,.int .i64 af] 23 ?_;intro rW hg w6 hbox hb;have dG:=Z_ (hbox);have jM:=Z_ (G2_ hg:w.heap.size≤_);have rX:=jM;replace HB:=Hb_ hb;clear hb hbox hg;have kP:=cz_ dG 0;have kQ:=cz_ dG 1;have kR:=fz_ dG 0;have kS:=fz_ dG 1))
   go_ret;exact⟨E_,B_⟩
 ·rw[if_neg c2] at H;have c2b0:(ae==1)=false:=beq_eq_false_iff_ne.mpr c2;have c2b1:(ae !=1)=true:=bne_iff_ne.mpr c2
  by_cases c8:ae=2
  ·rw[if_pos c8] at H;have c8b0:(ae==2)=true:=beq_iff_eq.mpr c8;have c8b1:(ae !=2)=false:=bne_eq_false_iff_eq.mpr c8;clear c8
   by_cases c9:af=8
   ·rw[if_pos c9] at H;have c9b0:(af==8)=true:=beq_iff_eq.mpr c9;have c9b1:(af !=8)=false:=bne_eq_false_iff_eq.mpr c9;clear c9;obtain rfl:=Option.some.inj H
    go_enter Tryz.func62,Tryz.ntmps62
    go_wp2_with (first|(refine X_ 1 #[.int .i64 ae,.int .i64 af] 23 ?_;intro rW hg o5 hbox hb;have dG:=Z_ (hbox);have jM:=Z_ (G2_ hg:w.heap.size≤_);have rX:=jM;replace HB:=Hb_ hb;clear hb hbox hg;have iH:=cz_ dG 0;have iI:=cz_ dG 1;have iJ:=fz_ dG 0;have iK:=fz_ dG 1))
    go_ret;exact⟨E_,B_⟩
   ·rw[if_neg c9] at H;have c9b0:(af==8)=false:=beq_eq_false_iff_ne.mpr c9;have c9b1:(af !=8)=true:=bne_iff_ne.mpr c9;obtain rfl:=Option.some.inj H
    go_enter Tryz.func62,Tryz.ntmps62
    go_wp2_with (first|(refine X_ 1 #[.int .i64 ae,.int .i64 af] 23 ?_;intro rW hg w12 hbox hb;have dG:=Z_ (hbox);have jM:=Z_ (G2_ hg:w.heap.size≤_);have rX:=jM;replace HB:=Hb_ hb;clear hb hbox hg;have gL:=cz_ dG 0;have gM:=cz_ dG 1;have gN:=fz_ dG 0;have gP:=fz_ dG 1))
    go_ret;exact⟨E_,B_⟩
  ·rw[if_neg c8] at H;have c8b0:(ae==2)=false:=beq_eq_false_iff_ne.mpr c8;have c8b1:(ae !=2)=true:=bne_iff_ne.mpr c8;obtain rfl:=Option.some.inj H
   go_enter Tryz.func62,Tryz.ntmps62
   go_wp2_with (first|(refine X_ 1 #[.int .i64 ae,.int .i64 af] 23 ?_;intro rW hg yN hbox hb;have dG:=Z_ (hbox);have jM:=Z_ (G2_ hg:w.heap.size≤_);have rX:=jM;replace HB:=Hb_ hb;clear hb hbox hg;have jN:=cz_ dG 0;have jO:=cz_ dG 1;have jP:=fz_ dG 0;have jQ:=fz_ dG 1))
   go_ret;exact⟨E_,B_⟩
def pcm_sample.f(a0:ByteArray):Option (Int):=if(a0.size:Int)=1 then(if 0<(a0.size:Int) then(some (wrap64 ((wrap64 (bt a0 0)) - 128))) else(none)) else(if 0<(a0.size:Int) then(if 1<(a0.size:Int) then(some (wrap64 (IntKind.i16.wrap (Go.bits .or .u16 (IntKind.u16.wrap (bt a0 0)) (IntKind.u16.wrap ((IntKind.u16.wrap (bt a0 1))*256)))))) else(none)) else(none))
theorem pcm_sample.calls(a0:ByteArray)(r:Int)(w:World)(h:pcm_sample.f a0=some r):
  Calls Tryz.prog 63 #[.string a0] w fun e w'=>e= .returned (.int .i64 r)∧Drawn0 w w':=by
 have H:(if(a0.size:Int)=1 then(if 0<(a0.size:Int) then(some (wrap64 ((wrap64 (bt a0 0)) - 128))) else(none)) else(if 0<(a0.size:Int) then(if 1<(a0.size:Int) then(some (wrap64 (IntKind.i16.wrap (Go.bits .or .u16 (IntKind.u16.wrap (bt a0 0)) (IntKind.u16.wrap ((IntKind.u16.wrap (bt a0 1))*256)))))) else(none)) else(none)))=some r:=h;clear h
 by_cases c2:(a0.size:Int)=1
 ·rw[if_pos c2] at H;have c2b0:((a0.size:Int)==1)=true:=beq_iff_eq.mpr c2;have c2b1:((a0.size:Int) !=1)=false:=bne_eq_false_iff_eq.mpr c2;clear c2
  by_cases c3:0<(a0.size:Int)
  ·rw[if_pos c3] at H;have c3b0:=dt_ c3;have c3b1:decide (0<a0.size)=true:=dt_ (by omega);clear c3;obtain rfl:=Option.some.inj H;have p4:0≤(0:Int):=(by omega);have q4:0<a0.size:=(by have:(0:Int)<(a0.size:Int):=od_ A_;omega);have hx4:∀h:0<a0.size,((a0[0]'h).toNat:Int)=bt a0 0:=bt_at a0 0;clear p4;have Xf:(0<(a0.size:Int))=True:=eq_true (od_ A_);replace q4:=eq_true q4
   go_enter Tryz.func63,Tryz.ntmps63
   go_wp2
   repeat (go_quiet (fail);try go_wp2)
   go_ret;exact⟨E1_,D_⟩
  ·rw[if_neg c3] at H;exact absurd H (by simp)
 ·rw[if_neg c2] at H;have c2b0:((a0.size:Int)==1)=false:=beq_eq_false_iff_ne.mpr c2;have c2b1:((a0.size:Int) !=1)=true:=bne_iff_ne.mpr c2
  by_cases c5:0<(a0.size:Int)
  ·rw[if_pos c5] at H;have c5b0:=dt_ c5;have c5b1:decide (0<a0.size)=true:=dt_ (by omega);clear c5
   by_cases c7:1<(a0.size:Int)
   ·rw[if_pos c7] at H;have c7b0:=dt_ c7;have c7b1:decide (1<a0.size)=true:=dt_ (by omega);clear c7;obtain rfl:=Option.some.inj H;have p6:0≤(0:Int):=(by omega);have q6:0<a0.size:=(by have:(0:Int)<(a0.size:Int):=od_ A_;omega);have hx6:∀h:0<a0.size,((a0[0]'h).toNat:Int)=bt a0 0:=bt_at a0 0;clear p6;have Xg:(0<(a0.size:Int))=True:=eq_true (od_ A_);replace q6:=eq_true q6;have p8:0≤(1:Int):=(by omega);have q8:1<a0.size:=(by have:(1:Int)<(a0.size:Int):=od_ A_;omega);have Pz:∀h:1<a0.size,((a0[1]'h).toNat:Int)=bt a0 1:=bt_at a0 1;clear p8;have Xh:(1<(a0.size:Int))=True:=eq_true (od_ A_);replace q8:=eq_true q8
    go_enter Tryz.func63,Tryz.ntmps63
    go_wp2
    repeat (go_quiet (fail);try go_wp2)
    go_ret;exact⟨E1_,D_⟩
   ·rw[if_neg c7] at H;exact absurd H (by simp)
  ·rw[if_neg c5] at H;exact absurd H (by simp)
mutual
def pcm_Get.j0:Nat→ByteArray→Bool→Int→Int→Option ((List (List Int))×Int)
 |0,_,_,_,_=>none
 |k+1,x0,UM,bX,dH=>if UM=true then(some (([]:List (List Int)),1900)) else(if 0≤bX then(if(bX:Int).toNat≤11728124029610 then(pcm_Get.l0 k x0 (List.replicate (bX:Int).toNat []) (wrap64 (Int.tdiv dH 8)) 0 bX dH) else(none)) else(none))
def pcm_Get.l0:Nat→ByteArray→List (List Int)→Int→Int→Int→Int→Option ((List (List Int))×Int)
 |0,_,_,_,_,_,_=>none
 |k+1,x0,x6,x7,x8,bX,dH=>if(wrap64 (x8*x7))<(x0.size:Int) then(if bX=0 then(none) else(if 0≤(Int.tmod x8 bX) then(if(Int.tmod x8 bX)<(x6.length:Int) then(if 0≤(wrap64 (x8*x7)) then(if(wrap64 (x8*x7))≤(wrap64 ((wrap64 (x8+1))*x7)) then(if(wrap64 ((wrap64 (x8+1))*x7))≤(x0.size:Int) then((pcm_sample.f (x0.extract ((wrap64 (x8*x7)):Int).toNat ((wrap64 ((wrap64 (x8+1))*x7)):Int).toNat)).bind fun vJ=>(if(rd_L1 x6 (Int.tmod x8 bX)).length<17592186044416 then(pcm_Get.l0 k x0 (x6.set ((Int.tmod x8 bX):Int).toNat ((rd_L1 x6 (Int.tmod x8 bX))++ [vJ])) x7 (wrap64 (x8+1)) bX dH) else(none))) else(none)) else(none)) else(none)) else(none)) else(none))) else(some (x6,0))
end
def pcm_Get.f(k:Nat)(a0:ByteArray)(av:Int)(aA:Int):Option ((List (List Int))×Int):=(pcm_May.f av aA).bind fun ag=>(if ag=true then((pcm_Frames.f a0 av aA).bind fun t107=>(if t107=true then(pcm_Get.j0 k a0 (decide ((a0.size:Int)>4096)) av aA) else(pcm_Get.j0 k a0 true av aA))) else(pcm_Get.j0 k a0 true av aA))
theorem pcm_Get.mono_l:∀k,(∀y0 y1 y2 y3,LeO (pcm_Get.j0 k y0 y1 y2 y3) (pcm_Get.j0 (k+1) y0 y1 y2 y3))∧(∀y0 y1 y2 y3 y4 y5,LeO (pcm_Get.l0 k y0 y1 y2 y3 y4 y5) (pcm_Get.l0 (k+1) y0 y1 y2 y3 y4 y5))
 |0=>⟨fun _ _ _ _ r h=>by simp[pcm_Get.j0] at h,fun _ _ _ _ _ _ r h=>by simp[pcm_Get.l0] at h⟩
 |k+1=>by
  obtain⟨fD,ih1⟩:=pcm_Get.mono_l k;refine⟨?_,?_⟩
  ·intro y0 y1 y2 y3;unfold pcm_Get.j0
   repeat' first
   |(with_reducible exact fD _ _ _ _)
   |(with_reducible exact ih1 _ _ _ _ _ _)
   |(with_reducible exact LeO.refl _)
   |(with_reducible exact LeO.none _)
   |(with_reducible refine LeO.ite ?_ ?_)
   |(with_reducible refine LeO.bind ?_ (fun _=>?_))
   |exact fD _ _ _ _
   |exact ih1 _ _ _ _ _ _
   |exact LeO.none _
   |refine LeO.ite ?_ ?_
   |refine LeO.bind ?_ (fun _=>?_)
  ·intro y0 y1 y2 y3 y4 y5;unfold pcm_Get.l0
   repeat' first
   |(with_reducible exact fD _ _ _ _)
   |(with_reducible exact ih1 _ _ _ _ _ _)
   |(with_reducible exact LeO.refl _)
   |(with_reducible exact LeO.none _)
   |(with_reducible refine LeO.ite ?_ ?_)
   |(with_reducible refine LeO.bind ?_ (fun _=>?_))
   |exact fD _ _ _ _
   |exact ih1 _ _ _ _ _ _
   |exact LeO.none _
   |refine LeO.ite ?_ ?_
   |refine LeO.bind ?_ (fun _=>?_)
theorem pcm_Get.mono:∀a0 a1 a2 k,LeO (pcm_Get.f k a0 a1 a2) (pcm_Get.f (k+1) a0 a1 a2):=by
 intro a0 a1 a2 k;obtain⟨fD,ih1⟩:=pcm_Get.mono_l k;unfold pcm_Get.f
 repeat' first
   |(with_reducible exact fD _ _ _ _)
   |(with_reducible exact ih1 _ _ _ _ _ _)
   |(with_reducible exact LeO.refl _)
   |(with_reducible exact LeO.none _)
   |(with_reducible refine LeO.ite ?_ ?_)
   |(with_reducible refine LeO.bind ?_ (fun _=>?_))
   |exact fD _ _ _ _
   |exact ih1 _ _ _ _ _ _
   |exact LeO.none _
   |refine LeO.ite ?_ ?_
   |refine LeO.bind ?_ (fun _=>?_)
def pcm_Get.T9:Bool×List (List Nat×List Nat):=(true,[([],[]),([],[]),([],[]),([],[]),([2,3],[2,3]),([4],[4]),([],[]),([],[]),([],[]),([7,8],[7,8]),([],[]),([10],[10]),([],[]),([11,12],[11,12]),([6,9,13],[6,9,13]),([14],[14]),([15],[15]),([5,16,15],[5,16]),([0,1,0,1,2,3,4,5,6,7,8,9,10,11,12,13,14,15,16,17],[0,1]),([18,17,17,0,1,2,3,4,5,6,7,8,9,10,11,12,13,14,15,16,17],[17,18])])
def pcm_Get.B9:List Nat:= [0,0,0,0,12,28,0,0,0,384,0,1024,0,7168,16320,32704,65472,131068,262143,524287]
theorem pcm_Get.tab9:rtab .any (opsOf Tryz.f25 9)=pcm_Get.T9:=by kernel_rfl
theorem pcm_Get.bits9:waitsOk pcm_Get.T9.2 pcm_Get.B9=true:=by kernel_rfl
theorem pcm_Get.calls(k:Nat)(a0:ByteArray)(av:Int)(aA:Int)(r1:List (List Int))(r2:Int)(w:World)(h:pcm_Get.f k a0 av aA=some (r1,r2)):
  Calls Tryz.prog 25 #[.string a0,.agg #[.int .i64 av,.int .i64 aA]] w fun e w'=>∃eB:Value,e= .returned (.tuple #[eB,.int .i64 r2])∧Kd.S (Kd.slice 3 (Kd.int .i64)) 36 w' w.heap.size (fun _=>True) eB r1∧Below w.heap.size w w':=by
 have fH:=Tryz.underlying23;have HB:=Z_ (Below.refl w.heap.size w);have H:((pcm_May.f av aA).bind fun ag=>(if ag=true then((pcm_Frames.f a0 av aA).bind fun t107=>(if t107=true then(pcm_Get.j0 k a0 (decide ((a0.size:Int)>4096)) av aA) else(pcm_Get.j0 k a0 true av aA))) else(pcm_Get.j0 k a0 true av aA)))=some (r1,r2):=h;clear h;have nI:=Z_ H;clear H
 go_enter Tryz.func25,Tryz.ntmps25
 go_upto_region 1 with (first|((try (refine gate_guard (by rfl) ?_;dsimp only));refine X_ 3 #[.int .i64 av,.int .i64 aA] 23 ?_;intro fe hg w4 hbox hb;have aj:=Z_ (hbox);have wo:=Z_ (G2_ hg:w.heap.size≤_);have E9:=wo;replace HB:=Hb_ hb;clear hb hbox hg))
 (try simp only[Act.put,List.setIfInBounds_toArray,List.set_cons_zero,List.set_cons_succ])
 go_cut [23] (fun v23 wc=>∃(kq:Nat) (rY:Bool),v23= .bool rY∧Aside0 (pcm_Get.j0 kq a0 rY av aA=some (r1,r2))∧Aside0 (kq≤k)∧Aside0 (wc.heap[fe]?=some (.cells #[.int .i64 av,.int .i64 aA] 23 (0,0)))∧Aside0 (Below w.heap.size w wc))
 case first=>
  have H:=nI.out;clear nI;replace H:=Ob_ H;obtain⟨ag,jR,H⟩:=H;(try dsimp only at H);have A5:=Z_ jR;clear jR
  by_cases c6:ag=true
  ·subst c6;rw[if_pos rfl] at H;replace H:=Ob_ H;obtain⟨t107,wu,H⟩:=H;(try dsimp only at H);have A7:=Z_ wu;clear wu
   by_cases c8:t107=true
   ·subst c8;rw[if_pos rfl] at H;have H':=Z_ H;clear H;have qG:=cz_ aj 0;have qH:=cz_ aj 1;have qI:=fz_ aj 0;have qJ:=fz_ aj 1
    go_wp2_with (first|(refine G_ 11 Tryz.func62 #[.agg #[.int .i64 av,.int .i64 aA]] ?_;refine(pcm_May.calls av aA true _ A5.out).mono ?_;rintro e o5 ⟨rfl,hb⟩;refine⟨_,rfl,?_⟩;replace aj:=Z_ (blk_below (K_ aj) hb);replace HB:=Hb_ hb;(try clear hb);have iH:=cz_ aj 0;have iI:=cz_ aj 1;have iJ:=fz_ aj 0;have iK:=fz_ aj 1)|(go_at_call 61;refine(pcm_Frames.calls a0 av aA true _ A7.out).mono ?_;rintro e w12 ⟨rfl,hb⟩;replace aj:=Z_ (blk_below (K_ aj) hb);replace HB:=Hb_ hb;(try clear hb)))
    go_meet
    case rel=>exact⟨_,(decide ((a0.size:Int)>4096)),(E1_),H',⟨L_⟩,⟨(K_ aj)⟩,⟨B_⟩⟩
   ·replace c8:=Bool.eq_false_iff.mpr c8;subst c8;rw[if_neg (show ¬(false=true) by decide)] at H;have H':=Z_ H;clear H;have gL:=cz_ aj 0;have gM:=cz_ aj 1;have gN:=fz_ aj 0;have gP:=fz_ aj 1
    go_wp2_with (first|(refine G_ 11 Tryz.func62 #[.agg #[.int .i64 av,.int .i64 aA]] ?_;refine(pcm_May.calls av aA true _ A5.out).mono ?_;rintro e yN ⟨rfl,hb⟩;refine⟨_,rfl,?_⟩;replace aj:=Z_ (blk_below (K_ aj) hb);replace HB:=Hb_ hb;(try clear hb);have jN:=cz_ aj 0;have jO:=cz_ aj 1;have jP:=fz_ aj 0;have jQ:=fz_ aj 1)|(go_at_call 61;refine(pcm_Frames.calls a0 av aA false _ A7.out).mono ?_;rintro e w16 ⟨rfl,hb⟩;replace aj:=Z_ (blk_below (K_ aj) hb);replace HB:=Hb_ hb;(try clear hb)))
    go_meet
    case rel=>exact⟨_,(true),(E1_),H',⟨L_⟩,⟨(K_ aj)⟩,⟨B_⟩⟩
  ·replace c6:=Bool.eq_false_iff.mpr c6;subst c6;rw[if_neg (show ¬(false=true) by decide)] at H;have H':=Z_ H;clear H;have nJ:=cz_ aj 0;have nK:=cz_ aj 1;have nL:=fz_ aj 0;have nM:=fz_ aj 1
   go_wp2_with (first|(refine G_ 11 Tryz.func62 #[.agg #[.int .i64 av,.int .i64 aA]] ?_;refine(pcm_May.calls av aA false _ A5.out).mono ?_;rintro e EJ ⟨rfl,hb⟩;refine⟨_,rfl,?_⟩;replace aj:=Z_ (blk_below (K_ aj) hb);replace HB:=Hb_ hb;(try clear hb)))
   go_meet
   case rel=>exact⟨_,(true),(E1_),H',⟨L_⟩,⟨(K_ aj)⟩,⟨B_⟩⟩
 case rest=>
  clear nI
  try clear c2
  try clear p2
  try clear c6
  try clear c8
  try clear iH
  try clear iI
  try clear gL
  try clear gM
  try clear jN
  try clear jO
  try clear nJ
  try clear nK
  try clear qG
  try clear qH
  try clear iJ
  try clear iK
  try clear gN
  try clear gP
  try clear jP
  try clear jQ
  try clear nL
  try clear nM
  try clear qI
  try clear qJ
  obtain⟨kq,rY,rfl,HA,HJ2,aj,HB⟩:=hcut
  cases kq with
  |zero=>exact absurd HA.out (by simp[pcm_Get.j0])
  |succ rZ=>
   have H:=HA.out;clear HA;simp only[pcm_Get.j0] at H
   by_cases c19:rY=true
   ·subst c19;rw[if_pos rfl] at H;simp only[Option.some.injEq,Prod.mk.injEq] at H;obtain⟨rfl,rfl⟩:=H;go_wp2;go_ret2;exact⟨_,E_,by first|exact Kd.S_nil _ _ _ _ _|exact Kd.N_nil _ _ _ _ _|exact Kd.V_nil _ _ _ _ _|exact Kd.Q_nil _ _ _ _ _|exact Kd.R_nil _ _ _ _ _,B_⟩
   ·replace c19:=Bool.eq_false_iff.mpr c19;subst c19;rw[if_neg (show ¬(false=true) by decide)] at H
    by_cases c20:0≤av
    ·rw[if_pos c20] at H;have c20b0:=eq_true c20;have c20b1:=dt_ c20;clear c20
     by_cases c21:(av:Int).toNat≤11728124029610
     ·rw[if_pos c21] at H;have c21b0:=eq_true c21;have c21b1:=dt_ c21;(try simp only[nC_] at c21b1);clear c21;obtain⟨ww,iX⟩:∃y_:List (List Int),y_=(List.replicate (av:Int).toNat []):=⟨_,rfl⟩;replace H:(pcm_Get.l0 rZ a0 ww (wrap64 (Int.tdiv aA 8)) 0 av aA)=some (r1,r2):=by first|(rw[iX];with_reducible exact H)|(have bS:=(bs_ _ _).symm.trans H;rw[iX];with_reducible exact bS)|(have bS:=(bs_ _ _).symm.trans H;with_reducible exact bS)|with_reducible exact H|(rw[iX];exact H)|exact H
      have r9:=Z_ iX;clear iX;have H':=Z_ H;clear H;have si:=cz_ aj 0;have sj:=cz_ aj 1;have su:=fz_ aj 0;have sw:=fz_ aj 1
      go_wp2_with (first|((with_reducible refine gate_dst (N:=26) rfl ?_);(try (refine gate_guard (by rfl) ?_;dsimp only));refine Kd.S_make (Kd.slice 3 (Kd.int .i64)) _ 36 rfl (N:=26) rfl 37 _ _ rfl av rfl rfl Tryz.underlying37 (.slice none 0 0) 24 info36 rfl (by decide) (by omega) [] (ok:=fun _=>True) (okp:=fun _=>True) ⟨_,rfl,Kd.R_nil _ _ _ _ _⟩ (fun _ hk=>hk) trivial (od_ A_) (Nat.le_trans (Nat.mul_le_mul_right _ (od_ A_:av.toNat≤11728124029610)) (by omega)) (Below.refl _ _) (Nat.le_refl _) ?_;intro v109 Cu wB hb hg_ hnew_;clear hg_ hnew_;(first|rw[←r9.out] at wB|(simp only[Int.reduceToNat] at wB;rw[←r9.out] at wB));have wC:=Z_ (Kd.S_lower wB (below_size B_));replace aj:=Z_ (blk_below (K_ aj) hb);replace HB:=Hb_ hb;clear hb wB;have sD:=cz_ aj 0;have sF:=cz_ aj 1;have sG:=fz_ aj 0;have sH:=fz_ aj 1))
      go_loopg [8] rZ (fun kq v8 w'=>∃(dn:List (List Int)) (fo:Int),v8= .int .i64 fo∧Aside0 (pcm_Get.l0 kq a0 dn (wrap64 (Int.tdiv aA 8)) fo av aA=some (r1,r2))∧Aside0 (kq≤rZ)∧Aside0 (Kd.S (Kd.slice 3 (Kd.int .i64)) 36 w' w.heap.size (fun _=>True) v109 dn)∧Aside0 (w'.heap[fe]?=some (.cells #[.int .i64 av,.int .i64 aA] 23 (0,0)))∧Aside0 (Below w.heap.size w w'))
      case atStart=>exact⟨(ww),(0),(E1_),H',⟨Nat.le_refl _⟩,⟨S_ wC⟩,⟨(K_ aj)⟩,⟨B_⟩⟩
      case round=>
       clear H'
       try clear c1
       try clear c2
       try clear p2
       try clear c6
       try clear p6
       try clear c8
       try clear c19
       try clear c20
       try clear c20b0
       try clear c20b1
       try clear c21
       try clear c21b0
       try clear c21b1
       try clear qK
       try clear iH
       try clear iI
       try clear gL
       try clear gM
       try clear jN
       try clear jO
       try clear nJ
       try clear nK
       try clear si
       try clear sj
       try clear sD
       try clear sF
       try clear qG
       try clear qH
       try clear iJ
       try clear iK
       try clear gN
       try clear gP
       try clear jP
       try clear jQ
       try clear nL
       try clear nM
       try clear su
       try clear sw
       try clear sG
       try clear sH
       try clear qI
       try clear qJ
       try clear p2
       obtain⟨dn,fo,rfl,HA,iq,HO_6,aj,HB⟩:=hrel
       cases gk with
       |zero=>exact absurd HA.out (by simp[pcm_Get.l0])
       |succ k2=>
        have H:=HA.out;clear HA;simp only[pcm_Get.l0] at H
        by_cases o6:(wrap64 (fo*(wrap64 (Int.tdiv aA 8))))<(a0.size:Int)
        ·rw[if_pos o6] at H;have c26b0:=dt_ o6;clear o6
         by_cases jI:av=0
         ·rw[if_pos jI] at H;exact absurd H (by simp)
         ·rw[if_neg jI] at H;have c27b0:(av==0)=false:=beq_eq_false_iff_ne.mpr jI;have c27b1:(av !=0)=true:=bne_iff_ne.mpr jI;obtain⟨dB,jA⟩:∃j_:Int,(Int.tmod fo av)=j_:=⟨_,rfl⟩;(first|rw[jA] at H|simp only[jA] at H)
          by_cases jS:0≤(dB)
          ·rw[if_pos jS] at H;have c29b0:=dt_ jS;clear jS
           by_cases lJ:(dB)<(dn.length:Int)
           ·rw[if_pos lJ] at H;have c30b0:=dt_ lJ;clear lJ;obtain⟨wD,o7⟩:∃j_:Int,(wrap64 (fo*(wrap64 (Int.tdiv aA 8))))=j_:=⟨_,rfl⟩;(first|rw[o7] at H|simp only[o7] at H);(try rw[o7] at c26b0);have hji31w:(IntKind.i64.wrap (fo*(wrap64 (Int.tdiv aA 8))))=wD:=(i64_w _).trans o7
            by_cases c32:0≤(wD)
            ·rw[if_pos c32] at H;have c32b0:=eq_true c32;have c32b1:=dt_ c32;clear c32
             by_cases yO:(wD)≤(wrap64 ((wrap64 (fo+1))*(wrap64 (Int.tdiv aA 8))))
             ·rw[if_pos yO] at H;have c33b0:=eq_true yO;have c33b1:=dt_ yO
              by_cases c34:(wrap64 ((wrap64 (fo+1))*(wrap64 (Int.tdiv aA 8))))≤(a0.size:Int)
              ·rw[if_pos c34] at H;have c34b0:=eq_true c34;have c34b1:=dt_ c34;replace H:=Ob_ H;obtain⟨vJ,wE,H⟩:=H;(try dsimp only at H);have PD:=Z_ wE;clear wE
               by_cases qL:(rd_L1 dn (dB)).length<17592186044416
               ·rw[if_pos qL] at H;have Fa:=Z_ qL;clear qL;obtain⟨y113,hy113⟩:∃y_:List Int,y_=((rd_L1 dn (dB))++ [vJ]):=⟨_,rfl⟩;replace H:(pcm_Get.l0 k2 a0 (dn.set ((dB):Int).toNat y113) (wrap64 (Int.tdiv aA 8)) (wrap64 (fo+1)) av aA)=some (r1,r2):=by first|(rw[hy113];with_reducible exact H)|(have bS:=(bs_ _ _).symm.trans H;rw[hy113];with_reducible exact bS)|(have bS:=(bs_ _ _).symm.trans H;with_reducible exact bS)|with_reducible exact H|(rw[hy113];exact H)|exact H
                have Fb:=Z_ hy113;clear hy113;obtain⟨Fe,o8⟩:∃y_:List (List Int),y_=(dn.set ((dB):Int).toNat y113):=⟨_,rfl⟩;replace H:(pcm_Get.l0 k2 a0 Fe (wrap64 (Int.tdiv aA 8)) (wrap64 (fo+1)) av aA)=some (r1,r2):=by first|(rw[o8];with_reducible exact H)|(have bS:=(bs_ _ _).symm.trans H;rw[o8];with_reducible exact bS)|(have bS:=(bs_ _ _).symm.trans H;with_reducible exact bS)|with_reducible exact H|(rw[o8];exact H)|exact H
                have Ff:=Z_ o8;clear o8;have H':=Z_ H;clear H;have yP:=cz_ aj 0;have yQ:=cz_ aj 1;have yR:=fz_ aj 0;have yS:=fz_ aj 1
                try go_wp2
                replace HO_6:=Z_ (Kd.S_drew HO_6.out);replace aj:=Z_ (blk_drew aj.out);replace HB:=Z_ (below_drew1 HB.out);obtain⟨UN,UO,Fg⟩:=Kd.S_slice HO_6.out;(first|subst Fg|(injection Fg with AZ Fh Ba;have Fj:=AZ.symm;have Fp:=Ba.symm;clear AZ Fh Ba;subst Fj;subst Fp));have gJ:0≤((dB):Int):=od_ A_;have gK:(dB)<(dn.length:Int):=od_ A_;obtain⟨ak,nN,nO,nP,bR,fq,jT⟩:=at_L1 (Kd.S_reads' HO_6.out).2.2 (dB) gJ gK
                cases nP
                obtain⟨Sb,Cv,Cw,wF⟩:=Kd.S_get HO_6.out [] (dB) gJ (by first|exact gK|exact od_ A_|(have e_:=(Kd.S_reads' HO_6.out).1;omega));obtain⟨Jq,rfl,nQ⟩:=Cw;have jU:=wF 0 _ rfl;rw[Nat.add_zero,show((Kd.slice 3 (Kd.int .i64))).sz=1 from rfl,Nat.mul_one] at jU;replace jU:=Option.some.inj (jU.symm.trans bR);rw[jU] at nQ;have fT:=Z_ (show Kd.R (Kd.int .i64) 3 _ _ _ _ (rd_L1 dn (dB)) from nQ);clear jU nQ;have sI:=Z_ bR;clear wF Cv;have sJ:=Z_ jT;have yT:=Z_ fq;clear jT fq;replace gJ:=eq_true gJ;replace gK:=eq_true gK;refine start_ (n:=20) (S:=fun w'=>w'.cell? (ak.add ((dB)).toNat)=some (.slice nN (rd_L1 dn (dB)).length nO)) (ds:= [19]) #[false,false,false,false,false,false,false,false,false,false,false,false,false,false,false,false,false,false,false,false] (by kernel_rfl) rfl rfl (bR) (fun hHeld=>?_);refine with_tabW pcm_Get.tab9 pcm_Get.bits9 (fun HT_ HW_=>?_);generalize wr.drew=Jr at HO_6 aj HB fT sJ sI bR hHeld ⊢;refine P_ 0 42 ?_;refine P_ 1 43 ?_;refine P_ 2 44 ?_;refine P_ 3 45 ?_;refine P_ 4 46 ?_;refine P_ 6 48 ?_;refine P_ 7 49 ?_;refine P_ 8 50 ?_;refine P_ 9 51 ?_;refine P_ 10 52 ?_;refine P_ 11 53 ?_;refine P_ 12 54 ?_;refine P_ 13 55 ?_;refine P_ 14 56 ?_;refine T_ 5 47 (y:=by intro w' s0;go_simp;with_reducible rfl) (h:=?_);refine O_ 15 57 fun K hK=>?_
                refine goes_ Tryz.func63 (by kernel_rfl) rfl #[.string (a0.extract ((wD):Int).toNat ((wrap64 ((wrap64 (fo+1))*(wrap64 (Int.tdiv aA 8)))):Int).toNat)] (by rfl) rfl rfl (by(try simp only[List.map_toArray,List.map_cons,List.map_nil]);first|done|(simp only[o7];rfl)|rfl|(simp only[List.length_drop,List.length_take];rfl)) ?_
                with_reducible refine(pcm_sample.calls (a0.extract ((wD):Int).toNat ((wrap64 ((wrap64 (fo+1))*(wrap64 (Int.tdiv aA 8)))):Int).toNat) vJ _ PD.out).mono ?_
                rintro e w' ⟨rfl,⟨nd,rfl⟩⟩;refine⟨_,rfl,?_⟩;obtain⟨Fq,UQ,Fs,Fu,PE,UR,Fv⟩:=Kd.S_form HO_6.out (by have h_:((dB):Int)<((dn.length:Int):Int):=od_ A_;have qM:0≤((dB):Int):=(od_ A_);omega);(first|cases Fs|(injection Fs with ea_ en_ ec_;(first|subst ea_|(injection ea_ with ea_;subst ea_));subst ec_;clear en_));have UT:=Z_ Fu;have UU:=Z_ Fv;clear Fu PE Fv;(first|simp only[add_plain] at bR|skip);obtain⟨Bb,UV,Fw,PG,Bc,_,_,Fx⟩:=Kd.S_elem HO_6.out [] ((dB):Int) (od_ A_) (by have h_:((dB):Int)<((dn.length:Int):Int):=od_ A_;first|exact h_|(have e_:=(Kd.S_reads' HO_6.out).1;omega)|simpa using h_);obtain⟨PH,rfl,wG⟩:=PG;have wH:=Bc 0 _ rfl;have Cx:=sI.out;(try simp only[add_plain] at Cx);(try simp only[Nat.add_zero] at wH);(try rw[show((Kd.slice 3 (Kd.int .i64))).sz=1 from rfl,Nat.mul_one] at wH);replace wH:=Option.some.inj (wH.symm.trans Cx);subst wH;clear Cx Bc Fw;have Cy:=Z_ (show Kd.R (Kd.int .i64) 3 _ w.heap.size Bb (.slice nN (rd_L1 dn (dB)).length nO) (rd_L1 dn (dB)) from wG);have wI:=Z_ Fx;have Cz:=Z_ (Kd.S_reads' HO_6.out).1;clear Fx wG;refine hK.out _ _ (hHeld) (fun hHeld=>?_);clear hK K;refine Nm_ 57 ?_;refine O_ 16 58 fun K hK=>?_
                refine value_ (w1:=?_) (v:=?_) (by rfl) rfl ?_ ?_;rotate_left 2
                ·go_simp
                 constructor
                 ·rfl
                 ·rfl
                refine hK.out _ _ ((World.cell?_alloc_lt _ _ _ (World.block_lt_of_cell? _ _ (hHeld))).trans (hHeld)) (fun hHeld=>?_);clear hK K;refine Nm_ 58 ?_;refine O_ 17 59 fun K hK=>?_
                refine Kd.R_append_step (Kd.int .i64) (w0:=w) w.heap.size (by rfl) (.tmp 47) (.tmp 58) 36 3 (.int .i64 0) 8 rfl Tryz.underlying36 info3 rfl (by decide) (by omega) (.slice nN (rd_L1 dn (dB)).length nO) (rd_L1 dn (dB)) vJ [.int .i64 vJ] (fun k_=>Bb k_∨((fun _=>True)) k_∧Jr.heap.size≤k_) (fun _=>False) rfl rfl ?aP (fun _ hk=>hk.elim) ?aF ?aO ?aB ?aS ?aL ?_;(case aP=>exact rfl);(case aB=>exact B_);(case aF=>exact(fun k_ hk=> .inr ⟨trivial,hk⟩));(case aO=>exact(by(with_reducible repeat (first|apply Kd.R_alloc|apply Kd.R_drewN|apply Kd.R_drew));exact Kd.R_mono Cy.out (fun _ hk=> .inl hk)));(case aS=>exact(below_size B_));(case aL=>have:=Fa.out;omega);intro UW UX ho hb hg hat;(first|have fE:=cell_grown hg (hHeld) (by first|(rw[add_block];exact(fun e_=>((fT.out.1 _ e_.symm).2) rfl))|(show some (Addr.add _ _).block≠_;rw[add_block];exact(fun e_=>((fT.out.1 _ e_.symm).2) rfl))|exact(fun e_=>((fT.out.1 _ e_.symm).2) rfl))|have fE:=cell_grown hg (cell_unalloc (hHeld) (by first|(rw[add_block];exact Kd.S_lt HO_6.out _ rfl)|(show(Addr.add _ _).block<_;rw[add_block];exact Kd.S_lt HO_6.out _ rfl)|exact Kd.S_lt HO_6.out _ rfl)) (by first|(rw[add_block];exact(fun e_=>((fT.out.1 _ e_.symm).2) rfl))|(show some (Addr.add _ _).block≠_;rw[add_block];exact(fun e_=>((fT.out.1 _ e_.symm).2) rfl))|exact(fun e_=>((fT.out.1 _ e_.symm).2) rfl)));rw[←Fb.out] at ho;replace aj:=Z_ (blk_grown (g:=fe) (o:= .cells #[.int .i64 av,.int .i64 aA] 23 (0,0)) (K_ aj) hg (Kd.R_ne fT.out aj.out (by decide)));replace HB:=Z_ (hb);replace wI:=Z_ (Kd.H_grown (Kd.H_widen (by repeat (first|exact wI.out|refine Kd.H_alloc ?_ _|refine Kd.H_drewN ?_ _|refine Kd.H_drew ?_))) hg (fun k_ e_=> .inl (Cy.out.1 k_ e_)));have Bd:=Z_ (ho);clear HO_6 Cy fT;clear ho hb hg hat;have p37:0≤((dB):Int):=od_ A_;have Sc:((dB):Int)<((dn.length:Int):Int):=od_ A_;replace p37:=eq_true p37;replace Sc:=eq_true Sc;obtain⟨PI,PK,Fy⟩:=Kd.R_slice Bd.out;(first|subst Fy|(injection Fy with AZ Fh Ba;have Fj:=AZ.symm;have Fp:=Ba.symm;clear AZ Fh Ba;subst Fj;subst Fp));obtain⟨_,_,wJ,_,_,Be,_⟩:=Kd.H_raw wI.out (od_ A_) (by have h_:((dB):Int)<((dn.length:Int):Int):=od_ A_;first|exact h_|(have e_:=(Cz.out);omega)|simpa using h_);obtain⟨_,Bf⟩:=Kd.H_at wI.out (od_ A_) (by have h_:((dB):Int)<((dn.length:Int):Int):=od_ A_;first|exact h_|(have e_:=(Cz.out);omega)|simpa using h_);have wK:=Be 0 _ rfl;have wL:=Bf 0;(try simp only[Nat.add_zero] at wK wL);(try rw[show((Kd.slice 3 (Kd.int .i64))).sz=1 from rfl,Nat.mul_one] at wK);(try rw[show((Kd.slice 3 (Kd.int .i64))).sz=1 from rfl,Nat.mul_one] at wL);have CB:=Kd.S_seg0 wI.out (od_ A_) (by have h_:((dB):Int)<((dn.length:Int):Int):=od_ A_;first|exact h_|(have e_:=(Cz.out);omega)|simpa using h_) (seg:= [.slice PI y113.length PK]) (j:=0) (show 1≤1 from by decide) (x':=y113) (Kd.M_row Bd.out) (fun _ hk=>hk);(try simp only[show((Kd.slice 3 (Kd.int .i64))).sz=1 from rfl,Nat.mul_one,Nat.add_zero] at CB);clear Be Bf;have HNB105_go41:=Z_ (show fe≠Fq from by have h_:=Kd.R_ne wJ aj.out (by decide);intro e_;exact h_ (by rw[e_];rfl));have CE:=CB.1;rw[←Ff.out] at CE;have PL:=Z_ CE;obtain⟨_,Bg⟩:=Kd.R_typed wJ Fq rfl;have Sd:=Z_ Bg;clear CB CE Bg;refine hK.out _ _ (fE) (fun hHeld=>?_);clear hK K;refine Nm_ 59 ?_;refine P_ 18 60 ?_;refine last_ (i:=19) (N:=none) #[true,true,true,true,true,true,true,true,true,true,true,true,true,true,true,true,true,true,true,true] rfl rfl (one_of HT_.out (by kernel_rfl)) (by decide) (fun K hK=>?_);refine skip_ (w1:=?_) (by rfl) rfl ?_ ?_;rotate_left
                ·go_simp
                 rfl
                refine hK.out _ _ ?_;clear hK K;refine done_ (done_of HT_.out (by kernel_rfl)) ?_
                try go_wp2
                go_roundg k2
                case measure=>have:=HJ2.out;have:=iq.out;omega
                case rel=>exact⟨(Fe),(wrap64 (fo+1)),(E1_),H',⟨by have:=HJ2.out;have:=iq.out;omega⟩,⟨S_ PL⟩,⟨(blk_far (K_ aj) HNB105_go41.out _)⟩,⟨B_⟩⟩
               ·rw[if_neg qL] at H;exact absurd H (by simp)
              ·rw[if_neg c34] at H;exact absurd H (by simp)
             ·rw[if_neg yO] at H;exact absurd H (by simp)
            ·rw[if_neg c32] at H;exact absurd H (by simp)
           ·rw[if_neg lJ] at H;exact absurd H (by simp)
          ·rw[if_neg jS] at H;exact absurd H (by simp)
        ·rw[if_neg o6] at H;have c26b0:=df_ o6;clear o6;simp only[Option.some.injEq,Prod.mk.injEq] at H;obtain⟨rfl,rfl⟩:=H;go_wp2;go_ret2;exact⟨_,E_,S_ HO_6,B_⟩
     ·rw[if_neg c21] at H;exact absurd H (by simp)
    ·rw[if_neg c20] at H;exact absurd H (by simp)
def pcm_bytes.f(a0:Int)(a1:Int):Option (List Int):=if a1=8 then(some (([(wrap64 (a0+128))%256]:List Int))) else(some (([(a0)%256,(a0 / 256)%256]:List Int)))
theorem pcm_bytes.calls(a0:Int)(a1:Int)(r:List Int)(w:World)(h:pcm_bytes.f a0 a1=some r):
  Calls Tryz.prog 147 #[.int .i64 a0,.int .i64 a1] w fun e w'=>∃eB:Value,e= .returned (eB)∧Kd.R (Kd.int .u8) 5 w' w.heap.size (fun _=>True) eB r∧Below w.heap.size w w':=by
 have HB:=Z_ (Below.refl w.heap.size w);have H:(if a1=8 then(some (([(wrap64 (a0+128))%256]:List Int))) else(some (([(a0)%256,(a0 / 256)%256]:List Int))))=some r:=h;clear h
 by_cases c3:a1=8
 ·rw[if_pos c3] at H;have c3b0:(a1==8)=true:=beq_iff_eq.mpr c3;have c3b1:(a1 !=8)=false:=bne_eq_false_iff_eq.mpr c3;clear c3;obtain⟨yU,iY⟩:∃y_:List Int,y_=(([(wrap64 (a0+128))%256]:List Int)):=⟨_,rfl⟩;replace H:(some yU)=some r:=by first|(rw[iY];with_reducible exact H)|(have bS:=(bs_ _ _).symm.trans H;rw[iY];with_reducible exact bS)|(have bS:=(bs_ _ _).symm.trans H;with_reducible exact bS)|with_reducible exact H|(rw[iY];exact H)|exact H
  have sK:=Z_ iY;clear iY;obtain rfl:=Option.some.inj H
  go_enter Tryz.func147,Tryz.ntmps147
  go_wp2_with (first|((with_reducible refine gate_dst (N:=10) rfl ?_);refine Kd.R_lit (Kd.int .u8) _ 5 ?hg (N:=10) ?hd (xs:=([(wrap64 (a0+128))%256]:List Int)) (inner:= [.int .u8 ((wrap64 (a0+128))%256)]) (ok:=fun _=>True) (okp:=fun _=>True) ?hr ?hp (fun _ hk=>hk) trivial (Below.refl _ _) (Nat.le_refl _) (by simp) ?_;(case hd=>rfl);(case hg=>rfl);(case hr=>first|(go_simp;done)|(go_simp;rfl));(case hp=>exact(Reps.one (show Kd.M (Kd.int .u8) _ _ _ ((wrap64 (a0+128))%256) [.int .u8 ((wrap64 (a0+128))%256)] from rfl) (Reps.none _ _)));intro PM w4 Fz hb hg_ hnew_;clear hg_ hnew_;(first|rw[←sK.out] at Fz|(simp only[Int.reduceToNat] at Fz;rw[←sK.out] at Fz));have nA:=Z_ (Kd.R_lower Fz (below_size B_));replace HB:=Hb_ hb;clear hb Fz))
  go_ret;exact⟨_,E_,R_ nA,B_⟩
 ·rw[if_neg c3] at H;have c3b0:(a1==8)=false:=beq_eq_false_iff_ne.mpr c3;have c3b1:(a1 !=8)=true:=bne_iff_ne.mpr c3;obtain⟨wM,iZ⟩:∃y_:List Int,y_=(([(a0)%256,(a0 / 256)%256]:List Int)):=⟨_,rfl⟩;replace H:(some wM)=some r:=by first|(rw[iZ];with_reducible exact H)|(have bS:=(bs_ _ _).symm.trans H;rw[iZ];with_reducible exact bS)|(have bS:=(bs_ _ _).symm.trans H;with_reducible exact bS)|with_reducible exact H|(rw[iZ];exact H)|exact H
  have sM:=Z_ iZ;clear iZ;obtain rfl:=Option.some.inj H
  go_enter Tryz.func147,Tryz.ntmps147
  go_wp2_with (first|((with_reducible refine gate_dst (N:=16) rfl ?_);refine Kd.R_lit (Kd.int .u8) _ 5 ?hg (N:=16) ?hd (xs:=([(a0)%256,(a0 / 256)%256]:List Int)) (inner:= [.int .u8 ((a0)%256),.int .u8 ((a0 / 256)%256)]) (ok:=fun _=>True) (okp:=fun _=>True) ?hr ?hp (fun _ hk=>hk) trivial (Below.refl _ _) (Nat.le_refl _) (by simp) ?_;(case hd=>rfl);(case hg=>rfl);(case hr=>first|(go_simp;done)|(go_simp;rfl));(case hp=>exact(Reps.one (show Kd.M (Kd.int .u8) _ _ _ ((a0)%256) [.int .u8 ((a0)%256)] from rfl) (Reps.one (show Kd.M (Kd.int .u8) _ _ _ ((a0 / 256)%256) [.int .u8 ((a0 / 256)%256)] from rfl) (Reps.none _ _))));intro UY w6 FB hb hg_ hnew_;clear hg_ hnew_;(first|rw[←sM.out] at FB|(simp only[Int.reduceToNat] at FB;rw[←sM.out] at FB));have FC:=Z_ (Kd.R_lower FB (below_size B_));replace HB:=Hb_ hb;clear hb FB))
  go_ret;exact⟨_,E_,R_ FC,B_⟩
def segment_sound_frame.f(ae:ByteArray)(af:Int)(ax:Int):Option (Int):=(pcm_Frame.f af ax).bind fun t124=>(some t124)
theorem segment_sound_frame.calls(ae:ByteArray)(af:Int)(ax:Int)(r:Int)(w:World)(h:segment_sound_frame.f ae af ax=some r):
  Calls Tryz.prog 52 #[.agg #[.string ae,.int .i64 af,.int .i64 ax]] w fun e w'=>e= .returned (.int .i64 r)∧Below w.heap.size w w':=by
 have sN:=Tryz.underlying104;have fH:=Tryz.underlying23;have HB:=Z_ (Below.refl w.heap.size w);have H:((pcm_Frame.f af ax).bind fun t124=>(some t124))=some r:=h;clear h;replace H:=Ob_ H;obtain⟨t124,fU,H⟩:=H;replace H:(some t124)=some r:=H;have A2:=Z_ fU;clear fU;obtain rfl:=Option.some.inj H
 go_enter Tryz.func52,Tryz.ntmps52
 go_wp2_with (first|(refine X_ 1 #[.string ae,.int .i64 af,.int .i64 ax] 104 ?_;intro Sg hg w3 hbox hb;have lC:=Z_ (hbox);have FD:=Z_ (G2_ hg:w.heap.size≤_);have Si:=FD;replace HB:=Hb_ hb;clear hb hbox hg;have wN:=cz_ lC 0;have wO:=cz_ lC 1;have wP:=cz_ lC 2;have wQ:=fz_ lC 0;have wR:=fz_ lC 1;have wS:=fz_ lC 2)|(refine G_ 5 Tryz.func29 #[.agg #[.int .i64 af,.int .i64 ax]] ?_;refine(pcm_Frame.calls af ax t124 _ A2.out).mono ?_;rintro e w5 ⟨rfl,hb⟩;refine⟨_,rfl,?_⟩;replace lC:=Z_ (blk_below (K_ lC) hb);replace HB:=Hb_ hb;(try clear hb)))
 go_ret;exact⟨E_,B_⟩
def segment_sound_many.f(ae:ByteArray)(af:Int)(ax:Int):Option (Int):=(segment_sound_frame.f ae af ax).bind fun bu=>(if bu=0 then(none) else(some (wrap64 ((ae.size:Int) / bu))))
theorem segment_sound_many.calls(ae:ByteArray)(af:Int)(ax:Int)(r:Int)(w:World)(h:segment_sound_many.f ae af ax=some r):
  Calls Tryz.prog 51 #[.agg #[.string ae,.int .i64 af,.int .i64 ax]] w fun e w'=>e= .returned (.int .i64 r)∧Below w.heap.size w w':=by
 have sN:=Tryz.underlying104;have HB:=Z_ (Below.refl w.heap.size w);have H:((segment_sound_frame.f ae af ax).bind fun bu=>(if bu=0 then(none) else(some (wrap64 ((ae.size:Int) / bu)))))=some r:=h;clear h;replace H:=Ob_ H;obtain⟨bu,fU,H⟩:=H;(try dsimp only at H);have A2:=Z_ fU;clear fU
 by_cases c3:bu=0
 ·rw[if_pos c3] at H;exact absurd H (by simp)
 ·rw[if_neg c3] at H;have c3b0:(bu==0)=false:=beq_eq_false_iff_ne.mpr c3;have c3b1:(bu !=0)=true:=bne_iff_ne.mpr c3;obtain rfl:=Option.some.inj H
  go_enter Tryz.func51,Tryz.ntmps51
  try go_wp2_with (first|(refine X_ 1 #[.string ae,.int .i64 af,.int .i64 ax] 104 ?_;intro wT hg w4 hbox hb;have ja:=Z_ (hbox);have FE:=Z_ (G2_ hg:w.heap.size≤_);have Sj:=FE;replace HB:=Hb_ hb;clear hb hbox hg))
  replace ja:=Z_ (blk_drew ja.out);replace HB:=Z_ (below_drew1 HB.out);refine start_ (n:=7) (S:=fun w'=>w'.cell? ⟨wT,0,none⟩=some (.string ae)∧w'.cell? ⟨wT,1,none⟩=some (.int .i64 af)∧w'.cell? ⟨wT,2,none⟩=some (.int .i64 ax)) (ds:= []) #[false,false,false,false,false,false,false] (by kernel_rfl) rfl rfl ⟨(blk_cell ja.out 0).trans rfl,(blk_cell ja.out 1).trans rfl,(blk_cell ja.out 2).trans rfl⟩ (fun hHeld=>?_);generalize w4.drew=w5 at ja HB hHeld ⊢;refine pure_ (i:=0) (N:=some 3) (v:=?_) (a':=?_) #[true,false,false,false,false,false,false] rfl rfl (by kernel_rfl) (fun _ _ _ h=>h) (Or.inl ⟨by rfl,?_⟩) ?_ ?_;rotate_left
  ·intro w'
   go_simp
   with_reducible rfl
  rotate_left
  ·simp only[Act.put,List.setIfInBounds_toArray,List.set_cons_zero,List.set_cons_succ,i64_w,i32_w];rfl
  refine take_ (i:=1) (N:=some 4) (v:=?_) (a':=?_) #[true,true,false,false,false,false,false] rfl rfl (by kernel_rfl) (fun _ _ _ h=>h) (Or.inl ⟨by rfl,?_⟩) hHeld ?_ ?_;rotate_left
  ·rintro w' ⟨s0,s1,s2⟩
   go_simp
   with_reducible rfl
  rotate_left
  ·simp only[Act.put,List.setIfInBounds_toArray,List.set_cons_zero,List.set_cons_succ,i64_w,i32_w];rfl
  refine pure_ (i:=2) (N:=some 5) (v:=?_) (a':=?_) #[true,true,true,false,false,false,false] rfl rfl (by kernel_rfl) (fun _ _ _ h=>h) (Or.inl ⟨by rfl,?_⟩) ?_ ?_;rotate_left
  ·intro w'
   go_simp
   with_reducible rfl
  rotate_left
  ·simp only[Act.put,List.setIfInBounds_toArray,List.set_cons_zero,List.set_cons_succ,i64_w,i32_w];rfl
  refine take_ (i:=3) (N:=some 6) (v:=?_) (a':=?_) #[true,true,true,true,false,false,false] rfl rfl (by kernel_rfl) (fun _ _ _ h=>h) (Or.inl ⟨by rfl,?_⟩) hHeld ?_ ?_;rotate_left
  ·rintro w' ⟨s0,s1,s2⟩
   go_simp
   with_reducible rfl
  rotate_left
  ·simp only[Act.put,List.setIfInBounds_toArray,List.set_cons_zero,List.set_cons_succ,i64_w,i32_w];rfl
  refine one_ (i:=4) (N:=some 7) #[true,true,true,true,true,false,false] rfl rfl (by kernel_rfl) (by decide) (fun K hK=>?_);refine g_ Tryz.func52 #[.agg #[.string ae,.int .i64 af,.int .i64 ax]] ?_
  with_reducible refine(segment_sound_frame.calls ae af ax bu _ A2.out).mono ?_
  rintro e w6 ⟨rfl,hb⟩;refine⟨_,rfl,?_⟩;replace ja:=Z_ (blk_below (K_ ja) hb);replace HB:=Hb_ hb;(try clear hb);(try clear hb2);(try clear hk);(try clear hi);refine hK.out _ _ ⟨(blk_cell ja.out 0).trans rfl,(blk_cell ja.out 1).trans rfl,(blk_cell ja.out 2).trans rfl⟩ (fun hHeld=>?_);clear hK K;refine Nm_ 7 ?_;refine pure_ (i:=5) (N:=some 8) (v:=?_) (a':=?_) #[true,true,true,true,true,true,false] rfl rfl (by kernel_rfl) (fun _ _ _ h=>h) (Or.inl ⟨by rfl,?_⟩) ?_ ?_;rotate_left
  ·intro w'
   go_simp
   with_reducible rfl
  rotate_left
  ·simp only[Act.put,List.setIfInBounds_toArray,List.set_cons_zero,List.set_cons_succ,i64_w,i32_w];rfl
  refine pure_ (i:=6) (N:=some 2) (v:=?_) (a':=?_) #[true,true,true,true,true,true,true] rfl rfl (by kernel_rfl) (fun _ _ _ h=>h) (Or.inl ⟨by rfl,?_⟩) ?_ ?_;rotate_left
  ·intro w'
   go_simp
   with_reducible rfl
  rotate_left
  ·simp only[Act.put,List.setIfInBounds_toArray,List.set_cons_zero,List.set_cons_succ,i64_w,i32_w];rfl
  refine done_ (by kernel_rfl) ?_
  try go_wp2
  go_ret;exact⟨E_,B_⟩
def stringslite_HasPrefix.f(a0:ByteArray)(a1:ByteArray):Option (Bool):=if(a0.size:Int)≥(a1.size:Int) then(if 0≤(a1.size:Int) then(if(a1.size:Int)≤(a0.size:Int) then(some ((a0.extract 0 ((a1.size:Int):Int).toNat).toList==a1.toList)) else(none)) else(none)) else(some false)
theorem stringslite_HasPrefix.calls(a0:ByteArray)(a1:ByteArray)(r:Bool)(w:World)(h:stringslite_HasPrefix.f a0 a1=some r):
  Calls Tryz.prog 119 #[.string a0,.string a1] w fun e w'=>e= .returned (.bool r)∧Drawn0 w w':=by
 have H:(if(a0.size:Int)≥(a1.size:Int) then(if 0≤(a1.size:Int) then(if(a1.size:Int)≤(a0.size:Int) then(some ((a0.extract 0 ((a1.size:Int):Int).toNat).toList==a1.toList)) else(none)) else(none)) else(some false))=some r:=h;clear h
 by_cases c3:(a0.size:Int)≥(a1.size:Int)
 ·rw[if_pos c3] at H;have c3b0:decide ((a1.size:Int)≤(a0.size:Int))=true:=dt_ c3;have c3b1:decide (a1.size≤a0.size)=true:=dt_ (Int.ofNat_le.mp c3);clear c3
  by_cases c4:0≤(a1.size:Int)
  ·rw[if_pos c4] at H;have c4b0:=eq_true c4;have c4b1:=dt_ c4;clear c4
   by_cases c5:(a1.size:Int)≤(a0.size:Int)
   ·rw[if_pos c5] at H;have c5b0:=eq_true c5;have c5b1:=dt_ c5;clear c5;obtain rfl:=Option.some.inj H
    go_enter Tryz.func119,Tryz.ntmps119
    go_wp2;go_ret;exact⟨E1_,D_⟩
   ·rw[if_neg c5] at H;exact absurd H (by simp)
  ·rw[if_neg c4] at H;exact absurd H (by simp)
 ·rw[if_neg c3] at H;have c3b0:decide ((a1.size:Int)≤(a0.size:Int))=false:=df_ c3;have c3b1:decide (a1.size≤a0.size)=false:=df_ (fun h=>c3 (Int.ofNat_le.mpr h));clear c3;obtain rfl:=Option.some.inj H
  go_enter Tryz.func119,Tryz.ntmps119
  go_wp2;go_ret;exact⟨E1_,D_⟩
def strings_HasPrefix.f(a0:ByteArray)(a1:ByteArray):Option (Bool):=(stringslite_HasPrefix.f a0 a1).bind fun t127=>(some t127)
theorem strings_HasPrefix.calls(a0:ByteArray)(a1:ByteArray)(r:Bool)(w:World)(h:strings_HasPrefix.f a0 a1=some r):
  Calls Tryz.prog 88 #[.string a0,.string a1] w fun e w'=>e= .returned (.bool r)∧Drawn0 w w':=by
 have H:((stringslite_HasPrefix.f a0 a1).bind fun t127=>(some t127))=some r:=h;clear h;replace H:=Ob_ H;obtain⟨t127,jw,H⟩:=H;replace H:(some t127)=some r:=H;have A3:=Z_ jw;clear jw;obtain rfl:=Option.some.inj H
 go_enter Tryz.func88,Tryz.ntmps88
 go_wp2_with (first|(refine G_ 7 Tryz.func119 #[.string a0,.string a1] ?_;refine(stringslite_HasPrefix.calls a0 a1 t127 _ A3.out).mono ?_;rintro e w' ⟨rfl,⟨nd,rfl⟩⟩;refine⟨_,rfl,?_⟩))
 go_ret;exact⟨E1_,D_⟩
def slices_Equal_int_int.l0:Nat→List Int→List Int→Int→Int→Option (Bool)
 |0,_,_,_,_=>none
 |k+1,x0,x1,Js,yV=>if yV<Js then(if 0≤yV then(if yV<(x0.length:Int) then(if yV<(x1.length:Int) then(if(rd x0 yV)=(rd x1 yV) then(slices_Equal_int_int.l0 k x0 x1 Js (wrap64 (yV+1))) else(some false)) else(none)) else(none)) else(none)) else(some true)
def slices_Equal_int_int.f(k:Nat)(l0:List Int)(l1:List Int):Option (Bool):=if(l0.length:Int)=(l1.length:Int) then(slices_Equal_int_int.l0 k l0 l1 (l0.length:Int) 0) else(some false)
theorem slices_Equal_int_int.mono_l:∀k,(∀y0 y1 y2 y3,LeO (slices_Equal_int_int.l0 k y0 y1 y2 y3) (slices_Equal_int_int.l0 (k+1) y0 y1 y2 y3))
 |0=>fun _ _ _ _ r h=>by simp[slices_Equal_int_int.l0] at h
 |k+1=>by
  have fD:=slices_Equal_int_int.mono_l k
  ·intro y0 y1 y2 y3;unfold slices_Equal_int_int.l0
   repeat' first
   |(with_reducible exact fD _ _ _ _)
   |(with_reducible exact LeO.refl _)
   |(with_reducible exact LeO.none _)
   |(with_reducible refine LeO.ite ?_ ?_)
   |(with_reducible refine LeO.bind ?_ (fun _=>?_))
   |exact fD _ _ _ _
   |exact LeO.none _
   |refine LeO.ite ?_ ?_
   |refine LeO.bind ?_ (fun _=>?_)
theorem slices_Equal_int_int.calls(k:Nat)(A0:Option Addr)(c0:Nat)(l0:List Int)(A1:Option Addr)(c1:Nat)(l1:List Int)(r:Bool)(w:World)(hr0:Kd.C (Kd.int .i64) w A0 l0.length l0)(hc0:l0.length≤c0)(hr1:Kd.C (Kd.int .i64) w A1 l1.length l1)(hc1:l1.length≤c1)(h:slices_Equal_int_int.f k l0 l1=some r):
  Calls Tryz.prog 172 #[.slice A0 l0.length c0,.slice A1 l1.length c1] w fun e w'=>e= .returned (.bool r)∧Drawn0 w w':=by
 have cO:=Z_ hr0;have mY:=Z_ hc0;clear hr0 hc0;have HR1:=Z_ hr1;have Sk:=Z_ hc1;clear hr1 hc1;have H:(if(l0.length:Int)=(l1.length:Int) then(slices_Equal_int_int.l0 k l0 l1 (l0.length:Int) 0) else(some false))=some r:=h;clear h
 by_cases c3:(l0.length:Int)=(l1.length:Int)
 ·rw[if_pos c3] at H;have c3b0:((l0.length:Int)==(l1.length:Int))=true:=beq_iff_eq.mpr c3;have c3b1:((l0.length:Int) !=(l1.length:Int))=false:=bne_eq_false_iff_eq.mpr c3;have c3b2:(l0.length==l1.length)=true:=by first|simpa using c3|(simp at c3 ⊢;omega)
  clear c3;have H':=Z_ H;clear H
  go_enter Tryz.func172,Tryz.ntmps172
  go_wp2
  repeat (go_quiet (fail);try go_wp2)
  go_loopg [13] k (fun kq v13 w'=>∃(bT:Int),v13= .int .i64 bT∧Aside0 (slices_Equal_int_int.l0 kq l0 l1 (l0.length:Int) bT=some r)∧Aside0 (kq≤k)∧Drawn0 w w')
  case atStart=>exact⟨(0),(E1_),H',⟨Nat.le_refl _⟩,D_⟩
  case round=>
   clear H'
   try clear c1
   try clear p2
   try clear c3
   try clear c3b0
   try clear c3b1
   try clear c3b2
   obtain⟨bT,rfl,HA,jb,⟨m1,rfl⟩⟩:=hrel
   cases gk with
   |zero=>exact absurd HA.out (by simp[slices_Equal_int_int.l0])
   |succ k1=>
    have H:=HA.out;clear HA;simp only[slices_Equal_int_int.l0] at H
    by_cases c4:bT<(l0.length:Int)
    ·rw[if_pos c4] at H;have c4b0:=dt_ c4;clear c4
     by_cases c5:0≤bT
     ·rw[if_pos c5] at H;have c5b0:=dt_ c5;clear c5
      by_cases c6:bT<(l0.length:Int)
      ·rw[if_pos c6] at H;have c6b0:=dt_ c6;clear c6
       by_cases c7:bT<(l1.length:Int)
       ·rw[if_pos c7] at H;have c7b0:=dt_ c7;clear c7
        by_cases c8:(rd l0 bT)=(rd l1 bT)
        ·rw[if_pos c8] at H;have c8b0:((rd l0 bT)==(rd l1 bT))=true:=beq_iff_eq.mpr c8;have c8b1:((rd l0 bT) !=(rd l1 bT))=false:=bne_eq_false_iff_eq.mpr c8;clear c8;have H':=Z_ H;clear H;have qN:0≤(bT:Int):=od_ A_;have qO:bT<(l0.length:Int):=od_ A_;obtain⟨FH,e128,yX⟩:=Kd.at_int cO.out bT qN qO
         cases e128
         replace qN:=eq_true qN;replace qO:=eq_true qO;have qP:0≤(bT:Int):=od_ A_;have qQ:bT<(l1.length:Int):=od_ A_;obtain⟨FI,e129,yY⟩:=Kd.at_int HR1.out bT qP qQ
         cases e129
         replace qP:=eq_true qP;replace qQ:=eq_true qQ;go_wp2
         repeat (go_quiet (fail);try go_wp2)
         go_roundg k1
         case measure=>have:=jb.out;omega
         case rel=>exact⟨(wrap64 (bT+1)),(E1_),H',⟨by have:=jb.out;omega⟩,D_⟩
        ·rw[if_neg c8] at H;have c8b0:((rd l0 bT)==(rd l1 bT))=false:=beq_eq_false_iff_ne.mpr c8;have c8b1:((rd l0 bT) !=(rd l1 bT))=true:=bne_iff_ne.mpr c8;obtain rfl:=Option.some.inj H;have qN:0≤(bT:Int):=od_ A_;have qO:bT<(l0.length:Int):=od_ A_;obtain⟨FH,e128,yX⟩:=Kd.at_int cO.out bT qN qO
         cases e128
         replace qN:=eq_true qN;replace qO:=eq_true qO;have qP:0≤(bT:Int):=od_ A_;have qQ:bT<(l1.length:Int):=od_ A_;obtain⟨FI,e129,yY⟩:=Kd.at_int HR1.out bT qP qQ
         cases e129
         replace qP:=eq_true qP;replace qQ:=eq_true qQ;go_wp2
         repeat (go_quiet (fail);try go_wp2)
         go_ret;exact⟨E1_,D_⟩
       ·rw[if_neg c7] at H;exact absurd H (by simp)
      ·rw[if_neg c6] at H;exact absurd H (by simp)
     ·rw[if_neg c5] at H;exact absurd H (by simp)
    ·rw[if_neg c4] at H;have c4b0:=df_ c4;clear c4;obtain rfl:=Option.some.inj H;go_wp2
     repeat (go_quiet (fail);try go_wp2)
     go_ret;exact⟨E1_,D_⟩
 ·rw[if_neg c3] at H;have c3b0:((l0.length:Int)==(l1.length:Int))=false:=beq_eq_false_iff_ne.mpr c3;have c3b1:((l0.length:Int) !=(l1.length:Int))=true:=bne_iff_ne.mpr c3;have c3b2:(l0.length==l1.length)=false:=by first|simpa using c3|(simp at c3 ⊢;omega)
  obtain rfl:=Option.some.inj H
  go_enter Tryz.func172,Tryz.ntmps172
  go_wp2
  repeat (go_quiet (fail);try go_wp2)
  go_ret;exact⟨E1_,D_⟩
mutual
def field_Get.j0:Nat→ByteArray→Bool→Option (Int×Int)
 |0,_,_=>none
 |k+1,x0,Js=>if Js=true then(some (0,100)) else(field_Get.l0 k x0 0 (x0.size:Int) 0)
def field_Get.l0:Nat→ByteArray→Int→Int→Int→Option (Int×Int)
 |0,_,_,_,_=>none
 |k+1,x0,x4,vV,nR=>if nR<vV then(if 0≤nR then(if nR<(x0.size:Int) then(if 0≤(wrap64 (8*nR)) then(field_Get.l0 k x0 (Go.bits .or .i64 x4 (shl .i64 (wrap64 (bt x0 nR)) (wrap64 (8*nR)))) vV (wrap64 (nR+1))) else(none)) else(none)) else(none)) else(some (x4,0))
end
def field_Get.f(k:Nat)(a0:ByteArray):Option (Int×Int):=if a0.toList=([]:List UInt8) then(field_Get.j0 k a0 true) else(field_Get.j0 k a0 (decide ((a0.size:Int)>4)))
theorem field_Get.mono_l:∀k,(∀y0 y1,LeO (field_Get.j0 k y0 y1) (field_Get.j0 (k+1) y0 y1))∧(∀y0 y1 y2 y3,LeO (field_Get.l0 k y0 y1 y2 y3) (field_Get.l0 (k+1) y0 y1 y2 y3))
 |0=>⟨fun _ _ r h=>by simp[field_Get.j0] at h,fun _ _ _ _ r h=>by simp[field_Get.l0] at h⟩
 |k+1=>by
  obtain⟨fD,ih1⟩:=field_Get.mono_l k;refine⟨?_,?_⟩
  ·intro y0 y1;unfold field_Get.j0
   repeat' first
   |(with_reducible exact fD _ _)
   |(with_reducible exact ih1 _ _ _ _)
   |(with_reducible exact LeO.refl _)
   |(with_reducible exact LeO.none _)
   |(with_reducible refine LeO.ite ?_ ?_)
   |(with_reducible refine LeO.bind ?_ (fun _=>?_))
   |exact fD _ _
   |exact ih1 _ _ _ _
   |exact LeO.none _
   |refine LeO.ite ?_ ?_
   |refine LeO.bind ?_ (fun _=>?_)
  ·intro y0 y1 y2 y3;unfold field_Get.l0
   repeat' first
   |(with_reducible exact fD _ _)
   |(with_reducible exact ih1 _ _ _ _)
   |(with_reducible exact LeO.refl _)
   |(with_reducible exact LeO.none _)
   |(with_reducible refine LeO.ite ?_ ?_)
   |(with_reducible refine LeO.bind ?_ (fun _=>?_))
   |exact fD _ _
   |exact ih1 _ _ _ _
   |exact LeO.none _
   |refine LeO.ite ?_ ?_
   |refine LeO.bind ?_ (fun _=>?_)
theorem field_Get.mono:∀a0 k,LeO (field_Get.f k a0) (field_Get.f (k+1) a0):=by
 intro a0 k;obtain⟨fD,ih1⟩:=field_Get.mono_l k;unfold field_Get.f
 repeat' first
   |(with_reducible exact fD _ _)
   |(with_reducible exact ih1 _ _ _ _)
   |(with_reducible exact LeO.refl _)
   |(with_reducible exact LeO.none _)
   |(with_reducible refine LeO.ite ?_ ?_)
   |(with_reducible refine LeO.bind ?_ (fun _=>?_))
   |exact fD _ _
   |exact ih1 _ _ _ _
   |exact LeO.none _
   |refine LeO.ite ?_ ?_
   |refine LeO.bind ?_ (fun _=>?_)
theorem field_Get.calls(k:Nat)(a0:ByteArray)(r1:Int)(r2:Int)(w:World)(h:field_Get.f k a0=some (r1,r2)):
  Calls Tryz.prog 64 #[.string a0] w fun e w'=>e= .returned (.tuple #[.int .i64 r1,.int .i64 r2])∧Drawn0 w w':=by
 have H:(if a0.toList=([]:List UInt8) then(field_Get.j0 k a0 true) else(field_Get.j0 k a0 (decide ((a0.size:Int)>4))))=some (r1,r2):=h;clear h;have l8:=Z_ H;clear H
 go_enter Tryz.func64,Tryz.ntmps64
 go_upto_region 1 with (fail)
 go_cut [12] (fun v12 wc=>∃(kq:Nat) (sO:Bool),v12= .bool sO∧Aside0 (field_Get.j0 kq a0 sO=some (r1,r2))∧Aside0 (kq≤k)∧Drawn0 w wc)
 case first=>
  have H:=l8.out;clear l8
  by_cases c3:a0.toList=([]:List UInt8)
  ·rw[if_pos c3] at H;have c3b0:(a0.toList==([]:List UInt8))=true:=beq_iff_eq.mpr c3;have c3b1:(a0.toList !=([]:List UInt8))=false:=bne_eq_false_iff_eq.mpr c3;clear c3;(first|rw[c3b0]|(simp only[i64_w,i32_w];rw[c3b0])|skip);have H':=Z_ H;clear H;go_wp2;go_meet
   case rel=>exact⟨_,(true),(E1_),H',⟨L_⟩,D_⟩
  ·rw[if_neg c3] at H;have c3b0:(a0.toList==([]:List UInt8))=false:=beq_eq_false_iff_ne.mpr c3;have c3b1:(a0.toList !=([]:List UInt8))=true:=bne_iff_ne.mpr c3;(first|rw[c3b0]|(simp only[i64_w,i32_w];rw[c3b0])|skip);have H':=Z_ H;clear H;go_wp2;go_meet
   case rel=>exact⟨_,(decide ((a0.size:Int)>4)),(E1_),H',⟨L_⟩,D_⟩
 case rest=>
  clear l8
  try clear p2
  try clear c3
  try clear c3b0
  try clear c3b1
  obtain⟨kq,sO,rfl,HA,qR,⟨UZ,rfl⟩⟩:=hcut
  cases kq with
  |zero=>exact absurd HA.out (by simp[field_Get.j0])
  |succ oZ=>
   have H:=HA.out;clear HA;simp only[field_Get.j0] at H
   by_cases c4:sO=true
   ·subst c4;rw[if_pos rfl] at H;simp only[Option.some.injEq,Prod.mk.injEq] at H;obtain⟨rfl,rfl⟩:=H;go_wp2;go_ret2;exact⟨E1_,D_⟩
   ·replace c4:=Bool.eq_false_iff.mpr c4;subst c4;rw[if_neg (show ¬(false=true) by decide)] at H;have H':=Z_ H;clear H;go_wp2
    go_loopg [4,15] oZ (fun kq v4 v15 w'=>∃(eG:Int) (fF:Int),v4= .int .i64 eG∧v15= .int .i64 fF∧Aside0 (field_Get.l0 kq a0 eG (a0.size:Int) fF=some (r1,r2))∧Aside0 (kq≤oZ)∧Drawn0 w w')
    case atStart=>exact⟨(0),(0),(E1_),(E1_),H',⟨Nat.le_refl _⟩,D_⟩
    case round=>
     clear H'
     try clear c1
     try clear p2
     try clear c3
     try clear c3b0
     try clear c3b1
     try clear c4
     try clear p2
     obtain⟨eG,fF,rfl,rfl,HA,iq,⟨m2,rfl⟩⟩:=hrel
     cases gk with
     |zero=>exact absurd HA.out (by simp[field_Get.l0])
     |succ k2=>
      have H:=HA.out;clear HA;simp only[field_Get.l0] at H
      by_cases c5:fF<(a0.size:Int)
      ·rw[if_pos c5] at H;have c5b0:=dt_ c5;clear c5
       by_cases c6:0≤fF
       ·rw[if_pos c6] at H;have c6b0:=dt_ c6;clear c6
        by_cases c7:fF<(a0.size:Int)
        ·rw[if_pos c7] at H;have c7b0:=dt_ c7;clear c7;obtain⟨vK,nS⟩:∃j_:Int,(wrap64 (8*fF))=j_:=⟨_,rfl⟩;(first|rw[nS] at H|simp only[nS] at H);have hji9w:(IntKind.i64.wrap (8*fF))=vK:=(i64_w _).trans nS
         by_cases c10:0≤(vK)
         ·rw[if_pos c10] at H;have c10b0:=eq_true c10;have c10b1:=dt_ c10;clear c10;obtain⟨wU,o9⟩:∃j_:Int,(shl .i64 (wrap64 (bt a0 fF)) (vK))=j_:=⟨_,rfl⟩;(first|rw[o9] at H|simp only[o9] at H);have CF:(IntKind.i64.wrap ((wrap64 (bt a0 fF))*2 ^ min (vK).toNat 64))=wU:=o9;have hji11z:(vK)≤64→(IntKind.i64.wrap ((wrap64 (bt a0 fF))*2 ^ (vK).toNat))=wU:=shl_small o9;have hji11y:(wrap64 ((wrap64 (bt a0 fF))*2 ^ min (vK).toNat 64))=wU:=(i64_w _).symm.trans CF;have hji11x:(vK)≤64→(wrap64 ((wrap64 (bt a0 fF))*2 ^ (vK).toNat))=wU:=fun h_=>(i64_w _).symm.trans (hji11z h_)
          have H':=Z_ H;clear H;have p8:0≤(fF:Int):=od_ A_;have q8:fF<(a0.size:Int):=od_ A_;have Pz:=bt_at a0 fF;replace p8:=eq_true p8;replace q8:=eq_true q8;go_wp2
          go_roundg k2
          case measure=>have:=qR.out;have:=iq.out;omega
          case rel=>exact⟨(Go.bits .or .i64 eG (wU)),(wrap64 (fF+1)),(by first|rfl|(simp;done)|(simp only[←o9]<;>(first|rfl|simp))|(simp[*];done)),(E1_),H',⟨by have:=qR.out;have:=iq.out;omega⟩,D_⟩
         ·rw[if_neg c10] at H;exact absurd H (by simp)
        ·rw[if_neg c7] at H;exact absurd H (by simp)
       ·rw[if_neg c6] at H;exact absurd H (by simp)
      ·rw[if_neg c5] at H;have c5b0:=df_ c5;clear c5;simp only[Option.some.injEq,Prod.mk.injEq] at H;obtain⟨rfl,rfl⟩:=H;go_wp2;go_ret2;exact⟨E1_,D_⟩
def chain_Sample.f(a0:Int):Option (Bool):=if a0≥(-131072) then(some (decide (a0≤131072))) else(some false)
theorem chain_Sample.calls(a0:Int)(r:Bool)(w:World)(h:chain_Sample.f a0=some r):
  Calls Tryz.prog 103 #[.int .i64 a0] w fun e w'=>e= .returned (.bool r)∧Drawn0 w w':=by
 have H:(if a0≥(-131072) then(some (decide (a0≤131072))) else(some false))=some r:=h;clear h
 by_cases c2:a0≥(-131072)
 ·rw[if_pos c2] at H;have c2b0:decide ((-131072)≤a0)=true:=dt_ c2;clear c2;obtain rfl:=Option.some.inj H
  go_enter Tryz.func103,Tryz.ntmps103
  go_wp2;go_ret;exact⟨E1_,D_⟩
 ·rw[if_neg c2] at H;have c2b0:decide ((-131072)≤a0)=false:=df_ c2;clear c2;obtain rfl:=Option.some.inj H
  go_enter Tryz.func103,Tryz.ntmps103
  go_wp2;go_ret;exact⟨E1_,D_⟩
def lms_in.f(a0:Int)(a1:Int):Option (Bool):=if a0≥(wrap64 (-a1)) then(some (decide (a0≤a1))) else(some false)
theorem lms_in.calls(a0:Int)(a1:Int)(r:Bool)(w:World)(h:lms_in.f a0 a1=some r):
  Calls Tryz.prog 128 #[.int .i64 a0,.int .i64 a1] w fun e w'=>e= .returned (.bool r)∧Drawn0 w w':=by
 have H:(if a0≥(wrap64 (-a1)) then(some (decide (a0≤a1))) else(some false))=some r:=h;clear h
 by_cases c3:a0≥(wrap64 (-a1))
 ·rw[if_pos c3] at H;have c3b0:decide ((wrap64 (-a1))≤a0)=true:=dt_ c3;clear c3;obtain rfl:=Option.some.inj H
  go_enter Tryz.func128,Tryz.ntmps128
  go_wp2;go_ret;exact⟨E1_,D_⟩
 ·rw[if_neg c3] at H;have c3b0:decide ((wrap64 (-a1))≤a0)=false:=df_ c3;clear c3;obtain rfl:=Option.some.inj H
  go_enter Tryz.func128,Tryz.ntmps128
  go_wp2;go_ret;exact⟨E1_,D_⟩
def lms_bound.f(a0:Int)(a1:Int):Option (Int):=some (mn (mx a0 (wrap64 (-a1))) a1)
theorem lms_bound.calls(a0:Int)(a1:Int)(r:Int)(w:World)(h:lms_bound.f a0 a1=some r):
  Calls Tryz.prog 127 #[.int .i64 a0,.int .i64 a1] w fun e w'=>e= .returned (.int .i64 r)∧Below w.heap.size w w':=by
 have HB:=Z_ (Below.refl w.heap.size w);have H:(some (mn (mx a0 (wrap64 (-a1))) a1))=some r:=h;clear h;obtain⟨EK,nT⟩:∃j_:Int,(mx a0 (wrap64 (-a1)))=j_:=⟨_,rfl⟩;(first|rw[nT] at H|simp only[nT] at H);have FJ:(if a0<(wrap64 (-a1)) then(wrap64 (-a1)) else a0)=EK:=nT;obtain⟨Bh,l9⟩:∃j_:Int,(mn (EK) a1)=j_:=⟨_,rfl⟩;(first|rw[l9] at H|simp only[l9] at H);have FK:(if a1<(EK) then a1 else(EK))=Bh:=l9;obtain rfl:=Option.some.inj H
 go_enter Tryz.func127,Tryz.ntmps127
 go_wp2;go_ret;exact⟨by first|rfl|(simp[errW_none,errW_some]<;>rfl)|(simp only[←nT,←l9];first|rfl|(simp[errW_none,errW_some]<;>rfl))|(simp[*,errW_none,errW_some]<;>rfl),B_⟩
def lms_sign.f(a0:Int):Option (Int):=if a0>0 then(some 1) else(if a0<0 then(some (-1)) else(some 0))
theorem lms_sign.calls(a0:Int)(r:Int)(w:World)(h:lms_sign.f a0=some r):
  Calls Tryz.prog 129 #[.int .i64 a0] w fun e w'=>e= .returned (.int .i64 r)∧Drawn0 w w':=by
 have H:(if a0>0 then(some 1) else(if a0<0 then(some (-1)) else(some 0)))=some r:=h;clear h
 by_cases c2:a0>0
 ·rw[if_pos c2] at H;have c2b0:decide (0<a0)=true:=dt_ c2;clear c2;obtain rfl:=Option.some.inj H
  go_enter Tryz.func129,Tryz.ntmps129
  go_wp2;go_ret;exact⟨E1_,D_⟩
 ·rw[if_neg c2] at H;have c2b0:decide (0<a0)=false:=df_ c2;clear c2
  by_cases c3:a0<0
  ·rw[if_pos c3] at H;have c3b0:=dt_ c3;clear c3;obtain rfl:=Option.some.inj H
   go_enter Tryz.func129,Tryz.ntmps129
   go_wp2;go_ret;exact⟨E1_,D_⟩
  ·rw[if_neg c3] at H;have c3b0:=df_ c3;clear c3;obtain rfl:=Option.some.inj H
   go_enter Tryz.func129,Tryz.ntmps129
   go_wp2;go_ret;exact⟨E1_,D_⟩
def fold_Number.f(a0:Int):Option (Bool):=if a0≥(-16777216) then(some (decide (a0≤16777216))) else(some false)
theorem fold_Number.calls(a0:Int)(r:Bool)(w:World)(h:fold_Number.f a0=some r):
  Calls Tryz.prog 72 #[.int .i64 a0] w fun e w'=>e= .returned (.bool r)∧Drawn0 w w':=by
 have H:(if a0≥(-16777216) then(some (decide (a0≤16777216))) else(some false))=some r:=h;clear h
 by_cases c2:a0≥(-16777216)
 ·rw[if_pos c2] at H;have c2b0:decide ((-16777216)≤a0)=true:=dt_ c2;clear c2;obtain rfl:=Option.some.inj H
  go_enter Tryz.func72,Tryz.ntmps72
  go_wp2;go_ret;exact⟨E1_,D_⟩
 ·rw[if_neg c2] at H;have c2b0:decide ((-16777216)≤a0)=false:=df_ c2;clear c2;obtain rfl:=Option.some.inj H
  go_enter Tryz.func72,Tryz.ntmps72
  go_wp2;go_ret;exact⟨E1_,D_⟩
def fold_Put.f(a0:Int):Option (Int×Int):=(fold_Number.f a0).bind fun t131=>(if t131=true then(if a0<0 then(some (wrap64 ((wrap64 ((-2)*a0)) - 1),0)) else(some (wrap64 (2*a0),0))) else(some (0,1000)))
theorem fold_Put.calls(a0:Int)(r1:Int)(r2:Int)(w:World)(h:fold_Put.f a0=some (r1,r2)):
  Calls Tryz.prog 74 #[.int .i64 a0] w fun e w'=>e= .returned (.tuple #[.int .i64 r1,.int .i64 r2])∧Drawn0 w w':=by
 have H:((fold_Number.f a0).bind fun t131=>(if t131=true then(if a0<0 then(some (wrap64 ((wrap64 ((-2)*a0)) - 1),0)) else(some (wrap64 (2*a0),0))) else(some (0,1000))))=some (r1,r2):=h;clear h;replace H:=Ob_ H;obtain⟨t131,fU,H⟩:=H;(try dsimp only at H);have A2:=Z_ fU;clear fU
 by_cases c3:t131=true
 ·subst c3;rw[if_pos rfl] at H
  by_cases c4:a0<0
  ·rw[if_pos c4] at H;have c4b0:=dt_ c4;clear c4;simp only[Option.some.injEq,Prod.mk.injEq] at H;obtain⟨rfl,rfl⟩:=H
   go_enter Tryz.func74,Tryz.ntmps74
   go_wp2_with (first|(refine G_ 6 Tryz.func72 #[.int .i64 a0] ?_;refine(fold_Number.calls a0 true _ A2.out).mono ?_;rintro e w' ⟨rfl,⟨nd,rfl⟩⟩;refine⟨_,rfl,?_⟩))
   go_ret2;exact⟨E1_,D_⟩
  ·rw[if_neg c4] at H;have c4b0:=df_ c4;clear c4;simp only[Option.some.injEq,Prod.mk.injEq] at H;obtain⟨rfl,rfl⟩:=H
   go_enter Tryz.func74,Tryz.ntmps74
   go_wp2_with (first|(refine G_ 6 Tryz.func72 #[.int .i64 a0] ?_;refine(fold_Number.calls a0 true _ A2.out).mono ?_;rintro e w' ⟨rfl,⟨nd,rfl⟩⟩;refine⟨_,rfl,?_⟩))
   go_ret2;exact⟨E1_,D_⟩
 ·replace c3:=Bool.eq_false_iff.mpr c3;subst c3;rw[if_neg (show ¬(false=true) by decide)] at H;simp only[Option.some.injEq,Prod.mk.injEq] at H;obtain⟨rfl,rfl⟩:=H
  go_enter Tryz.func74,Tryz.ntmps74
  go_wp2_with (first|(refine G_ 6 Tryz.func72 #[.int .i64 a0] ?_;refine(fold_Number.calls a0 false _ A2.out).mono ?_;rintro e w' ⟨rfl,⟨nd,rfl⟩⟩;refine⟨_,rfl,?_⟩))
  go_ret2;exact⟨E1_,D_⟩
def fold_Get.j0:Nat→Int→Bool→Option (Int×Int)
 |0,_,_=>none
 |k+1,x0,x9=>if x9=true then(some (0,1000)) else(if(Int.tmod x0 2)=1 then(some (wrap64 ((wrap64 (-(wrap64 (Int.tdiv x0 2)))) - 1),0)) else(some (wrap64 (Int.tdiv x0 2),0)))
def fold_Get.f(k:Nat)(a0:Int):Option (Int×Int):=if a0<0 then(fold_Get.j0 k a0 true) else(fold_Get.j0 k a0 (decide (a0>33554432)))
theorem fold_Get.calls(k:Nat)(a0:Int)(r1:Int)(r2:Int)(w:World)(h:fold_Get.f k a0=some (r1,r2)):
  Calls Tryz.prog 163 #[.int .i64 a0] w fun e w'=>e= .returned (.tuple #[.int .i64 r1,.int .i64 r2])∧Drawn0 w w':=by
 have H:(if a0<0 then(fold_Get.j0 k a0 true) else(fold_Get.j0 k a0 (decide (a0>33554432))))=some (r1,r2):=h;clear h;have l8:=Z_ H;clear H
 go_enter Tryz.func163,Tryz.ntmps163
 go_upto_region 1 with (fail)
 go_cut [9] (fun v9 wc=>∃(kq:Nat) (yZ:Bool),v9= .bool yZ∧Aside0 (fold_Get.j0 kq a0 yZ=some (r1,r2))∧Aside0 (kq≤k)∧Drawn0 w wc)
 case first=>
  have H:=l8.out;clear l8
  by_cases c3:a0<0
  ·rw[if_pos c3] at H;have c3b0:=dt_ c3;clear c3;(first|rw[c3b0]|(simp only[i64_w,i32_w];rw[c3b0])|skip);have H':=Z_ H;clear H;go_wp2;go_meet
   case rel=>exact⟨_,(true),(E1_),H',⟨L_⟩,D_⟩
  ·rw[if_neg c3] at H;have c3b0:=df_ c3;clear c3;(first|rw[c3b0]|(simp only[i64_w,i32_w];rw[c3b0])|skip);have H':=Z_ H;clear H;go_wp2;go_meet
   case rel=>exact⟨_,(decide (a0>33554432)),(E1_),H',⟨L_⟩,D_⟩
 case rest=>
  clear l8
  try clear c1
  try clear p2
  try clear c3
  try clear c3b0
  obtain⟨kq,yZ,rfl,HA,qR,⟨UZ,rfl⟩⟩:=hcut
  cases kq with
  |zero=>exact absurd HA.out (by simp[fold_Get.j0])
  |succ oZ=>
   have H:=HA.out;clear HA;simp only[fold_Get.j0] at H
   by_cases c4:yZ=true
   ·subst c4;rw[if_pos rfl] at H;simp only[Option.some.injEq,Prod.mk.injEq] at H;obtain⟨rfl,rfl⟩:=H;go_wp2;go_ret2;exact⟨E1_,D_⟩
   ·replace c4:=Bool.eq_false_iff.mpr c4;subst c4;rw[if_neg (show ¬(false=true) by decide)] at H
    by_cases c5:(Int.tmod a0 2)=1
    ·rw[if_pos c5] at H;have c5b0:((Int.tmod a0 2)==1)=true:=beq_iff_eq.mpr c5;have c5b1:((Int.tmod a0 2) !=1)=false:=bne_eq_false_iff_eq.mpr c5;clear c5;simp only[Option.some.injEq,Prod.mk.injEq] at H;obtain⟨rfl,rfl⟩:=H;go_wp2;go_ret2;exact⟨E1_,D_⟩
    ·rw[if_neg c5] at H;have c5b0:((Int.tmod a0 2)==1)=false:=beq_eq_false_iff_ne.mpr c5;have c5b1:((Int.tmod a0 2) !=1)=true:=bne_iff_ne.mpr c5;simp only[Option.some.injEq,Prod.mk.injEq] at H;obtain⟨rfl,rfl⟩:=H;go_wp2;go_ret2;exact⟨E1_,D_⟩
def count_New.f  :Option (Int):=some 32768
theorem count_New.calls  (r:Int)(w:World)(h:count_New.f  =some r):
  Calls Tryz.prog 73 #[] w fun e w'=>e= .returned (.int .i64 r)∧Drawn0 w w':=by
 have H:(some 32768)=some r:=h;clear h;obtain rfl:=Option.some.inj H
 go_enter Tryz.func73,Tryz.ntmps73
 go_wp2;go_ret;exact⟨E1_,D_⟩
def count_May.f(a0:Int):Option (Bool):=if a0≥0 then(some (decide (a0≤65535))) else(some false)
theorem count_May.calls(a0:Int)(r:Bool)(w:World)(h:count_May.f a0=some r):
  Calls Tryz.prog 164 #[.int .i64 a0] w fun e w'=>e= .returned (.bool r)∧Drawn0 w w':=by
 have H:(if a0≥0 then(some (decide (a0≤65535))) else(some false))=some r:=h;clear h
 by_cases c2:a0≥0
 ·rw[if_pos c2] at H;have c2b0:decide (0≤a0)=true:=dt_ c2;clear c2;obtain rfl:=Option.some.inj H
  go_enter Tryz.func164,Tryz.ntmps164
  go_wp2;go_ret;exact⟨E1_,D_⟩
 ·rw[if_neg c2] at H;have c2b0:decide (0≤a0)=false:=df_ c2;clear c2;obtain rfl:=Option.some.inj H
  go_enter Tryz.func164,Tryz.ntmps164
  go_wp2;go_ret;exact⟨E1_,D_⟩
def count_Next.j0:Nat→Int→Int→Bool→Option (Int×Int)
 |0,_,_,_=>none
 |k+1,x0,x1,x6=>if x6=true then(some (0,700)) else(if x1=1 then(some (wrap64 (x0+(wrap64 (Int.tdiv (wrap64 (65535 - x0)) 16))),0)) else(some (wrap64 (x0 - (wrap64 (Int.tdiv x0 16))),0)))
def count_Next.f(k:Nat)(a0:Int)(a1:Int):Option (Int×Int):=(count_May.f a0).bind fun iL=>(if iL=true then(if a1<0 then(count_Next.j0 k a0 a1 true) else(count_Next.j0 k a0 a1 (decide (a1>1)))) else(count_Next.j0 k a0 a1 true))
theorem count_Next.calls(k:Nat)(a0:Int)(a1:Int)(r1:Int)(r2:Int)(w:World)(h:count_Next.f k a0 a1=some (r1,r2)):
  Calls Tryz.prog 156 #[.int .i64 a0,.int .i64 a1] w fun e w'=>e= .returned (.tuple #[.int .i64 r1,.int .i64 r2])∧Drawn0 w w':=by
 have H:((count_May.f a0).bind fun iL=>(if iL=true then(if a1<0 then(count_Next.j0 k a0 a1 true) else(count_Next.j0 k a0 a1 (decide (a1>1)))) else(count_Next.j0 k a0 a1 true)))=some (r1,r2):=h;clear h;have nI:=Z_ H;clear H
 go_enter Tryz.func156,Tryz.ntmps156
 go_upto_region 1 with (fail)
 go_cut [6] (fun v6 wc=>∃(kq:Nat) (dn:Bool),v6= .bool dn∧Aside0 (count_Next.j0 kq a0 a1 dn=some (r1,r2))∧Aside0 (kq≤k)∧Drawn0 w wc)
 case first=>
  have H:=nI.out;clear nI;replace H:=Ob_ H;obtain⟨iL,Bi,H⟩:=H;(try dsimp only at H);have A4:=Z_ Bi;clear Bi
  by_cases c5:iL=true
  ·subst c5;rw[if_pos rfl] at H
   by_cases c6:a1<0
   ·rw[if_pos c6] at H;have c6b0:=dt_ c6;clear c6;(first|rw[c6b0]|(simp only[i64_w,i32_w];rw[c6b0])|skip);have H':=Z_ H;clear H
    go_wp2_with (first|(refine G_ 8 Tryz.func164 #[.int .i64 a0] ?_;refine(count_May.calls a0 true _ A4.out).mono ?_;rintro e w' ⟨rfl,⟨nd,rfl⟩⟩;refine⟨_,rfl,?_⟩))
    go_meet
    case rel=>exact⟨_,(true),(E1_),H',⟨L_⟩,D_⟩
   ·rw[if_neg c6] at H;have c6b0:=df_ c6;clear c6;(first|rw[c6b0]|(simp only[i64_w,i32_w];rw[c6b0])|skip);have H':=Z_ H;clear H
    go_wp2_with (first|(refine G_ 8 Tryz.func164 #[.int .i64 a0] ?_;refine(count_May.calls a0 true _ A4.out).mono ?_;rintro e w' ⟨rfl,⟨nd,rfl⟩⟩;refine⟨_,rfl,?_⟩))
    go_meet
    case rel=>exact⟨_,(decide (a1>1)),(E1_),H',⟨L_⟩,D_⟩
  ·replace c5:=Bool.eq_false_iff.mpr c5;subst c5;rw[if_neg (show ¬(false=true) by decide)] at H;have H':=Z_ H;clear H
   go_wp2_with (first|(refine G_ 8 Tryz.func164 #[.int .i64 a0] ?_;refine(count_May.calls a0 false _ A4.out).mono ?_;rintro e w' ⟨rfl,⟨nd,rfl⟩⟩;refine⟨_,rfl,?_⟩))
   go_meet
   case rel=>exact⟨_,(true),(E1_),H',⟨L_⟩,D_⟩
 case rest=>
  clear nI
  try clear c1
  try clear p2
  try clear c5
  try clear c6
  try clear c6b0
  obtain⟨kq,dn,rfl,HA,HJ2,⟨Xi,rfl⟩⟩:=hcut
  cases kq with
  |zero=>exact absurd HA.out (by simp[count_Next.j0])
  |succ rZ=>
   have H:=HA.out;clear HA;simp only[count_Next.j0] at H
   by_cases c7:dn=true
   ·subst c7;rw[if_pos rfl] at H;simp only[Option.some.injEq,Prod.mk.injEq] at H;obtain⟨rfl,rfl⟩:=H;go_wp2;go_ret2;exact⟨E1_,D_⟩
   ·replace c7:=Bool.eq_false_iff.mpr c7;subst c7;rw[if_neg (show ¬(false=true) by decide)] at H
    by_cases c8:a1=1
    ·rw[if_pos c8] at H;have c8b0:(a1==1)=true:=beq_iff_eq.mpr c8;have c8b1:(a1 !=1)=false:=bne_eq_false_iff_eq.mpr c8;clear c8;simp only[Option.some.injEq,Prod.mk.injEq] at H;obtain⟨rfl,rfl⟩:=H;go_wp2;go_ret2;exact⟨E1_,D_⟩
    ·rw[if_neg c8] at H;have c8b0:(a1==1)=false:=beq_eq_false_iff_ne.mpr c8;have c8b1:(a1 !=1)=true:=bne_iff_ne.mpr c8;simp only[Option.some.injEq,Prod.mk.injEq] at H;obtain⟨rfl,rfl⟩:=H;go_wp2;go_ret2;exact⟨E1_,D_⟩
def count_P.f(a0:Int):Option (Int×Int):=(count_May.f a0).bind fun jy=>(if jy=true then(some (mn (mx (wrap64 (Int.tdiv a0 16)) 1) 4095,0)) else(some (0,700)))
theorem count_P.calls(a0:Int)(r1:Int)(r2:Int)(w:World)(h:count_P.f a0=some (r1,r2)):
  Calls Tryz.prog 169 #[.int .i64 a0] w fun e w'=>e= .returned (.tuple #[.int .i64 r1,.int .i64 r2])∧Below w.heap.size w w':=by
 have HB:=Z_ (Below.refl w.heap.size w);have H:((count_May.f a0).bind fun jy=>(if jy=true then(some (mn (mx (wrap64 (Int.tdiv a0 16)) 1) 4095,0)) else(some (0,700))))=some (r1,r2):=h;clear h;replace H:=Ob_ H;obtain⟨jy,fU,H⟩:=H;(try dsimp only at H);have A2:=Z_ fU;clear fU
 by_cases c3:jy=true
 ·subst c3;rw[if_pos rfl] at H;obtain⟨Bh,l9⟩:∃j_:Int,(mx (wrap64 (Int.tdiv a0 16)) 1)=j_:=⟨_,rfl⟩;(first|rw[l9] at H|simp only[l9] at H);(try rw[l9] at A2);(try (have hji4l:1≤Bh:=by(rw[←l9];unfold mx;(repeat' split)<;>omega)));(try (have hji4m:0≤Bh:=by omega));have FK:(if(wrap64 (Int.tdiv a0 16))<1 then 1 else(wrap64 (Int.tdiv a0 16)))=Bh:=l9;obtain⟨Va,wV⟩:∃j_:Int,(mn (Bh) 4095)=j_:=⟨_,rfl⟩;(first|rw[wV] at H|simp only[wV] at H);(try rw[wV] at A2);have Sl:(if 4095<(Bh) then 4095 else(Bh))=Va:=wV;simp only[Option.some.injEq,Prod.mk.injEq] at H;obtain⟨rfl,rfl⟩:=H
  go_enter Tryz.func169,Tryz.ntmps169
  go_wp2_with (first|(refine G_ 5 Tryz.func164 #[.int .i64 a0] ?_;refine(count_May.calls a0 true _ A2.out).mono ?_;rintro e w' ⟨rfl,⟨nd,rfl⟩⟩;refine⟨_,rfl,?_⟩))
  go_ret2;exact⟨by first|rfl|(simp[errW_none,errW_some]<;>rfl)|(simp only[←l9,←wV];first|rfl|(simp[errW_none,errW_some]<;>rfl))|(simp[*,errW_none,errW_some]<;>rfl),B_⟩
 ·replace c3:=Bool.eq_false_iff.mpr c3;subst c3;rw[if_neg (show ¬(false=true) by decide)] at H;simp only[Option.some.injEq,Prod.mk.injEq] at H;obtain⟨rfl,rfl⟩:=H
  go_enter Tryz.func169,Tryz.ntmps169
  go_wp2_with (first|(refine G_ 5 Tryz.func164 #[.int .i64 a0] ?_;refine(count_May.calls a0 false _ A2.out).mono ?_;rintro e w' ⟨rfl,⟨nd,rfl⟩⟩;refine⟨_,rfl,?_⟩))
  go_ret2;exact⟨E_,B_⟩
def context_least.f(a0:Int):Option (Int):=some (mn a0 31)
theorem context_least.calls(a0:Int)(r:Int)(w:World)(h:context_least.f a0=some r):
  Calls Tryz.prog 149 #[.int .i64 a0] w fun e w'=>e= .returned (.int .i64 r)∧Below w.heap.size w w':=by
 have HB:=Z_ (Below.refl w.heap.size w);have H:(some (mn a0 31))=some r:=h;clear h;obtain⟨PN,wW⟩:∃j_:Int,(mn a0 31)=j_:=⟨_,rfl⟩;(first|rw[wW] at H|simp only[wW] at H);(try (have hji2h:PN≤31:=by(rw[←wW];unfold mn;(repeat' split)<;>omega)));(try (have hji2g:PN≤64:=by omega));have Sm:(if 31<a0 then 31 else a0)=PN:=wW;obtain rfl:=Option.some.inj H
 go_enter Tryz.func149,Tryz.ntmps149
 go_wp2;go_ret;exact⟨by first|rfl|(simp[errW_none,errW_some]<;>rfl)|(simp only[←wW];first|rfl|(simp[errW_none,errW_some]<;>rfl))|(simp[*,errW_none,errW_some]<;>rfl),B_⟩
def gamma_Ones.l0:Nat→List Int→List Int→Int→Int→Option (Int×Bool)
 |0,_,_,_,_=>none
 |k+1,x0,x6,x7,x8=>if x8<x7 then(if 0≤x8 then(if x8<(x6.length:Int) then(if(rd x6 x8)=1 then(gamma_Ones.l0 k x0 x6 x7 (wrap64 (x8+1))) else(some (x8,((rd x6 x8)==0)))) else(none)) else(none)) else(some ((x0.length:Int),false))
def gamma_Ones.f(k:Nat)(l0:List Int):Option (Int×Bool):=gamma_Ones.l0 k l0 l0 (l0.length:Int) 0
theorem gamma_Ones.calls(k:Nat)(A0:Option Addr)(c0:Nat)(l0:List Int)(r1:Int)(r2:Bool)(w:World)(hr0:Kd.C (Kd.int .i64) w A0 l0.length l0)(hc0:l0.length≤c0)(h:gamma_Ones.f k l0=some (r1,r2)):
  Calls Tryz.prog 110 #[.slice A0 l0.length c0] w fun e w'=>e= .returned (.tuple #[.int .i64 r1,.bool r2])∧Drawn0 w w':=by
 have cO:=Z_ hr0;have mY:=Z_ hc0;clear hr0 hc0;have H:(gamma_Ones.l0 k l0 l0 (l0.length:Int) 0)=some (r1,r2):=h;clear h;have H':=Z_ H;clear H
 go_enter Tryz.func110,Tryz.ntmps110
 go_wp2
 go_loopg [8] k (fun kq v8 w'=>∃(iW:Int),v8= .int .i64 iW∧Aside0 (gamma_Ones.l0 kq l0 l0 (l0.length:Int) iW=some (r1,r2))∧Aside0 (kq≤k)∧Drawn0 w w')
 case atStart=>exact⟨(0),(E1_),H',⟨Nat.le_refl _⟩,D_⟩
 case round=>
  clear H'
  try clear c1
  obtain⟨iW,rfl,HA,jb,⟨m1,rfl⟩⟩:=hrel
  cases gk with
  |zero=>exact absurd HA.out (by simp[gamma_Ones.l0])
  |succ k1=>
   have H:=HA.out;clear HA;simp only[gamma_Ones.l0] at H
   by_cases c2:iW<(l0.length:Int)
   ·rw[if_pos c2] at H;have c2b0:=dt_ c2;clear c2
    by_cases c3:0≤iW
    ·rw[if_pos c3] at H;have c3b0:=dt_ c3;clear c3
     by_cases c4:iW<(l0.length:Int)
     ·rw[if_pos c4] at H;have c4b0:=dt_ c4;clear c4
      by_cases c5:(rd l0 iW)=1
      ·rw[if_pos c5] at H;have c5b0:((rd l0 iW)==1)=true:=beq_iff_eq.mpr c5;have c5b1:((rd l0 iW) !=1)=false:=bne_eq_false_iff_eq.mpr c5;clear c5;have H':=Z_ H;clear H;have qU:0≤(iW:Int):=od_ A_;have qV:iW<(l0.length:Int):=od_ A_;obtain⟨FM,CG,zb⟩:=Kd.at_int cO.out iW qU qV
       cases CG
       replace qU:=eq_true qU;replace qV:=eq_true qV;go_wp2
       go_roundg k1
       case measure=>have:=jb.out;omega
       case rel=>exact⟨(wrap64 (iW+1)),(E1_),H',⟨by have:=jb.out;omega⟩,D_⟩
      ·rw[if_neg c5] at H;have c5b0:((rd l0 iW)==1)=false:=beq_eq_false_iff_ne.mpr c5;have c5b1:((rd l0 iW) !=1)=true:=bne_iff_ne.mpr c5;simp only[Option.some.injEq,Prod.mk.injEq] at H;obtain⟨rfl,rfl⟩:=H;have qU:0≤(iW:Int):=od_ A_;have qV:iW<(l0.length:Int):=od_ A_;obtain⟨FM,CG,zb⟩:=Kd.at_int cO.out iW qU qV
       cases CG
       replace qU:=eq_true qU;replace qV:=eq_true qV;go_wp2;go_ret2;exact⟨E1_,D_⟩
     ·rw[if_neg c4] at H;exact absurd H (by simp)
    ·rw[if_neg c3] at H;exact absurd H (by simp)
   ·rw[if_neg c2] at H;have c2b0:=df_ c2;clear c2;simp only[Option.some.injEq,Prod.mk.injEq] at H;obtain⟨rfl,rfl⟩:=H;go_wp2;go_ret2;exact⟨E1_,D_⟩
def gamma_Whole.f(k:Nat)(l0:List Int):Option (Bool):=(gamma_Ones.f k l0).bind fun pg=>(if pg.2=true then(some ((l0.length:Int)==(wrap64 ((wrap64 (2*pg.1))+1)))) else(some false))
theorem gamma_Whole.calls(k:Nat)(A0:Option Addr)(c0:Nat)(l0:List Int)(r:Bool)(w:World)(hr0:Kd.C (Kd.int .i64) w A0 l0.length l0)(hc0:l0.length≤c0)(h:gamma_Whole.f k l0=some r):
  Calls Tryz.prog 160 #[.slice A0 l0.length c0] w fun e w'=>e= .returned (.bool r)∧Drawn0 w w':=by
 have cO:=Z_ hr0;have mY:=Z_ hc0;clear hr0 hc0;have H:((gamma_Ones.f k l0).bind fun pg=>(if pg.2=true then(some ((l0.length:Int)==(wrap64 ((wrap64 (2*pg.1))+1)))) else(some false)))=some r:=h;clear h;replace H:=Ob_ H;obtain⟨⟨FN,CK⟩,fU,H⟩:=H;(try dsimp only at H);have A2:=Z_ fU;clear fU
 by_cases c3:CK=true
 ·subst c3;rw[if_pos rfl] at H;obtain rfl:=Option.some.inj H
  go_enter Tryz.func160,Tryz.ntmps160
  go_wp2_with (first|(refine G_ 7 Tryz.func110 #[.slice A0 l0.length c0] ?_;refine(gamma_Ones.calls k _ _ l0 FN true _ (C_ cO.out) mY.out A2.out).mono ?_;rintro e w' ⟨rfl,⟨nd,rfl⟩⟩;refine⟨_,rfl,?_⟩))
  go_ret;exact⟨E1_,D_⟩
 ·replace c3:=Bool.eq_false_iff.mpr c3;subst c3;rw[if_neg (show ¬(false=true) by decide)] at H;obtain rfl:=Option.some.inj H
  go_enter Tryz.func160,Tryz.ntmps160
  go_wp2_with (first|(refine G_ 7 Tryz.func110 #[.slice A0 l0.length c0] ?_;refine(gamma_Ones.calls k _ _ l0 FN false _ (C_ cO.out) mY.out A2.out).mono ?_;rintro e w' ⟨rfl,⟨nd,rfl⟩⟩;refine⟨_,rfl,?_⟩))
  go_ret;exact⟨E1_,D_⟩
def coder_New.f  :Option (Int×Int×ByteArray):=some (0,4294967295,(⟨#[]⟩:ByteArray))
theorem coder_New.calls  (r1:Int)(r2:Int)(r3:ByteArray)(w:World)(h:coder_New.f  =some (r1,r2,r3)):
  Calls Tryz.prog 39 #[] w fun e w'=>e= .returned (.agg #[.int .i64 r1,.int .i64 r2,.string r3])∧Below w.heap.size w w':=by
 have wX:=Tryz.underlying88;have HB:=Z_ (Below.refl w.heap.size w);have H:(some (0,4294967295,(⟨#[]⟩:ByteArray)))=some (r1,r2,r3):=h;clear h;simp only[Option.some.injEq,Prod.mk.injEq] at H;obtain⟨rfl,rfl,rfl⟩:=H
 go_enter Tryz.func39,Tryz.ntmps39
 go_wp2_with (first|(refine X_ 0 #[.int .i64 0,.int .i64 0,.string (⟨#[]⟩:ByteArray)] 88 ?_;intro FO hg w1 hbox hb;have ma:=Z_ (hbox);have FP:=Z_ (G2_ hg:w.heap.size≤_);have Sn:=FP;replace HB:=Hb_ hb;clear hb hbox hg;have PO:=cz_ ma 0;have PP:=cz_ ma 1;have PQ:=cz_ ma 2;have PR:=fz_ ma 0;have PS:=fz_ ma 1;have PT:=fz_ ma 2))
 refine bodyPost_ret (results_cell_row rfl _ _ FO 88 #[.int .i64 0,.int .i64 4294967295,.string (⟨#[]⟩:ByteArray)] (0,0) _ rfl (blk_put (cs:= #[.int .i64 0,.int .i64 4294967295,.string (⟨#[]⟩:ByteArray)]) (blk_put (cs:= #[.int .i64 0,.int .i64 0,.string (⟨#[]⟩:ByteArray)]) (blk_put (cs:= #[.int .i64 0,.int .i64 0,.string (⟨#[]⟩:ByteArray)]) (K_ ma) 0 _ rfl) 1 _ rfl) 2 _ rfl) Tryz.underlying88 rfl (by kernel_rfl)) rfl ?_;exact⟨E_,B_⟩
def coder_Ends.f(a0:Int)(a1:Int):Option (Bool):=if a0≥0 then(if a1≤4294967295 then(some (decide ((a1 / 16777216)>(a0 / 16777216)))) else(some false)) else(some false)
theorem coder_Ends.calls(a0:Int)(a1:Int)(r:Bool)(w:World)(h:coder_Ends.f a0 a1=some r):
  Calls Tryz.prog 111 #[.int .i64 a0,.int .i64 a1] w fun e w'=>e= .returned (.bool r)∧Drawn0 w w':=by
 have H:(if a0≥0 then(if a1≤4294967295 then(some (decide ((a1 / 16777216)>(a0 / 16777216)))) else(some false)) else(some false))=some r:=h;clear h
 by_cases c3:a0≥0
 ·rw[if_pos c3] at H;have c3b0:decide (0≤a0)=true:=dt_ c3;clear c3
  by_cases c4:a1≤4294967295
  ·rw[if_pos c4] at H;have c4b0:=dt_ c4;clear c4;obtain rfl:=Option.some.inj H
   go_enter Tryz.func111,Tryz.ntmps111
   go_wp2;go_ret;exact⟨E1_,D_⟩
  ·rw[if_neg c4] at H;have c4b0:=df_ c4;clear c4;obtain rfl:=Option.some.inj H
   go_enter Tryz.func111,Tryz.ntmps111
   go_wp2;go_ret;exact⟨E1_,D_⟩
 ·rw[if_neg c3] at H;have c3b0:decide (0≤a0)=false:=df_ c3;clear c3;obtain rfl:=Option.some.inj H
  go_enter Tryz.func111,Tryz.ntmps111
  go_wp2;go_ret;exact⟨E1_,D_⟩
def coder_May.f(ae:Int)(af:Int)(ax:ByteArray):Option (Bool):=(coder_Ends.f ae af).bind fun t139=>(if t139=true then(some (decide ((ax.size:Int)≤65536))) else(some false))
theorem coder_May.calls(ae:Int)(af:Int)(ax:ByteArray)(r:Bool)(w:World)(h:coder_May.f ae af ax=some r):
  Calls Tryz.prog 78 #[.agg #[.int .i64 ae,.int .i64 af,.string ax]] w fun e w'=>e= .returned (.bool r)∧Below w.heap.size w w':=by
 have wX:=Tryz.underlying88;have HB:=Z_ (Below.refl w.heap.size w);have H:((coder_Ends.f ae af).bind fun t139=>(if t139=true then(some (decide ((ax.size:Int)≤65536))) else(some false)))=some r:=h;clear h;replace H:=Ob_ H;obtain⟨t139,fU,H⟩:=H;(try dsimp only at H);have A2:=Z_ fU;clear fU
 by_cases c3:t139=true
 ·subst c3;rw[if_pos rfl] at H;obtain rfl:=Option.some.inj H
  go_enter Tryz.func78,Tryz.ntmps78
  go_wp2_with (first|((try (refine gate_guard (by rfl) ?_;dsimp only));refine X_ 1 #[.int .i64 ae,.int .i64 af,.string ax] 88 ?_;intro FQ hg w4 hbox hb;have iA:=Z_ (hbox);have wY:=Z_ (G2_ hg:w.heap.size≤_);have FR:=wY;replace HB:=Hb_ hb;clear hb hbox hg;have jE:=cz_ iA 0;have jF:=cz_ iA 1;have kT:=cz_ iA 2;have jG:=fz_ iA 0;have jH:=fz_ iA 1;have kU:=fz_ iA 2)|(refine G_ 7 Tryz.func111 #[.int .i64 ae,.int .i64 af] ?_;refine(coder_Ends.calls ae af true _ A2.out).mono ?_;rintro e w' ⟨rfl,⟨nd,rfl⟩⟩;refine⟨_,rfl,?_⟩))
  go_ret;exact⟨E_,B_⟩
 ·replace c3:=Bool.eq_false_iff.mpr c3;subst c3;rw[if_neg (show ¬(false=true) by decide)] at H;obtain rfl:=Option.some.inj H
  go_enter Tryz.func78,Tryz.ntmps78
  go_wp2_with (first|((try (refine gate_guard (by rfl) ?_;dsimp only));refine X_ 1 #[.int .i64 ae,.int .i64 af,.string ax] 88 ?_;intro FQ hg w6 hbox hb;have iA:=Z_ (hbox);have wY:=Z_ (G2_ hg:w.heap.size≤_);have FR:=wY;replace HB:=Hb_ hb;clear hb hbox hg;have kP:=cz_ iA 0;have kQ:=cz_ iA 1;have mg:=cz_ iA 2;have kR:=fz_ iA 0;have kS:=fz_ iA 1;have mh:=fz_ iA 2)|(refine G_ 7 Tryz.func111 #[.int .i64 ae,.int .i64 af] ?_;refine(coder_Ends.calls ae af false _ A2.out).mono ?_;rintro e w' ⟨rfl,⟨nd,rfl⟩⟩;refine⟨_,rfl,?_⟩))
  go_ret;exact⟨E_,B_⟩
def coder_End.f(ae:Int)(af:Int)(ax:ByteArray):Option (ByteArray×Int):=(coder_May.f ae af ax).bind fun t141=>(if t141=true then((some (([(ae / 16777216)%256,(ae / 65536)%256,(ae / 256)%256,(ae)%256]:List Int):List Int)).bind fun nk=>(if ax.size+(strOfNums nk).size≤9223372036854775807 then(some (ax++(strOfNums nk),0)) else(none))) else(some ((⟨#[]⟩:ByteArray),400)))
theorem coder_End.calls(ae:Int)(af:Int)(ax:ByteArray)(r1:ByteArray)(r2:Int)(w:World)(h:coder_End.f ae af ax=some (r1,r2)):
  Calls Tryz.prog 41 #[.agg #[.int .i64 ae,.int .i64 af,.string ax]] w fun e w'=>e= .returned (.tuple #[.string r1,.int .i64 r2])∧Below w.heap.size w w':=by
 have wX:=Tryz.underlying88;have HB:=Z_ (Below.refl w.heap.size w);have H:((coder_May.f ae af ax).bind fun t141=>(if t141=true then((some (([(ae / 16777216)%256,(ae / 65536)%256,(ae / 256)%256,(ae)%256]:List Int):List Int)).bind fun nk=>(if ax.size+(strOfNums nk).size≤9223372036854775807 then(some (ax++(strOfNums nk),0)) else(none))) else(some ((⟨#[]⟩:ByteArray),400))))=some (r1,r2):=h;clear h;replace H:=Ob_ H;obtain⟨t141,fU,H⟩:=H;(try dsimp only at H);have A2:=Z_ fU;clear fU
 by_cases c3:t141=true
 ·subst c3;rw[if_pos rfl] at H;obtain⟨nk,pq⟩:∃y_:List Int,y_=(([(ae / 16777216)%256,(ae / 65536)%256,(ae / 256)%256,(ae)%256]:List Int)):=⟨_,rfl⟩;replace H:(if ax.size+(strOfNums nk).size≤9223372036854775807 then(some (ax++(strOfNums nk),0)) else(none))=some (r1,r2):=by first|(rw[pq];with_reducible exact H)|(have bS:=(bs_ _ _).symm.trans H;rw[pq];with_reducible exact bS)|(have bS:=(bs_ _ _).symm.trans H;with_reducible exact bS)|with_reducible exact H|(rw[pq];exact H)|exact H
  have Bj:=Z_ pq;clear pq
  by_cases c4:ax.size+(strOfNums nk).size≤9223372036854775807
  ·rw[if_pos c4] at H;have c4b0:=eq_true c4;have c4b1:=dt_ c4
   try have c4b2:(9223372036854775807<ax.size+(strOfNums nk).size)=False:=eq_false (Nat.not_lt.2 c4)
   simp only[Option.some.injEq,Prod.mk.injEq] at H;obtain⟨rfl,rfl⟩:=H
   go_enter Tryz.func41,Tryz.ntmps41
   go_wp2_with (first|(refine X_ 1 #[.int .i64 ae,.int .i64 af,.string ax] 88 ?_;intro FT hg w5 hbox hb;have dD:=Z_ (hbox);have wZ:=Z_ (G2_ hg:w.heap.size≤_);have FU:=wZ;replace HB:=Hb_ hb;clear hb hbox hg;have lY:=cz_ dD 0;have lZ:=cz_ dD 1;have PV:=cz_ dD 2;have l5:=fz_ dD 0;have l7:=fz_ dD 1;have PW:=fz_ dD 2)|(refine G_ 5 Tryz.func78 #[.agg #[.int .i64 ae,.int .i64 af,.string ax]] ?_;refine(coder_May.calls ae af ax true _ A2.out).mono ?_;rintro e w7 ⟨rfl,hb⟩;refine⟨_,rfl,?_⟩;replace dD:=Z_ (blk_below (K_ dD) hb);replace HB:=Hb_ hb;(try clear hb);have kV:=cz_ dD 0;have kW:=cz_ dD 1;have xc:=cz_ dD 2;have kX:=fz_ dD 0;have kY:=fz_ dD 1;have xe:=fz_ dD 2)|((with_reducible refine gate_dst (N:=24) rfl ?_);refine Kd.R_lit (Kd.int .u8) _ 5 ?hg (N:=24) ?hd (xs:=([(ae / 16777216)%256,(ae / 65536)%256,(ae / 256)%256,(ae)%256]:List Int)) (inner:= [.int .u8 ((ae / 16777216)%256),.int .u8 ((ae / 65536)%256),.int .u8 ((ae / 256)%256),.int .u8 ((ae)%256)]) (ok:=fun _=>True) (okp:=fun _=>True) ?hr ?hp (fun _ hk=>hk) trivial (Below.refl _ _) (Nat.le_refl _) (by simp) ?_;(case hd=>rfl);(case hg=>rfl);(case hr=>first|(go_simp;done)|(go_simp;rfl));(case hp=>exact(Reps.one (show Kd.M (Kd.int .u8) _ _ _ ((ae / 16777216)%256) [.int .u8 ((ae / 16777216)%256)] from rfl) (Reps.one (show Kd.M (Kd.int .u8) _ _ _ ((ae / 65536)%256) [.int .u8 ((ae / 65536)%256)] from rfl) (Reps.one (show Kd.M (Kd.int .u8) _ _ _ ((ae / 256)%256) [.int .u8 ((ae / 256)%256)] from rfl) (Reps.one (show Kd.M (Kd.int .u8) _ _ _ ((ae)%256) [.int .u8 ((ae)%256)] from rfl) (Reps.none _ _))))));intro v143 w9 xg hb hg_ hnew_;clear hg_ hnew_;(first|rw[←Bj.out] at xg|(simp only[Int.reduceToNat] at xg;rw[←Bj.out] at xg));have FV:=Z_ (Kd.R_lower xg (below_size B_));replace dD:=Z_ (blk_below (K_ dD) hb);replace HB:=Hb_ hb;clear hb xg;have Sr:=own_string (P:=Tryz.prog) Tryz.underlying27 Tryz.underlying5 Tryz.underlying9 (Kd.own_of_R FV.out)))
   go_ret2;exact⟨E_,B_⟩
  ·rw[if_neg c4] at H;exact absurd H (by simp)
 ·replace c3:=Bool.eq_false_iff.mpr c3;subst c3;rw[if_neg (show ¬(false=true) by decide)] at H;simp only[Option.some.injEq,Prod.mk.injEq] at H;obtain⟨rfl,rfl⟩:=H
  go_enter Tryz.func41,Tryz.ntmps41
  go_wp2_with (first|(refine X_ 1 #[.int .i64 ae,.int .i64 af,.string ax] 88 ?_;intro FT hg w12 hbox hb;have dD:=Z_ (hbox);have wZ:=Z_ (G2_ hg:w.heap.size≤_);have FU:=wZ;replace HB:=Hb_ hb;clear hb hbox hg;have gL:=cz_ dD 0;have gM:=cz_ dD 1;have nU:=cz_ dD 2;have gN:=fz_ dD 0;have gP:=fz_ dD 1;have nV:=fz_ dD 2)|(refine G_ 5 Tryz.func78 #[.agg #[.int .i64 ae,.int .i64 af,.string ax]] ?_;refine(coder_May.calls ae af ax false _ A2.out).mono ?_;rintro e yN ⟨rfl,hb⟩;refine⟨_,rfl,?_⟩;replace dD:=Z_ (blk_below (K_ dD) hb);replace HB:=Hb_ hb;(try clear hb)))
  go_ret2;exact⟨E_,B_⟩
def coder_Chance.f(a0:Int):Option (Bool):=if a0≥1 then(some (decide (a0≤4095))) else(some false)
theorem coder_Chance.calls(a0:Int)(r:Bool)(w:World)(h:coder_Chance.f a0=some r):
  Calls Tryz.prog 134 #[.int .i64 a0] w fun e w'=>e= .returned (.bool r)∧Drawn0 w w':=by
 have H:(if a0≥1 then(some (decide (a0≤4095))) else(some false))=some r:=h;clear h
 by_cases c2:a0≥1
 ·rw[if_pos c2] at H;have c2b0:decide (1≤a0)=true:=dt_ c2;clear c2;obtain rfl:=Option.some.inj H
  go_enter Tryz.func134,Tryz.ntmps134
  go_wp2;go_ret;exact⟨E1_,D_⟩
 ·rw[if_neg c2] at H;have c2b0:decide (1≤a0)=false:=df_ c2;clear c2;obtain rfl:=Option.some.inj H
  go_enter Tryz.func134,Tryz.ntmps134
  go_wp2;go_ret;exact⟨E1_,D_⟩
def coder_Middle.f(a0:Int)(a1:Int)(a2:Int):Option (Int):=some (wrap64 ((wrap64 (a0+(wrap64 ((wrap64 (Int.tdiv (wrap64 (a1 - a0)) 4096))*a2))))+(wrap64 (Int.tdiv (wrap64 ((Int.tmod (wrap64 (a1 - a0)) 4096)*a2)) 4096))))
theorem coder_Middle.calls(a0:Int)(a1:Int)(a2:Int)(r:Int)(w:World)(h:coder_Middle.f a0 a1 a2=some r):
  Calls Tryz.prog 135 #[.int .i64 a0,.int .i64 a1,.int .i64 a2] w fun e w'=>e= .returned (.int .i64 r)∧Drawn0 w w':=by
 have H:(some (wrap64 ((wrap64 (a0+(wrap64 ((wrap64 (Int.tdiv (wrap64 (a1 - a0)) 4096))*a2))))+(wrap64 (Int.tdiv (wrap64 ((Int.tmod (wrap64 (a1 - a0)) 4096)*a2)) 4096)))))=some r:=h;clear h;obtain rfl:=Option.some.inj H
 go_enter Tryz.func135,Tryz.ntmps135
 go_wp2;go_ret;exact⟨E1_,D_⟩
def coder_Up.f(a0:Int)(a1:Int):Option (Int):=some (Go.bits .or .i64 (Go.bits .and .i64 (wrap64 (a0*256)) 4294967295) a1)
theorem coder_Up.calls(a0:Int)(a1:Int)(r:Int)(w:World)(h:coder_Up.f a0 a1=some r):
  Calls Tryz.prog 137 #[.int .i64 a0,.int .i64 a1] w fun e w'=>e= .returned (.int .i64 r)∧Drawn0 w w':=by
 have H:(some (Go.bits .or .i64 (Go.bits .and .i64 (wrap64 (a0*256)) 4294967295) a1))=some r:=h;clear h;obtain rfl:=Option.some.inj H
 go_enter Tryz.func137,Tryz.ntmps137
 go_wp2;go_ret;exact⟨E1_,D_⟩
def decoder_at.f(a0:ByteArray)(a1:Int):Option (Int):=if a1<(a0.size:Int) then(if 0≤a1 then(some (wrap64 (bt a0 a1))) else(none)) else(some 0)
theorem decoder_at.calls(a0:ByteArray)(a1:Int)(r:Int)(w:World)(h:decoder_at.f a0 a1=some r):
  Calls Tryz.prog 159 #[.string a0,.int .i64 a1] w fun e w'=>e= .returned (.int .i64 r)∧Drawn0 w w':=by
 have H:(if a1<(a0.size:Int) then(if 0≤a1 then(some (wrap64 (bt a0 a1))) else(none)) else(some 0))=some r:=h;clear h
 by_cases c3:a1<(a0.size:Int)
 ·rw[if_pos c3] at H;have c3b0:=dt_ c3;clear c3
  by_cases c4:0≤a1
  ·rw[if_pos c4] at H;have c4b0:=dt_ c4;clear c4;obtain rfl:=Option.some.inj H;have p5:0≤(a1:Int):=od_ A_;have q5:a1<(a0.size:Int):=od_ A_;have hx5:=bt_at a0 a1;replace p5:=eq_true p5;replace q5:=eq_true q5
   go_enter Tryz.func159,Tryz.ntmps159
   go_wp2;go_ret;exact⟨E1_,D_⟩
  ·rw[if_neg c4] at H;exact absurd H (by simp)
 ·rw[if_neg c3] at H;have c3b0:=df_ c3;clear c3;obtain rfl:=Option.some.inj H
  go_enter Tryz.func159,Tryz.ntmps159
  go_wp2;go_ret;exact⟨E1_,D_⟩
end Go.Proofs.YtfghldonnffldaaGreatDoor.TBase
