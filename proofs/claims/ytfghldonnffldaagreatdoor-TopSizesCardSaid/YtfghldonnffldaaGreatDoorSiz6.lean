/- TopSizes is proved: whatever the size of segments is, each range of a stream is the same. -/
import Derived.Test.YtfghldonnffldaaGreatDoorRows
import Derived.Lib.LaidTab
import Derived.Stop.LaidErr
import Derived.Deep.DeepHandedRow
import Derived.Test.YtfghldonnffldaaGreatDoorCards
import Derived.Test.YtfghldonnffldaaGreatDoorTie
import Derived.WalkKit
import Derived.ProofKit
import Derived.OpenShut
import Derived.ShutString
import Derived.ChangeOld
import Derived.Below
import Derived.SizedLaws
import Derived.Lib.SmallJoins
import Derived.SevenTiedAt
import Derived.LaidLaws
import Derived.Test.YtfghldonnffldaaGreatDoorSiz5
set_option linter.unusedVariables false
set_option linter.unusedSimpArgs false
set_option maxRecDepth 100000
set_option maxHeartbeats 8000000
namespace Go.Proofs.YtfghldonnffldaaGreatDoor
open Go.RowKit YtfghldonnffldaaGreatDoorW.PrintWords YtfghldonnffldaaGreatDoorW.PrintLast YtfghldonnffldaaGreatDoorW.PrintMore TBase
open UOne VTwo YFou
theorem i16_rng(x:Int): -32768≤IntKind.i16.wrap x∧IntKind.i16.wrap x≤32767:=by
 have h:IntKind.i16.wrap x=(x+32768)%65536 - 32768:=by
  unfold IntKind.wrap;simp[IntKind.signed,IntKind.bits]
  try omega
 rw[h];omega
theorem bt_rng(s:ByteArray)(i:Int):0≤bt s i∧bt s i≤255:=by
 unfold bt
 split
 ·have:=UInt8.toNat_lt (s[i.toNat]);omega
 ·omega
theorem sample_bd(s:ByteArray)(h:s.size=1∨s.size=2):∃x,pcm_sample.f s=some x∧ -32768≤x∧x≤32767:=by
 unfold pcm_sample.f
 rcases h with h|h
 ·rw[if_pos (by omega),if_pos (by omega)];have hb:=bt_rng s 0;refine⟨_,rfl,?_⟩;rw[wrap_id (bt s 0) (by omega) (by omega),wrap_id _ (by omega) (by omega)];omega
 ·rw[if_neg (by omega),if_pos (by omega),if_pos (by omega)];have hb:=i16_rng (Go.bits .or .u16 (IntKind.u16.wrap (bt s 0)) (IntKind.u16.wrap ((IntKind.u16.wrap (bt s 1))*256)));refine⟨_,rfl,?_⟩;rw[wrap_id _ (by omega) (by omega)];exact hb
def smp(x:Int):Prop:= -32768≤x∧x≤32768
theorem smp_cs{x:Int}(h:smp x):csB x=true:=dt_ ⟨by have:=h.1;omega,by have:=h.2;omega⟩
def pcmAt(d:ByteArray)(ch w:Nat)(rows:List (List Int))(n:Nat):Prop:=∀j t,j<ch→t*ch+j<n→pcm_sample.f (d.extract ((t*ch+j)*w) ((t*ch+j+1)*w))=some ((rows.getD j []).getD t 0)
theorem pgetB_l0(k ch w n:Nat)(d:ByteArray)(bi:Int)(hc:ch=1∨ch=2)(hw:w=1∨w=2)(hn:n*w=d.size)(hd:d.size≤4096)(hnb:n≤4096):
  ∀m i,i+m=n→∀x6:List (List Int),x6.length=ch→(∀j,j<ch→(x6.getD j []).length=(i+ch - 1 - j) / ch)→(∀r∈x6,∀x∈r,smp x)→pcmAt d ch w x6 i→
   ∃rows,pcm_Get.l0 (k+m+1) d x6 (w:Int) (i:Int) (ch:Int) bi=some (rows,0)∧rows.length=ch∧(∀j,j<ch→(rows.getD j []).length=(n+ch - 1 - j) / ch)∧(∀r∈rows,∀x∈r,smp x)∧pcmAt d ch w rows n:=by
 intro m
 induction m with
 |zero=>
  intro i hi x6 hx hr hs hq;obtain rfl:i=n:=by omega
  have w1:wrap64 ((i:Int)*(w:Int))=(d.size:Int):=by rw[←Int.natCast_mul,hn];exact wrap_id _ (by omega) (by omega)
  rw[pcm_Get.l0,w1,if_neg (Int.lt_irrefl _)];exact⟨_,rfl,hx,hr,hs,hq⟩
 |succ m ih=>
  intro i hi x6 hx hr hs hq;have hiw:(i+1)*w≤d.size:=by rw[←hn];exact Nat.mul_le_mul_right w (by omega)
  have hiw2:(i+1)*w=i*w+w:=by rw[Nat.add_mul,Nat.one_mul]
  obtain⟨a,ha⟩:∃a,i*w=a:=⟨_,rfl⟩;rw[ha] at hiw2;obtain⟨b,hb⟩:∃b,(i+1)*w=b:=⟨_,rfl⟩;rw[hb] at hiw hiw2;have w1:wrap64 ((i:Int)*(w:Int))=(a:Int):=by rw[←Int.natCast_mul,ha];exact wrap_id _ (by omega) (by omega)
  have w0:wrap64 ((i:Int)+1)=((i+1:Nat):Int):=wrap_id _ (by omega) (by omega);have w2:wrap64 (((i+1:Nat):Int)*(w:Int))=(b:Int):=by rw[←Int.natCast_mul,hb];exact wrap_id _ (by omega) (by omega)
  have hm:Int.tmod (i:Int) (ch:Int)=((i%ch:Nat):Int):=rfl;have hml:i%ch<ch:=Nat.mod_lt _ (by omega);have hsz:(d.extract a b).size=1∨(d.extract a b).size=2:=by rw[ByteArray.size_extract];clear w1 w0 w2 hm hml ih;omega
  obtain⟨x,hx1,hxb⟩:=sample_bd _ hsz;have hrow:(TBase.rd_L1 x6 ((i%ch:Nat):Int))=x6.getD (i%ch) []:=rfl
  have hmem:x6.getD (i%ch) []∈x6:=by
   rw[gD_,gE_ (by omega)];exact List.getElem_mem _
  have hrl:(x6.getD (i%ch) []).length≤i:=by rw[hr _ hml];clear w1 w0 w2 hm ih hx1;rcases hc with rfl|rfl<;>omega
  obtain⟨rows,hrows⟩:=ih (i+1) (by clear w1 w0 w2 hm hml;omega) (x6.set (i%ch) (x6.getD (i%ch) []++ [x])) (by rw[List.length_set];exact hx) (by
   intro j hj;rw[gD_,List.getElem?_set]
   by_cases hij:i%ch=j
   ·rw[if_pos hij,if_pos (by omega)];subst hij;show(x6.getD (i%ch) []++ [x]).length=_;rw[List.length_append,List.length_singleton,hr _ hml];clear w1 w0 w2 hm ih hx1 hr hs hrl hmem
    rcases hc with rfl|rfl<;>omega
   ·rw[if_neg hij,←gD_,hr j hj];clear w1 w0 w2 hm ih hx1 hr hs hrl hmem
    rcases hc with rfl|rfl<;>omega) (by
   intro r hr1 y hy
   rcases List.mem_or_eq_of_mem_set hr1 with h|h
   ·exact hs r h y hy
   ·subst h
    rcases List.mem_append.1 hy with h|h
    ·exact hs _ hmem y h
    ·obtain rfl:=List.mem_singleton.1 h
     exact⟨hxb.1,Int.le_trans hxb.2 (by decide)⟩) (by
   intro j t hj ht
   by_cases hij:i%ch=j
   ·subst hij
    have e1:(x6.set (i%ch) (x6.getD (i%ch) []++ [x])).getD (i%ch) []=x6.getD (i%ch) []++ [x]:=by
     rw[gD_,List.getElem?_set,if_pos rfl,if_pos (by omega)];rfl
    rw[e1];have hrl2:=hr _ hml
    by_cases hlt:t*ch+i%ch<i
    ·have h9:t<(x6.getD (i%ch) []).length:=by
      rw[hrl2];clear w1 w0 w2 hm ih hx1 hr hs hrl hmem hrl2 e1 hq
      rcases hc with rfl|rfl<;>omega
     have h8:=hq _ t hml hlt;rw[h8,gD_ (l:=x6.getD (i%ch) []++ [x]),List.getElem?_append_left h9,←gD_]
    ·have he:t*ch+i%ch=i:=by clear w1 w0 w2 hm ih hx1 hr hs hrl hmem hrl2 e1 hq;omega
     have h9:t=(x6.getD (i%ch) []).length:=by
      rw[hrl2];clear w1 w0 w2 hm ih hx1 hr hs hrl hmem hrl2 e1 hq
      rcases hc with rfl|rfl<;>omega
     rw[he,ha,hb,hx1,gD_ (l:=x6.getD (i%ch) []++ [x]),h9,List.getElem?_concat_length];rfl
   ·have e1:(x6.set (i%ch) (x6.getD (i%ch) []++ [x])).getD j []=x6.getD j []:=by
     rw[gD_,List.getElem?_set,if_neg hij,←gD_]
    rw[e1];refine hq j t hj ?_;clear w1 w0 w2 hm ih hx1 hr hs hrl hmem e1 hq
    rcases hc with rfl|rfl<;>omega)
  refine⟨rows,?_,hrows.2⟩;have c1:(a:Int)<(d.size:Int):=by clear w1 w0 w2 hm hml ih hrow hx1 hrows hr hs;omega
  have c2:¬((ch:Int)=0):=by clear w1 w0 w2 hm hml ih hrow hx1 hrows hr hs;omega
  have c3:(0:Int)≤((i%ch:Nat):Int):=Int.natCast_nonneg _;have c4:((i%ch:Nat):Int)<(x6.length:Int):=by rw[hx];exact Int.ofNat_lt.2 hml
  have c5:(0:Int)≤(a:Int):=Int.natCast_nonneg _;have c6:(a:Int)≤(b:Int):=by clear w1 w0 w2 hm hml ih hrow hx1 hrows hr hs;omega
  have c7:(b:Int)≤(d.size:Int):=by clear w1 w0 w2 hm hml ih hrow hx1 hrows hr hs;omega
  have c8:(x6.getD (i%ch) []).length<17592186044416:=Nat.lt_of_le_of_lt hrl (by clear w1 w0 w2 hm hml ih hrow hx1 hrows hr hs;omega);rw[show k+(m+1)+1=(k+m+1)+1 from rfl,pcm_Get.l0,w1,w0,w2,hm,if_pos c1,if_neg c2,if_pos c3,if_pos c4,if_pos c5,if_pos c6,if_pos c7,nC_,nC_,nC_,hx1,bs_,hrow,if_pos c8];exact hrows.1
theorem ch_le{ch:Nat}(hc:ch=1∨ch=2):ch≤2:=by omega
theorem half_len{c ch n j:Nat}(hc:ch=1∨ch=2)(hn:c*ch=n)(hj:j<ch):(n+ch - 1 - j) / ch=c:=by
 subst hn
 rcases hc with rfl|rfl<;>omega
theorem half_zero{ch j:Nat}(hc:ch=1∨ch=2)(hj:j<ch):0=(0+ch - 1 - j) / ch:=by rcases hc with rfl|rfl<;>omega
theorem pgetB_f(k ch bi c:Nat)(d:ByteArray)(hk:5000≤k)(hc:ch=1∨ch=2)(hb:bi=8∨bi=16)(hm:d.size=c*fsz ch bi)(hd:d.size≤4096):
  ∃rows,pcm_Get.f k d (ch:Int) (bi:Int)=some (rows,0)∧rows.length=ch∧(∀r∈rows,r.length=c)∧(∀r∈rows,∀x∈r,smp x)∧∃w,(w=1∨w=2)∧bi=8*w∧fsz ch bi=ch*w∧pcmAt d ch w rows (c*ch):=by
 obtain⟨w,hw,hw8⟩:∃w,(w=1∨w=2)∧bi=8*w:=by rcases hb with rfl|rfl;exact⟨1,.inl rfl,rfl⟩;exact⟨2,.inr rfl,rfl⟩
 have hfw:fsz ch bi=ch*w:=by subst hw8;show ch*(8*w) / 8=ch*w;rw[Nat.mul_left_comm,Nat.mul_div_cancel_left _ (by decide)]
 have hn:(c*ch)*w=d.size:=by rw[hm,hfw,Nat.mul_assoc]
 obtain⟨n,hne⟩:∃n,c*ch=n:=⟨_,rfl⟩;rw[hne] at hn;have hnb:n≤4096:=by rcases hw with rfl|rfl<;>omega
 obtain⟨k,rfl⟩:∃m,k=(m+n+1)+1:=⟨k - n - 2,by omega⟩;have tw:wrap64 (Int.tdiv (bi:Int) 8)=(w:Int):=by subst hw8;rcases hw with rfl|rfl<;>kernel_rfl
 have c1:decide (d.size%fsz ch bi=0)=true:=by rw[decide_eq_true_iff,hm];exact Nat.mul_mod_left _ _
 have c2:¬(decide ((d.size:Int)>4096)=true):=by rw[decide_eq_true_iff];omega
 have c3:(0:Int)≤(ch:Int):=Int.natCast_nonneg _;have c4:((ch:Nat):Int).toNat≤11728124029610:=by rw[nC_];exact Nat.le_trans (ch_le hc) (by decide)
 obtain⟨rows,hr,h1,h2,h3,hq⟩:=pgetB_l0 k ch w n d (bi:Int) hc hw hn hd hnb n 0 (by omega) (List.replicate ch []) List.length_replicate (by
  intro j hj;rw[gD_,List.getElem?_replicate,if_pos hj]
  exact half_zero hc hj) (by intro r hr x hx;rw[List.eq_of_mem_replicate hr] at hx;cases hx) (fun j t _ ht=>absurd ht (Nat.not_lt_zero _))
 refine⟨rows,?_,h1,?_,h3,w,hw,hw8,hfw,by rw[hne];exact hq⟩
 ·unfold pcm_Get.f;rw[mayf ch bi hc hb,bs_,if_pos rfl,pframes_f ch bi hc hb,bs_,if_pos c1,pcm_Get.j0,if_neg c2,if_pos c3,if_pos c4,nC_,tw];exact hr
 ·intro r hr;obtain⟨j,hj,rfl⟩:=List.getElem_of_mem hr;have h4:=h2 j (h1▸hj);rw[gD_,gE_ hj] at h4;have h5:(rows[j]).length=(n+ch - 1 - j) / ch:=h4;exact h5.trans (half_len hc hne (h1▸hj))
theorem nums_bytes(s:ByteArray):strOfNums (bytesOf s)=s:=by
 unfold strOfNums bytesOf;rw[List.map_map]
 have:(s.data.toList.map ((fun n:Int=>UInt8.ofNat n.toNat)∘fun b:UInt8=>(b.toNat:Int)))=s.data.toList:=by
  rw[show((fun n:Int=>UInt8.ofNat n.toNat)∘fun b:UInt8=>(b.toNat:Int))=id from funext fun b=>by simp];exact List.map_id _
 rw[this]
theorem bytesOf_app(s t:ByteArray):bytesOf (s++t)=bytesOf s++bytesOf t:=by
 unfold bytesOf;rw[ByteArray.data_append,Array.toList_append,List.map_append]
theorem i16_val(x:Int):IntKind.i16.wrap x=(x+32768)%65536 - 32768:=by
 unfold IntKind.wrap;simp[IntKind.signed,IntKind.bits]
 try omega
theorem bytes_sample(s:ByteArray)(w:Nat)(x:Int)(h:s.size=w)(hw:w=1∨w=2)(hx:pcm_sample.f s=some x): -((128*256 ^ (w - 1):Nat):Int)≤x∧x<((128*256 ^ (w - 1):Nat):Int)∧pcm_bytes.f x ((8*w:Nat):Int)=some (bytesOf s):=by
 have hl:s.data.toList.length=w:=by rw[data_length];exact h
 obtain⟨⟨l⟩⟩:=s
 rcases hw with rfl|rfl
 ·obtain⟨a,rfl⟩:=List.length_eq_one_iff.1 hl;have ha:=a.toNat_lt;have hb:bt ⟨⟨[a]⟩⟩ 0=(a.toNat:Int):=rfl;unfold pcm_sample.f at hx;have z:((ByteArray.size ⟨⟨[a]⟩⟩:Nat):Int)=1:=rfl;rw[z,if_pos rfl,if_pos (by decide),hb,wrap_id (a.toNat:Int) (by omega) (by omega),wrap_id _ (by omega) (by omega)] at hx;obtain rfl:=Option.some.inj hx;refine⟨by omega,by omega,?_⟩;unfold pcm_bytes.f;rw[if_pos (by decide),wrap_id _ (by omega) (by omega)];have e:((a.toNat:Int) - 128+128)%256=(a.toNat:Int):=by omega
  rw[e];rfl
 ·rcases l with _|⟨a,_|⟨c,l⟩⟩<;>simp at hl
  subst hl;have ha:=a.toNat_lt;have hc:=c.toNat_lt;have hb:bt ⟨⟨[a,c]⟩⟩ 0=(a.toNat:Int):=rfl;have hb1:bt ⟨⟨[a,c]⟩⟩ 1=(c.toNat:Int):=rfl;unfold pcm_sample.f at hx;have u1:IntKind.u16.wrap (a.toNat:Int)=(a.toNat:Int):=by rw[IntKind.wrap_u16];omega
  have u2:IntKind.u16.wrap (IntKind.u16.wrap (c.toNat:Int)*256)=((2 ^ 8*c.toNat:Nat):Int):=by rw[IntKind.wrap_u16,IntKind.wrap_u16];omega
  have u3:Go.bits .or .u16 (a.toNat:Int) ((2 ^ 8*c.toNat:Nat):Int)=((a.toNat+256*c.toNat:Nat):Int):=by
   rw[(bits_nat .u16 16 (by decide) (fun n h0 h1=>by rw[IntKind.wrap_u16];omega) a.toNat (2 ^ 8*c.toNat) (by omega) (by omega)).2,Nat.or_comm,←Nat.two_pow_add_eq_or_of_lt (by omega)]
   congr 1
   omega
  have z:((ByteArray.size ⟨⟨[a,c]⟩⟩:Nat):Int)=2:=rfl;rw[z,if_neg (by decide),if_pos (by decide),if_pos (by decide),hb,hb1,u1,u2,u3,i16_val,wrap_id _ (by omega) (by omega)] at hx;have hx2:=Option.some.inj hx;refine⟨by omega,by omega,?_⟩;unfold pcm_bytes.f;rw[if_neg (by decide)];have e0:x%256=(a.toNat:Int):=by omega
  have e1:x / 256%256=(c.toNat:Int):=by omega
  rw[e0,e1];rfl
theorem ext_succ(d:ByteArray)(a c:Nat)(h:a≤c):d.extract 0 a++d.extract a c=d.extract 0 c:=by
 rw[ByteArray.extract_append_extract]
 congr 1<;>omega
theorem pput_l1(k ch w c i most:Nat)(d:ByteArray)(rows:List (List Int))(hc:ch=1∨ch=2)(hw:w=1∨w=2)(hd:d.size=c*ch*w)(hd4:d.size≤4096)(hr:rows.length=ch)(hl:∀r∈rows,r.length=c)(hq:pcmAt d ch w rows (c*ch))(hm:most=128*256 ^ (w - 1))(hi:i<c):
  ∀m j,j+m=ch→pcm_Put.l1 (k+m+1) rows (most:Int) (bytesOf (d.extract 0 ((i*ch+j)*w))) (i:Int) (c:Int) (i:Int) rows (ch:Int) (j:Int) (ch:Int) ((8*w:Nat):Int)=pcm_Put.l0 k rows (most:Int) (bytesOf (d.extract 0 ((i*ch+ch)*w))) (c:Int) (wrap64 ((i:Int)+1)) (ch:Int) ((8*w:Nat):Int):=by
 intro m
 induction m with
 |zero=>
  intro j hj;obtain rfl:j=ch:=hj;rw[show k+0+1=k+1 from rfl,pcm_Put.l1,if_neg (Int.lt_irrefl _)]
 |succ m ih=>
  intro j hj;have hjc:j<ch:=by omega
  have hmem:rows.getD j []∈rows:=by rw[gD_,gE_ (by omega)];exact List.getElem_mem _
  have hrl:=hl _ hmem;have hrow:VTwo.rd_L2 rows (j:Int)=rows.getD j []:=rfl
  have hlt:i*ch+j<c*ch:=by
   have:(i+1)*ch≤c*ch:=Nat.mul_le_mul_right ch hi;rw[Nat.add_mul,Nat.one_mul] at this;omega
  have hs:=hq j i hjc hlt;obtain⟨x,hx⟩:∃x,(rows.getD j []).getD i 0=x:=⟨_,rfl⟩;rw[hx] at hs;have hle:(i*ch+j+1)*w≤d.size:=by rw[hd];exact Nat.mul_le_mul_right w hlt
  have he:(i*ch+j+1)*w=(i*ch+j)*w+w:=by rw[Nat.add_mul,Nat.one_mul]
  have hsz:(d.extract ((i*ch+j)*w) ((i*ch+j+1)*w)).size=w:=by rw[ByteArray.size_extract];omega
  obtain⟨b1,b2,b3⟩:=bytes_sample _ w x hsz hw hs;rw[←hm] at b1 b2;have hrd:rd (rows.getD j []) (i:Int)=x:=by rw[←hx];unfold rd;rw[nC_]
  have hmb:most≤32768:=by rw[hm];rcases hw with rfl|rfl<;>decide
  have c1:(j:Int)<(ch:Int):=Int.ofNat_lt.2 hjc;have c3:(j:Int)<(rows.length:Int):=by rw[hr];exact c1
  have c5:(i:Int)<(c:Int):=Int.ofNat_lt.2 hi;have c6:¬(x< -(most:Int)):=Int.not_lt.2 b1;have c7:¬(x≥(most:Int)):=Int.not_le.2 b2;have hab:(i*ch+j)*w≤(i*ch+j+1)*w:=by rw[he];exact Nat.le_add_right _ _
  have hlen:(bytesOf (d.extract 0 ((i*ch+j)*w))).length+(bytesOf (d.extract ((i*ch+j)*w) ((i*ch+j+1)*w))).length<140737488355328:=by
   rw[bytesOf_length,bytesOf_length,hsz];have h1:(d.extract 0 ((i*ch+j)*w)).size≤4096:=by rw[ByteArray.size_extract];exact Nat.le_trans (Nat.sub_le _ _) (Nat.le_trans (Nat.min_le_right _ _) hd4)
   have h2:w≤2:=by rcases hw with rfl|rfl<;>decide
   exact Nat.lt_of_le_of_lt (Nat.add_le_add h1 h2) (by decide)
  have hj1:j+1+m=ch:=by omega
  clear hs hx b1 b2 hlt hle;have w1:wrap64 (-(most:Int))= -(most:Int):=wrap_id _ (by omega) (by omega);have w2:wrap64 ((j:Int)+1)=((j+1:Nat):Int):=wrap_id _ (by omega) (by omega);rw[show k+(m+1)+1=(k+m+1)+1 from rfl,pcm_Put.l1,if_pos c1,if_pos (Int.natCast_nonneg _),if_pos c3,if_pos (Int.natCast_nonneg _),hrow,hrl,if_pos c5,hrd,w1,if_neg c6,if_neg c7,b3,bs_,if_pos hlen,←bytesOf_app,ext_succ _ _ _ hab,w2];exact ih (j+1) hj1
theorem pput_l0(k ch w c most:Nat)(d:ByteArray)(rows:List (List Int))(hc:ch=1∨ch=2)(hw:w=1∨w=2)(hd:d.size=c*ch*w)(hd4:d.size≤4096)(hc4:c≤4096)(hr:rows.length=ch)(hl:∀r∈rows,r.length=c)(hq:pcmAt d ch w rows (c*ch))(hm:most=128*256 ^ (w - 1)):
  ∀m i,i+m=c→pcm_Put.l0 (k+m*(ch+2)+1) rows (most:Int) (bytesOf (d.extract 0 (i*ch*w))) (c:Int) (i:Int) (ch:Int) ((8*w:Nat):Int)=some (d,0):=by
 intro m
 induction m with
 |zero=>
  intro i hi;obtain rfl:i=c:=hi;rw[Nat.zero_mul,pcm_Put.l0,if_neg (Int.lt_irrefl _),nums_bytes,←hd,ByteArray.extract_zero_size]
 |succ m ih=>
  intro i hi;have w1:wrap64 ((i:Int)+1)=((i+1:Nat):Int):=wrap_id _ (by omega) (by omega);have h1:=pput_l1 (k+m*(ch+2)+1) ch w c i most d rows hc hw hd hd4 hr hl hq hm (by omega) ch 0 (by omega);rw[show i*ch+0=i*ch from rfl,show((0:Nat):Int)=0 from rfl] at h1;rw[show k+(m+1)*(ch+2)+1=(k+m*(ch+2)+1+ch+1)+1 by rw[Nat.add_mul];omega,pcm_Put.l0,if_pos (by omega),hr,h1,w1,show i*ch+ch=(i+1)*ch by rw[Nat.add_mul,Nat.one_mul]];exact ih (i+1) (by omega)
theorem pput_f(k ch bi c w:Nat)(d:ByteArray)(rows:List (List Int))(hk:1000≤k)(hc:ch=1∨ch=2)(hb:bi=8∨bi=16)(hw:w=1∨w=2)(hw8:bi=8*w)(hfw:fsz ch bi=ch*w)(hm:d.size=c*fsz ch bi)(hd:d.size≤4096)(h1:1≤c)(hc64:c≤64)(hr:rows.length=ch)(hl:∀r∈rows,r.length=c)(hq:pcmAt d ch w rows (c*ch)):
  pcm_Put.f k rows (ch:Int) (bi:Int)=some (d,0):=by
 have hd2:d.size=c*ch*w:=by rw[hm,hfw,Nat.mul_assoc]
 have hf:=fsz_pos ch bi hc hb;have hcf:c*fsz ch bi≤4096:=by rw[←hm];exact hd
 have hcd:c≤4096 / fsz ch bi:=(Nat.le_div_iff_mul_le hf.1).2 hcf;have hch1:0<ch:=by clear hm hd2 hcf;omega
 have hml:∀j,j<ch→(VTwo.rd_L2 rows (j:Int)).length=c:=fun j hj=>hl _ (by
  show rows.getD j []∈rows;rw[gD_,gE_ (by rw[hr];exact hj)]
  exact List.getElem_mem _)
 have h00:(VTwo.rd_L2 rows 0).length=c:=hml 0 hch1;have hlast:=hml (ch - 1) (Nat.sub_lt hch1 Nat.one_pos);have h9:4096 / fsz ch bi≤4096:=Nat.div_le_self _ _;have hms:c*(ch+2)≤64*4:=Nat.mul_le_mul hc64 (by clear hm hd2 hcf;omega);have c4:c≤4096:=Nat.le_trans hc64 (by decide);have hput:=fun k=>pput_l0 k ch w c (128*256 ^ (w - 1)) d rows hc hw hd2 hd c4 hr hl hq rfl c 0 (Nat.zero_add _)
 rw[Nat.zero_mul,Nat.zero_mul,←hw8,show bytesOf (d.extract 0 0)=([]:List Int) by rw[ByteArray.extract_same];rfl] at hput;have c1:(0:Int)<(rows.length:Int):=by rw[hr];exact Int.ofNat_lt.2 hch1
 have c2:¬(((fsz ch bi:Nat):Int)=0):=by have:=hf.1;omega
 have c3:¬((c:Int)>((4096 / fsz ch bi:Nat):Int)):=Int.not_lt.2 (Int.ofNat_le.2 hcd);have c5:((ch - 1:Nat):Int)<(rows.length:Int):=by rw[hr];exact Int.ofNat_lt.2 (Nat.sub_lt hch1 Nat.one_pos)
 have c6:(0:Int)≤((bi - 1:Nat):Int):=Int.natCast_nonneg _;obtain⟨k,rfl⟩:∃j,k=(j+c*(ch+2)+1)+1:=⟨k - c*(ch+2) - 2,by clear hm hd2 hcf hcd;omega⟩;have hch2:ch≤2:=ch_le hc;have hb16:8≤bi∧bi≤16:=by rcases hb with rfl|rfl<;>decide
 clear hm hd2 hcf hcd hms hk hml;have w1:wrap64 ((ch:Int) - 1)=((ch - 1:Nat):Int):=by rw[wrap_id _ (by omega) (by omega)];omega
 have w4:wrap64 ((bi:Int) - 1)=((bi - 1:Nat):Int):=by rw[wrap_id _ (by clear w1;omega) (by clear w1;omega)];clear w1;omega
 have w2:wrap64 ((4096:Int) / ((fsz ch bi:Nat):Int))=((4096 / fsz ch bi:Nat):Int):=by
  have:(4096:Int) / ((fsz ch bi:Nat):Int)=((4096 / fsz ch bi:Nat):Int):=rfl;rw[this,wrap_id _ (by clear w1 w4;omega) (by clear w1 w4;omega)]
 have w3:shl .i64 1 ((bi - 1:Nat):Int)=((128*256 ^ (w - 1):Nat):Int):=by subst hw8;rcases hw with rfl|rfl<;>kernel_rfl
 have hne:(((c:Int) !=(c:Int)))=false:=by simp
 unfold pcm_Put.f;rw[mayf ch bi hc hb,bs_,if_pos rfl,if_pos (by rw[hr]),if_pos c1,pframe_f ch bi hc hb,bs_,if_neg c2,h00,w2,if_neg c3,w1,if_pos (Int.natCast_nonneg _),if_pos c5,hlast,hne,pcm_Put.j0,if_neg (by decide),w4,if_pos c6,if_pos c1,w3,h00];exact hput k
end Go.Proofs.YtfghldonnffldaaGreatDoor
namespace Go.Proofs.YtfghldonnffldaaGreatDoor
open Go.RowKit YtfghldonnffldaaGreatDoorW.PrintWords YtfghldonnffldaaGreatDoorW.PrintLast YtfghldonnffldaaGreatDoorW.PrintMore TBase
open UOne VTwo YFou HNin
theorem sideTurn_two(p:Int)(hp:p=1∨p= -1)(a c:List Int)(hl:c.length=a.length)(hn:a.length≤1000000)(ha:∀x∈a,csB x=true)(hc:∀x∈c,csB x=true)(hd:∀x∈sideT p c a,csB x=true):
  side_turn.f (2*a.length+5) [a,c] p=some ([a,sideT p c a],0):=by
 have ba:∀x∈a,-1000000≤x∧x≤1000000:=fun x hx=>by have:=csB_of (ha x hx);omega
 have bc:∀x∈c,-1000000≤x∧x≤1000000:=fun x hx=>by have:=csB_of (hc x hx);omega
 have m1:side_May.f [a,c]=some true:=by
  unfold side_May.f;show some (([a,c].all (sideRow a.length)) && _)=_;simp[sideRow_ok rfl ha,sideRow_ok hl hc]
 have m2:side_May.f [a,sideT p c a]=some true:=by
  unfold side_May.f;show some (([a,sideT p c a].all (sideRow a.length)) && _)=_;simp[sideRow_ok rfl ha,sideRow_ok (n:=a.length) (by rw[sideT_len hl];exact hl) hd]
 unfold side_turn.f;rw[m1,bs_,if_pos rfl,show 2*a.length+5=((a.length+(a.length+2)+1)+1)+1 by omega];unfold side_turn.l0;rw[if_pos (by simp),if_pos (by omega),if_pos (by simp),show UOne.rd_L1 [a,c] 0=a from rfl];unfold slices_Clone_int_int.f;rw[if_pos (by omega),bs_];have t1:=turn_l1 [a,c] p [] 0 [a,c] ([a,c].length:Int) 0 a a 0 (by rw[Int.zero_mul];exact wid64 0 (by omega) (by omega)) (by omega) (by simp) (by simp) rfl rfl ba ba hn (a.length+2+1) a.length 0 (by omega);rw[List.take_zero,List.nil_append,List.drop_zero,sideT_zero rfl] at t1;rw[show a.length+(a.length+2)+1+1=a.length+2+1+a.length+1 by omega];rw[show((0:Nat):Int)=0 from rfl] at t1;rw[t1];rw[show wrap64 (0+1)=1 from wid64 1 (by omega) (by omega)];unfold side_turn.l0;rw[if_pos (by simp),if_pos (by omega),if_pos (by simp),show UOne.rd_L1 [a,c] 1=c from rfl];unfold slices_Clone_int_int.f;rw[if_pos (by omega),bs_];have t2:=turn_l1 [a,c] p [a] 1 [a,c] ([a,c].length:Int) 1 c a p (by rw[Int.one_mul];exact wid64 p (by omega) (by omega)) (by omega) (by simp) (by simp) rfl hl bc ba (by omega) 1 c.length 0 (by omega);rw[List.take_zero,List.nil_append,List.drop_zero] at t2;rw[show a.length+2=1+c.length+1 by omega];rw[show((0:Nat):Int)=0 from rfl] at t2;rw[List.nil_append,t2,show wrap64 (1+1)=2 from wid64 2 (by omega) (by omega)];unfold side_turn.l0;rw[if_neg (by simp),show [a]++ [sideT p c a]= [a,sideT p c a] from rfl,m2,bs_,if_pos rfl]
theorem sideTurn_one(p:Int)(a:List Int)(hn:a.length≤1000000)(ha:∀x∈a,csB x=true):side_turn.f (a.length+4) [a] p=some ([a],0):=by
 have ba:∀x∈a,-1000000≤x∧x≤1000000:=fun x hx=>by have:=csB_of (ha x hx);omega
 have m1:side_May.f [a]=some true:=by
  unfold side_May.f;show some (([a].all (sideRow a.length)) && _)=_;simp[sideRow_ok rfl ha]
 unfold side_turn.f;rw[m1,bs_,if_pos rfl,show a.length+4=((2+a.length)+1)+1 by omega];unfold side_turn.l0;rw[if_pos (by simp),if_pos (by omega),if_pos (by simp),show UOne.rd_L1 [a] 0=a from rfl];unfold slices_Clone_int_int.f;rw[if_pos (by omega),bs_];have t1:=turn_l1 [a] p [] 0 [a] ([a].length:Int) 0 a a 0 (by rw[Int.zero_mul];exact wid64 0 (by omega) (by omega)) (by omega) (by simp) (by simp) rfl rfl ba ba hn 2 a.length 0 (by omega);rw[List.take_zero,List.nil_append,List.drop_zero,sideT_zero rfl] at t1;rw[show((0:Nat):Int)=0 from rfl] at t1;rw[t1,show wrap64 (0+1)=1 from wid64 1 (by omega) (by omega)];unfold side_turn.l0;rw[if_neg (by simp),List.nil_append,m1,bs_,if_pos rfl]
theorem turn_up{k K:Nat}{l:List (List Int)}{p:Int}{r:List (List Int)×Int}(h:side_turn.f k l p=some r)(hk:k≤K):side_turn.f K l p=some r:=by
 obtain⟨d,rfl⟩:=Nat.exists_eq_add_of_le hk;exact leO_le (fun k=>side_turn.f k l p) (fun k=>side_turn.mono _ _ k) d k _ h
theorem sideT_back{c a:List Int}(hl:c.length=a.length):sideT 1 (sideT (-1) c a) a=c:=by
 apply List.ext_getElem (by rw[sideT_len (by rw[sideT_len hl];exact hl),sideT_len hl]);intro i h1 h2;have hi:i<(sideT (-1) c a).length:=by rw[sideT_len hl];exact h2
 refine(List.getElem_zipWith (h:=h1)).trans ?_;have e:(sideT (-1) c a)[i]'hi=c[i]+ -1*a[i]'(by omega):=List.getElem_zipWith (h:=hi);rw[e];omega
theorem cs_all{l:List Int}(h:∀x∈l,smp x):∀x∈l,csB x=true:=fun x hx=>smp_cs (h x hx)
theorem div_smp{x:Int}(k:Nat)(h:smp x):smp (x / (2 ^ k:Nat)):=by
 have hp:(1:Int)≤((2 ^ k:Nat):Int):=Int.ofNat_le.2 Nat.one_le_two_pow;obtain⟨p,hpe⟩:∃p:Int,((2 ^ k:Nat):Int)=p:=⟨_,rfl⟩;rw[hpe] at hp ⊢;unfold smp at h ⊢
 rcases Int.lt_or_le x 0 with h0|h0
 ·have h1:x≤x / p:=Int.le_ediv_of_mul_le (by omega) (by
   have:=Int.mul_le_mul_of_nonpos_left (a:=x) (b:=p) (c:=1) (by omega) hp
   omega)
  have h2:x / p<0:=Int.ediv_neg_of_neg_of_pos h0 (by omega);omega
 ·have h1:0≤x / p:=Int.ediv_nonneg h0 (by omega);have h2:x / p≤x:=Int.ediv_le_self _ h0;omega
theorem downL_smp(k:Nat)(l:List Int)(h:∀x∈l,smp x):∀x∈downL k l,smp x:=by
 intro x hx;unfold downL at hx;obtain⟨y,hy,rfl⟩:=List.mem_map.1 hx;exact div_smp k (h y hy)
theorem wz0(n:Int):wrap64 (0*n)=0:=by rw[Int.zero_mul];exact wid64 0 (by omega) (by omega)
theorem wz1(n:Nat)(h:n≤64):wrap64 (1*(n:Int))=(n:Int):=by rw[Int.one_mul];exact wid64 _ (by omega) (by omega)
theorem wz2(n:Nat)(h:n≤64):wrap64 (2*(n:Int))=((n+n:Nat):Int):=by rw[wid64 _ (by omega) (by omega)];omega
theorem wy1(n:Nat)(h:n≤64):wrap64 ((n:Int)*1)=(n:Int):=by rw[Int.mul_one];exact wid64 _ (by omega) (by omega)
theorem wy2(n:Nat)(h:n≤64):wrap64 ((n:Int)*2)=((n+n:Nat):Int):=by rw[wid64 _ (by omega) (by omega)];omega
theorem w01:wrap64 (0+1)=1:=wid64 1 (by omega) (by omega)
theorem w12:wrap64 (1+1)=2:=wid64 2 (by omega) (by omega)
theorem wsu(i:Nat)(h:i≤4096):wrap64 ((i:Int)+1)=((i+1:Nat):Int):=by rw[wid64 _ (by omega) (by omega)];omega
theorem shl_back(x:Int)(b:Nat)(hb:b≤15)(hx:smp x)(hd:x%(2 ^ b:Nat)=0):shl .i64 (x / (2 ^ b:Nat)) (b:Int)=x:=by
 unfold shl;rw[nC_,Nat.min_eq_left (by show b≤64;omega)]
 have e:(x / (2 ^ b:Nat))*2 ^ b=x:=by
  have h1:=Int.ediv_mul_cancel (Int.dvd_of_emod_eq_zero hd)
  rwa [Int.natCast_pow] at h1 ⊢
 rw[e,IntKind.wrap_i64];have:=hx.1;have:=hx.2;omega
theorem up_l0(b:Nat)(a:List Int)(hb:b≤15)(hl:a.length≤4096)(h:∀x∈a,smp x)(hd:∀x∈a,x%(2 ^ b:Nat)=0)(k:Nat):
  ∀m i,i+m=a.length→shift_Up.l0 (k+m+1) (b:Int) (a.take i++(downL b a).drop i) (a.length:Int) (i:Int)=some (a,0):=by
 have hdl:(downL b a).length=a.length:=downL_len b a;intro m
 induction m with
 |zero=>
  intro i hi;obtain rfl:i=a.length:=hi
  have hmay:shift_may.f a (b:Int)=some true:=by
   unfold shift_may.f;rw[not_odd (cs_all h),dt_ (Int.natCast_nonneg b),dt_ (show(b:Int)≤15 by omega)];rfl
  rw[show k+0+1=k+1 from rfl,shift_Up.l0,if_neg (Int.lt_irrefl _),List.take_length,List.drop_of_length_le (by rw[hdl];exact Nat.le_refl _),List.append_nil,hmay,bs_,if_pos rfl]
 |succ m ih=>
  intro i hi;have h1:i<a.length:=by omega
  have hm:a[i]∈a:=List.getElem_mem h1;have e3:(a.take i++(downL b a).drop i).length=a.length:=by rw[List.length_append,List.length_take,List.length_drop,hdl];omega
  have e5:(downL b a).getD i 0=a[i] / (2 ^ b:Nat):=by
   unfold downL;rw[gD_,List.getElem?_map,gE_ h1];rfl
  have e6:a.getD i 0=a[i]:=by rw[gD_,gE_ h1];rfl
  rw[show k+(m+1)+1=(k+m+1)+1 from rfl,shift_Up.l0,if_pos (by omega),if_pos (Int.natCast_nonneg _),e3,if_pos (by omega),if_pos (Int.natCast_nonneg _),nC_,rd_mid i (by omega) (by omega),e5,shl_back _ b hb (h _ hm) (hd _ hm),←e6,set_mid (R:= []) i (by omega) h1 hdl,wsu i (by omega)];exact ih (i+1) (by omega)
theorem up_f(k b:Nat)(a:List Int)(hk:5000≤k)(hb:b≤15)(hl:a.length≤4096)(h:∀x∈a,smp x)(hd:∀x∈a,x%(2 ^ b:Nat)=0):shift_Up.f k (downL b a) (b:Int)=some (a,0):=by
 have hdl:(downL b a).length=a.length:=downL_len b a
 have hmay:shift_may.f (downL b a) (b:Int)=some true:=by
  unfold shift_may.f;rw[not_odd (cs_all (downL_smp b a h)),dt_ (Int.natCast_nonneg b),dt_ (show(b:Int)≤15 by omega)];rfl
 obtain⟨k,rfl⟩:∃j,k=j+a.length+1:=⟨k - a.length - 1,by omega⟩;have h0:=up_l0 b a hb hl h hd k a.length 0 (Nat.zero_add _);rw[List.take_zero,List.nil_append,List.drop_zero] at h0;unfold shift_Up.f slices_Clone_int_int.f;rw[hmay,bs_,if_pos rfl,if_pos (by omega),bs_,hdl];exact h0
theorem down_f(l:List Int)(k:Nat)(hk:k≤15)(hl:l.length≤4096)(h:∀x∈l,smp x)(hd:∀x∈l,x%(2 ^ k:Nat)=0):shift_Down.f l (k:Int)=some (downL k l,0):=by
 unfold shift_Down.f;rw[if_pos ⟨by omega,by omega,by omega,not_odd (cs_all h),List.all_eq_true.2 (fun x hx=>by rw[nC_,beq_iff_eq];exact hd x hx)⟩,nC_]
theorem mx00:mx 0 0=0:=by kernel_rfl
theorem coded_one(k b:Nat)(a:List Int)(hl:a.length≤64)(h:∀x∈a,csB x=true):segment_sound_coded.l1 (k+2) (b:Int) 0 ([]:List Int) [a] 1 0=some (resPut (lineP a),(b:Int),true):=by
 have hal:(lineP a).length=a.length:=turnL_len _ _ _ _ _;rw[show k+2=(k+1)+1 from rfl,segment_sound_coded.l1,if_pos (by decide),if_pos (by decide),if_pos (show(0:Int)<(([a]:List (List Int)).length:Int) from by simp),show YFou.rd_L2 [a] 0=a from rfl,linePut_f h (by omega),bs_];dsimp only;rw[if_pos (by rw[List.length_nil,hal];omega),mx00,List.nil_append,show wrap64 (0+1)=1 from wid64 1 (by omega) (by omega),segment_sound_coded.l1,if_neg (by decide),resPut_f (lineP_num h) (by omega),bs_];rfl
theorem coded_two(k b:Nat)(a c:List Int)(hl:a.length≤64)(hlc:c.length≤64)(h:∀x∈a,csB x=true)(hc:∀x∈c,csB x=true):segment_sound_coded.l1 (k+3) (b:Int) 0 ([]:List Int) [a,c] 2 0=some (resPut (lineP a++lineP c),(b:Int),true):=by
 have hal:(lineP a).length=a.length:=turnL_len _ _ _ _ _;have hcl:(lineP c).length=c.length:=turnL_len _ _ _ _ _;rw[show k+3=((k+1)+1)+1 from rfl,segment_sound_coded.l1,if_pos (by decide),if_pos (by decide),if_pos (show(0:Int)<(([a,c]:List (List Int)).length:Int) from by simp),show YFou.rd_L2 [a,c] 0=a from rfl,linePut_f h (by omega),bs_];dsimp only;rw[if_pos (by rw[List.length_nil,hal];omega),mx00,List.nil_append,show wrap64 (0+1)=1 from wid64 1 (by omega) (by omega),segment_sound_coded.l1,if_pos (by decide),if_pos (by decide),if_pos (show(1:Int)<(([a,c]:List (List Int)).length:Int) from by simp),show YFou.rd_L2 [a,c] 1=c from rfl,linePut_f hc (by omega),bs_];dsimp only;rw[if_pos (by rw[hal,hcl];omega),mx00,show wrap64 (1+1)=2 from wid64 2 (by omega) (by omega),segment_sound_coded.l1,if_neg (by decide),resPut_f (l:=lineP a++lineP c) (fun x hx=>(List.mem_append.1 hx).elim (lineP_num h x) (lineP_num hc x)) (by rw[List.length_append,hal,hcl];omega),bs_];rfl
theorem wasted_f(l:List (List Int))(h:∀r∈l,∀x∈r,smp x):segment_wasted.f l=some (wastedL l:Int):=by
 unfold segment_wasted.f;rw[if_pos (List.all_eq_true.2 (fun r hr=>by rw[not_odd (cs_all (h r hr))];rfl))]
theorem sideT_smp{a c:List Int}(ha:∀x∈a,smp x)(hc:∀x∈c,smp x):∀x∈sideT (-1) c a,csB x=true:=by
 intro x hx;unfold sideT at hx;obtain⟨i,hi,rfl⟩:=List.getElem_of_mem hx;rw[List.getElem_zipWith];have h1:=hc _ (List.getElem_mem (l:=c) (n:=i) (by rw[List.length_zipWith] at hi;omega));have h2:=ha _ (List.getElem_mem (l:=a) (n:=i) (by rw[List.length_zipWith] at hi;omega));unfold smp at h1 h2;exact dt_ ⟨by omega,by omega⟩
theorem l0_one(k b:Nat)(a:List Int)(hk:100≤k)(hb:b≤15)(hl:a.length≤64)(h:∀x∈a,smp x)(hd:∀x∈a,x%(2 ^ b:Nat)=0):segment_sound_coded.l0 (k+2) [a] (b:Int) 1 0=some (resPut (lineP (downL b a)),(b:Int),true):=by
 have h1:=downL_smp b a h;have e1:(downL b a).length=a.length:=downL_len b a;have hs:side_Put.f k [downL b a]=some ([downL b a],0):=by unfold side_Put.f;rw[turn_up (sideTurn_one (-1) (downL b a) (by omega) (cs_all h1)) (show(downL b a).length+4≤k by omega)];rfl
 obtain⟨j,rfl⟩:∃j,k=j+2:=⟨k - 2,by omega⟩;rw[show j+2+2=(j+2+1)+1 from rfl,segment_sound_coded.l0,if_pos (by decide),if_pos (by decide),if_pos (show(0:Int)<(([a]:List (List Int)).length:Int) from by simp),show YFou.rd_L2 [a] 0=a from rfl,down_f a b hb (by omega) h hd,bs_];dsimp only;rw[show wrap64 (0+1)=1 from wid64 1 (by omega) (by omega),show([a]:List (List Int)).set (0:Int).toNat (downL b a)= [downL b a] from rfl,segment_sound_coded.l0,if_neg (by decide),hs,bs_];exact coded_one j b (downL b a) (by omega) (cs_all h1)
theorem l0_two(k b:Nat)(a c:List Int)(hk:200≤k)(hb:b≤15)(hl:a.length≤64)(hlc:c.length=a.length)(h:∀x∈a,smp x)(hc:∀x∈c,smp x)(hd:∀x∈a,x%(2 ^ b:Nat)=0)(hdc:∀x∈c,x%(2 ^ b:Nat)=0):
  segment_sound_coded.l0 (k+3) [a,c] (b:Int) 2 0=some (resPut (lineP (downL b a)++lineP (sideT (-1) (downL b c) (downL b a))),(b:Int),true):=by
 have h1:=downL_smp b a h;have h2:=downL_smp b c hc;have e1:(downL b a).length=a.length:=downL_len b a;have e2:(downL b c).length=c.length:=downL_len b c;have h3:=sideT_smp h1 h2;have e3:(sideT (-1) (downL b c) (downL b a)).length=a.length:=by rw[sideT_len (by omega)];omega
 have hs:side_Put.f k [downL b a,downL b c]=some ([downL b a,sideT (-1) (downL b c) (downL b a)],0):=by unfold side_Put.f;rw[turn_up (sideTurn_two (-1) (.inr rfl) (downL b a) (downL b c) (by omega) (by omega) (cs_all h1) (cs_all h2) h3) (show 2*(downL b a).length+5≤k by omega)];rfl
 obtain⟨j,rfl⟩:∃j,k=j+3:=⟨k - 3,by omega⟩;rw[show j+3+3=((j+3+1)+1)+1 from rfl,segment_sound_coded.l0,if_pos (by decide),if_pos (by decide),if_pos (show(0:Int)<(([a,c]:List (List Int)).length:Int) from by simp),show YFou.rd_L2 [a,c] 0=a from rfl,down_f a b hb (by omega) h hd,bs_];dsimp only;rw[show wrap64 (0+1)=1 from wid64 1 (by omega) (by omega),show([a,c]:List (List Int)).set (0:Int).toNat (downL b a)= [downL b a,c] from rfl,segment_sound_coded.l0,if_pos (by decide),if_pos (by decide),if_pos (show(1:Int)<(([downL b a,c]:List (List Int)).length:Int) from by simp),show YFou.rd_L2 [downL b a,c] 1=c from rfl,down_f c b hb (by omega) hc hdc,bs_];dsimp only;rw[show wrap64 (1+1)=2 from wid64 2 (by omega) (by omega),show([downL b a,c]:List (List Int)).set (1:Int).toNat (downL b c)= [downL b a,downL b c] from rfl,segment_sound_coded.l0,if_neg (by decide),hs,bs_];exact coded_two j b (downL b a) (sideT (-1) (downL b c) (downL b a)) (by omega) (by omega) (cs_all h1) h3
theorem frames_one(k b:Nat)(a:List Int)(bi:Int)(d:ByteArray)(hk:6000≤k)(hb:b≤15)(hl:a.length≤64)(h:∀x∈a,smp x)(hd:∀x∈a,x%(2 ^ b:Nat)=0)(hp:∀K,1000≤K→pcm_Put.f K [a] 1 bi=some (d,0)):segment_frames.f (k+4) (resPut (lineP (downL b a))) 1 bi (b:Int) (a.length:Int)=some d:=by
 have h1:=cs_all (downL_smp b a h);have e1:(downL b a).length=a.length:=downL_len b a;have hal:(lineP (downL b a)).length=a.length:=(turnL_len _ _ _ _ _).trans e1;have hr:=residualGet_f (lineP (downL b a)) (by omega) (lineP_num h1);rw[hal] at hr
 have hsg:side_Get.f (k+2) [downL b a]=some ([downL b a],0):=by
  unfold side_Get.f;rw[turn_up (sideTurn_one 1 (downL b a) (by omega) h1) (show(downL b a).length+4≤k+2 by omega)];rfl
 unfold segment_frames.f;rw[wy1 _ hl,hr,bs_];dsimp only;rw[if_pos rfl,segment_frames.l0,if_pos (by decide),wz0,w01,wz1 _ hl,if_pos (by decide),if_pos (Int.natCast_nonneg _),if_pos (by rw[hal];exact Int.le_refl _),nC_,show((0:Int)).toNat=0 from rfl,List.drop_zero,List.take_of_length_le (Nat.le_of_eq hal),lineGet_f _ (by omega) h1,bs_];dsimp only;rw[if_pos (by decide),List.nil_append,segment_frames.l0,if_neg (by decide),hsg,bs_];dsimp only;rw[show(([downL b a]:List (List Int)).length:Int)=1 from rfl,segment_frames.l1,if_pos (by decide),if_pos (by decide),if_pos (show(0:Int)<(([downL b a]:List (List Int)).length:Int) from by simp),show HNin.rd_L1 [downL b a] 0=downL b a from rfl,up_f (k+1) b a (by omega) hb (by omega) h hd,bs_];dsimp only;rw[show([downL b a]:List (List Int)).set (0:Int).toNat a= [a] from rfl,show wrap64 (0+1)=1 from wid64 1 (by omega) (by omega),segment_frames.l1,if_neg (by decide),hp k (by omega),bs_]
theorem frames_two(k b:Nat)(a c:List Int)(bi:Int)(d:ByteArray)(hk:6000≤k)(hb:b≤15)(hl:a.length≤64)(hlc:c.length=a.length)(h:∀x∈a,smp x)(hc:∀x∈c,smp x)(hd:∀x∈a,x%(2 ^ b:Nat)=0)(hdc:∀x∈c,x%(2 ^ b:Nat)=0)(hp:∀K,1000≤K→pcm_Put.f K [a,c] 2 bi=some (d,0)):segment_frames.f (k+6) (resPut (lineP (downL b a)++lineP (sideT (-1) (downL b c) (downL b a)))) 2 bi (b:Int) (a.length:Int)=some d:=by
 have g1:=downL_smp b a h;have g2:=downL_smp b c hc;have h1:=cs_all g1;have e1:(downL b a).length=a.length:=downL_len b a;have e2:(downL b c).length=c.length:=downL_len b c;have h3:=sideT_smp g1 g2;have e3:(sideT (-1) (downL b c) (downL b a)).length=a.length:=by rw[sideT_len (by omega)];omega
 have hal:(lineP (downL b a)).length=a.length:=(turnL_len _ _ _ _ _).trans e1;have hsl:(lineP (sideT (-1) (downL b c) (downL b a))).length=a.length:=(turnL_len _ _ _ _ _).trans e3;have hr:=residualGet_f (lineP (downL b a)++lineP (sideT (-1) (downL b c) (downL b a))) (by rw[List.length_append];omega) (fun x hx=>(List.mem_append.1 hx).elim (lineP_num h1 x) (lineP_num h3 x));have hll:(lineP (downL b a)++lineP (sideT (-1) (downL b c) (downL b a))).length=a.length+a.length:=by rw[List.length_append,hal,hsl]
 rw[hll] at hr;have hbk:sideT 1 (sideT (-1) (downL b c) (downL b a)) (downL b a)=downL b c:=sideT_back (by omega)
 have hsg:side_Get.f (k+3) [downL b a,sideT (-1) (downL b c) (downL b a)]=some ([downL b a,downL b c],0):=by
  unfold side_Get.f;rw[turn_up (sideTurn_two 1 (.inl rfl) (downL b a) (sideT (-1) (downL b c) (downL b a)) (by omega) (by omega) h1 h3 (by rw[hbk];exact cs_all g2)) (show 2*(downL b a).length+5≤k+3 by omega),hbk];rfl
 unfold segment_frames.f;rw[wy2 _ hl,hr,bs_];dsimp only;rw[if_pos rfl,segment_frames.l0,if_pos (by decide),wz0,w01,wz1 _ hl,if_pos (by decide),if_pos (Int.natCast_nonneg _),if_pos (by rw[hll];omega),nC_,show((0:Int)).toNat=0 from rfl,List.drop_zero,List.take_append_of_le_length (Nat.le_of_eq hal.symm),List.take_of_length_le (Nat.le_of_eq hal),lineGet_f _ (by omega) h1,bs_];dsimp only;rw[if_pos (by decide),List.nil_append,segment_frames.l0,if_pos (by decide),wz1 _ hl,w12,wz2 _ hl,if_pos (Int.natCast_nonneg _),if_pos (by omega),if_pos (by rw[hll];exact Int.le_refl _),nC_,nC_,List.take_of_length_le (Nat.le_of_eq hll),List.drop_append_of_le_length (Nat.le_of_eq hal.symm),List.drop_of_length_le (Nat.le_of_eq hal),List.nil_append,lineGet_f _ (by omega) h3,bs_];dsimp only;rw[if_pos (by simp),segment_frames.l0,if_neg (by decide),show([downL b a]++ [sideT (-1) (downL b c) (downL b a)]:List (List Int))= [downL b a,sideT (-1) (downL b c) (downL b a)] from rfl,hsg,bs_];dsimp only;rw[show(([downL b a,downL b c]:List (List Int)).length:Int)=2 from rfl,segment_frames.l1,if_pos (by decide),if_pos (by decide),if_pos (show(0:Int)<(([downL b a,downL b c]:List (List Int)).length:Int) from by simp),show HNin.rd_L1 [downL b a,downL b c] 0=downL b a from rfl,up_f (k+2) b a (by omega) hb (by omega) h hd,bs_];dsimp only;rw[show([downL b a,downL b c]:List (List Int)).set (0:Int).toNat a= [a,downL b c] from rfl,w01,segment_frames.l1,if_pos (by decide),if_pos (by decide),if_pos (show(1:Int)<(([a,downL b c]:List (List Int)).length:Int) from by simp),show HNin.rd_L1 [a,downL b c] 1=downL b c from rfl,up_f (k+1) b c (by omega) hb (by omega) hc hdc,bs_];dsimp only;rw[show([a,downL b c]:List (List Int)).set (1:Int).toNat c= [a,c] from rfl,w12,segment_frames.l1,if_neg (by decide),hp k (by omega),bs_]
theorem two_list{α:Type}(l:List α)(h:l.length=2):∃a b,l= [a,b]:=by
 rcases l with _|⟨a,_|⟨b,l⟩⟩<;>simp at h
 subst h;exact⟨a,b,rfl⟩
theorem coded_f(k ch bi c:Nat)(d:ByteArray)(hk:6000≤k)(hc:ch=1∨ch=2)(hb:bi=8∨bi=16)(hm:d.size=c*fsz ch bi)(hd:d.size≤4096)(h1c:1≤c)(hc64:c≤64):∃own,∃b:Nat,b≤15∧segment_sound_coded.f k d (ch:Int) (bi:Int)=some (own,(b:Int),true)∧∀K,7000≤K→segment_frames.f K own (ch:Int) (bi:Int) (b:Int) (c:Int)=some d:=by
 obtain⟨rows,hr,h1,h2,h3,w,hw1,hw8,hfw,hq⟩:=pgetB_f k ch bi c d (Nat.le_trans (by decide) hk) hc hb hm hd;have hp:∀K,1000≤K→pcm_Put.f K rows (ch:Int) (bi:Int)=some (d,0):=fun K hK=>pput_f K ch bi c w d rows hK hc hb hw1 hw8 hfw hm hd h1c hc64 h1 h2 hq
 have hw:=wasted_f rows h3;have hdv:=wastedL_dvd rows;have hle:=wastedL_le rows;obtain⟨b,hbe⟩:∃b,wastedL rows=b:=⟨_,rfl⟩;rw[hbe] at hw hdv hle;obtain⟨k,rfl⟩:∃j,k=(j+200)+3:=⟨k - 203,by omega⟩;clear hbe hd hm hq hfw;unfold segment_sound_coded.f;rw[hr,bs_];dsimp only;rw[hw,bs_,h1]
 rcases hc with rfl|rfl
 ·obtain⟨a,rfl⟩:=List.length_eq_one_iff.1 h1;have m1:a∈ [a]:=List.mem_singleton.2 rfl;refine⟨_,b,hle,l0_one (k+200+1) b a (by omega) hle (by rw[h2 a m1];exact hc64) (h3 a m1) (hdv a m1),fun K hK=>?_⟩;obtain⟨K,rfl⟩:∃j,K=j+4:=⟨K - 4,by omega⟩;have:=frames_one K b a (bi:Int) d (by omega) hle (by rw[h2 a m1];exact hc64) (h3 a m1) (hdv a m1) hp;rw[h2 a m1] at this;exact this
 ·obtain⟨a,a2,rfl⟩:=two_list rows h1;have m1:a∈ [a,a2]:=List.mem_cons_self;have m2:a2∈ [a,a2]:=List.mem_cons_of_mem _ (List.mem_singleton.2 rfl);refine⟨_,b,hle,l0_two (k+200) b a a2 (by omega) hle (by rw[h2 a m1];exact hc64) (by rw[h2 a m1,h2 a2 m2]) (h3 a m1) (h3 a2 m2) (hdv a m1) (hdv a2 m2),fun K hK=>?_⟩;obtain⟨K,rfl⟩:∃j,K=j+6:=⟨K - 6,by omega⟩;have:=frames_two K b a a2 (bi:Int) d (by omega) hle (by rw[h2 a m1];exact hc64) (by rw[h2 a m1,h2 a2 m2]) (h3 a m1) (h3 a2 m2) (hdv a m1) (hdv a2 m2) hp;rw[h2 a m1] at this;exact this
theorem told_get(k kind b c ch bi:Nat)(own d:ByteArray)(hc:ch=1∨ch=2)(hb:bi=8∨bi=16)(h1:kind<256)(h2:b<256)(h3:c≤64)(hs:own.size≤4096)(ho:opened k (ch:Int) (bi:Int) (b:Nat) (kind:Nat) (c:Int) own=some d)(hp:segment_Put.f k d (ch:Int) (bi:Int)=some (told kind b c own,0)):
  segment_Get.f k (told kind b c own) (ch:Int) (bi:Int)=some (d,0):=by
 have h:=told_at kind b c own h1 h2 (by omega);have hz:=h.size;have e1:(told kind b c own).size - 9=own.size:=by omega
 have hp2:(256:Nat) ^ 2=65536:=by decide
 unfold segment_Get.f;rw[e1,h.body,if_pos ⟨by omega,by omega,mayf ch bi hc hb,by rw[h.b2];omega,by rw[h.sz];exact Le.fget 2 _ (by omega) (by omega) (by omega),by rw[h.sum];exact Le.fget 4 _ (by omega) (by omega) (Crc.sum_lt _)⟩,h.b0,h.b1,h.b2,ho,bs_,if_pos hp]
theorem constB_f(d:ByteArray)(ch bi c:Nat)(hc:ch=1∨ch=2)(hb:bi=8∨bi=16)(h1:1≤c)(hm:d.size=c*fsz ch bi)(hd:d.size≤4096):∃x,strings_Repeat.f (d.extract 0 (fsz ch bi)) (c:Int)=some x∧segment_sound_constant.f d (ch:Int) (bi:Int)=some (d.toList==x.toList):=by
 have hf:=fsz_pos ch bi hc hb;have hle:fsz ch bi≤d.size:=by rw[hm];exact Nat.le_mul_of_pos_left _ h1
 have hs:(d.extract 0 (fsz ch bi)).size=fsz ch bi:=by rw[ByteArray.size_extract];omega
 have hcm:fsz ch bi*c≤4096:=by rw[Nat.mul_comm,←hm];exact hd
 have hcb:c≤4096:=Nat.le_trans (Nat.le_mul_of_pos_left c hf.1) hcm
 have hrep:∃x,strings_Repeat.f (d.extract 0 (fsz ch bi)) (c:Int)=some x:=by
  unfold strings_Repeat.f;rw[hs,nC_,if_pos ⟨Int.natCast_nonneg _,by omega,by omega⟩];exact⟨_,rfl⟩
 obtain⟨x,hx⟩:=hrep;refine⟨x,hx,?_⟩;unfold segment_sound_constant.f;rw[frame_f _ ch bi hc hb,bs_,if_pos (Int.natCast_nonneg _),if_pos (Int.ofNat_le.2 hle),many_f _ ch bi c hc hb hm (Nat.le_trans hd (by decide)),bs_,nC_,hx,bs_]
theorem ne_nil{d:ByteArray}(h:1≤d.size):¬(d.toList=([]:List UInt8)):=by
 intro h2;have h3:d.toList.length=0:=by rw[h2];rfl
 rw[ByteArray.toList_eq,data_length] at h3;omega
theorem segAny(k ch bi c:Nat)(d:ByteArray)(hk:7000≤k)(hc:ch=1∨ch=2)(hb:bi=8∨bi=16)(h1:1≤c)(hc64:c≤64)(hm:d.size=c*fsz ch bi):∃s,segment_Put.f k d (ch:Int) (bi:Int)=some (s,0)∧9≤s.size∧s.size≤9+d.size∧segment_Get.f k s (ch:Int) (bi:Int)=some (d,0):=by
 have hf:=fsz_pos ch bi hc hb;have hle:fsz ch bi≤d.size:=by rw[hm];exact Nat.le_mul_of_pos_left _ h1
 have hle2:d.size≤64*fsz ch bi:=by rw[hm];exact Nat.mul_le_mul_right _ hc64
 have hle3:64*fsz ch bi≤64*4:=Nat.mul_le_mul_left _ hf.2;have hd:d.size≤4096:=by omega
 have hd1:1≤d.size:=by omega
 obtain⟨rows,hr,-⟩:=pgetB_f k ch bi c d (Nat.le_trans (by decide) hk) hc hb hm hd;obtain⟨x,hxr,ht⟩:=constB_f d ch bi c hc hb h1 hm hd;have hmany:=many_f d ch bi c hc hb hm (Nat.le_trans hd (by decide));have hframe:=frame_f d ch bi hc hb;have w1:wrap64 (64*((fsz ch bi:Nat):Int))=((64*fsz ch bi:Nat):Int):=wrap_id _ (by omega) (by omega);have c1:¬(decide ((d.size:Int)>((64*fsz ch bi:Nat):Int))=true):=by rw[decide_eq_true_iff];omega
 have hkk:=hk;obtain⟨k,rfl⟩:∃j,k=(j+1)+1:=⟨k - 2,by omega⟩
 have hex:∃s,segment_Put.j0 (k+1+1) d false (ch:Int) (bi:Int)=some (s,0)∧9≤s.size∧s.size≤9+d.size∧∃kind b own,kind<256∧b<256∧own.size≤4096∧s=told kind b c own∧opened (k+1+1) (ch:Int) (bi:Int) (b:Nat) (kind:Nat) (c:Int) own=some d:=by
  rw[segment_Put.j0,if_neg (by decide),ht,bs_];generalize hdx:(d.toList==x.toList)=t
  cases t with
  |true=>
   obtain rfl:d=x:=by
    have e:=eq_of_beq hdx;rw[ByteArray.toList_eq,ByteArray.toList_eq] at e;exact ByteArray.ext (Array.toList_inj.1 e)
   have hx:(d.extract 0 (fsz ch bi)).size=fsz ch bi:=by rw[ByteArray.size_extract];omega
   refine⟨told 2 0 c (d.extract 0 (fsz ch bi)),?_,by rw[told_size];omega,by rw[told_size,hx];omega,2,0,_,by decide,by decide,by rw[hx];omega,rfl,by unfold opened;rw[if_neg (by decide),if_pos (by decide)];exact hxr⟩;rw[if_pos rfl,hmany,bs_,hframe,bs_,if_pos (Int.natCast_nonneg _),if_pos (Int.ofNat_le.2 hle),nC_];rw[show segment_told.f (k+1) 2 0 (c:Int) (d.extract 0 (fsz ch bi))=some (told 2 0 c (d.extract 0 (fsz ch bi))) from told_f (k+1) 2 0 c _ (by omega) (by decide) (by decide) (by omega) (by rw[hx];omega),bs_]
  |false=>
   obtain⟨own,b,hbb,hcd,hback⟩:=coded_f (k+1) ch bi c d (by omega) hc hb hm hd h1 hc64;rw[if_neg (by decide),hcd,bs_];dsimp only;rw[if_pos rfl]
   by_cases hlt:own.size<d.size
   ·refine⟨told 1 b c own,?_,by rw[told_size];omega,by rw[told_size];omega,1,b,own,by decide,by omega,by omega,rfl,by unfold opened;rw[if_pos (by decide)];exact hback _ hkk⟩;rw[dt_ (Int.ofNat_lt.2 hlt),segment_Put.j1,if_pos rfl,hmany,bs_];rw[show segment_told.f k 1 (b:Int) (c:Int) own=some (told 1 b c own) from told_f k 1 b c own (by omega) (by decide) (by omega) (by omega) (by omega),bs_]
   ·refine⟨told 0 0 c d,?_,by rw[told_size];omega,by rw[told_size];omega,0,0,d,by decide,by decide,hd,rfl,by unfold opened;rw[if_neg (by decide),if_neg (by decide)]⟩;rw[df_ (show ¬((own.size:Int)<(d.size:Int)) by omega),segment_Put.j1,if_neg (by decide),hmany,bs_];rw[show segment_told.f k 0 0 (c:Int) d=some (told 0 0 c d) from told_f k 0 0 c d (by omega) (by decide) (by decide) (by omega) (by omega),bs_]
 obtain⟨s,hs1,hs2,hs3,kind,b,own,k1,k2,k3,rfl,hop⟩:=hex
 have hput:segment_Put.f (k+1+1) d (ch:Int) (bi:Int)=some (told kind b c own,0):=by
  unfold segment_Put.f;rw[hr,bs_];dsimp only;rw[if_pos rfl,if_neg (ne_nil hd1),pframe_f ch bi hc hb,bs_,w1,eq_false_of_ne_true c1];exact hs1
 exact⟨_,hput,hs2,hs3,told_get _ kind b c ch bi own d hc hb k1 k2 hc64 k3 hop hput⟩
end Go.Proofs.YtfghldonnffldaaGreatDoor
namespace Go.Proofs.YtfghldonnffldaaGreatDoor
open Go.RowKit YtfghldonnffldaaGreatDoorW.PrintWords YtfghldonnffldaaGreatDoorW.PrintLast YtfghldonnffldaaGreatDoorW.PrintMore TBase
end Go.Proofs.YtfghldonnffldaaGreatDoor
namespace Go.Proofs.YtfghldonnffldaaGreatDoor
open Go.RowKit YtfghldonnffldaaGreatDoorW.PrintWords YtfghldonnffldaaGreatDoorW.PrintLast YtfghldonnffldaaGreatDoorW.PrintMore TBase
open UOne VTwo YFou ZFiv QSix ESev
open Classical in
noncomputable def segOf(ch bi:Nat)(x:ByteArray):ByteArray:=if h:∃s,∃k,segment_Put.f k x (ch:Int) (bi:Int)=some (s,0) then Classical.choose h else ByteArray.empty
theorem segOf_f(k ch bi c:Nat)(d:ByteArray)(hk:7000≤k)(hc:ch=1∨ch=2)(hb:bi=8∨bi=16)(h1:1≤c)(hc64:c≤64)(hm:d.size=c*fsz ch bi):segment_Put.f k d (ch:Int) (bi:Int)=some (segOf ch bi d,0)∧9≤(segOf ch bi d).size∧(segOf ch bi d).size≤9+d.size∧segment_Get.f k (segOf ch bi d) (ch:Int) (bi:Int)=some (d,0):=by
 obtain⟨s,hs,h2,h3,h4⟩:=segAny k ch bi c d hk hc hb h1 hc64 hm;have hx:∃s,∃k,segment_Put.f k d (ch:Int) (bi:Int)=some (s,0):=⟨s,k,hs⟩
 have e:segOf ch bi d=s:=by
  unfold segOf;rw[dif_pos hx];obtain⟨k',hk'⟩:=Classical.choose_spec hx;have:=leO_same (fun k=>segment_Put.f k d (ch:Int) (bi:Int)) (fun k=>segment_Put.mono _ _ _ k) hk' hs;exact(Prod.mk.inj this).1
 rw[e];exact⟨hs,h2,h3,h4⟩
def cnt(m ks i:Nat):Nat:=min ks (m - i*ks)
def chunk(d:ByteArray)(f ks m i:Nat):ByteArray:=d.extract (i*ks*f) (min (i*ks*f+ks*f) (m*f))
noncomputable def segsG(ch bi ks m:Nat)(d:ByteArray)(j:Nat):List ByteArray:=(List.range j).map fun i=>segOf ch bi (chunk d (fsz ch bi) ks m i)
theorem segsG_len(ch bi ks m:Nat)(d:ByteArray)(j:Nat):(segsG ch bi ks m d j).length=j:=by unfold segsG;rw[List.length_map,List.length_range]
theorem segsG_succ(ch bi ks m:Nat)(d:ByteArray)(j:Nat):segsG ch bi ks m d (j+1)=segsG ch bi ks m d j++ [segOf ch bi (chunk d (fsz ch bi) ks m j)]:=by unfold segsG;rw[List.range_succ,List.map_append];rfl
theorem segsG_at(ch bi ks m:Nat)(d:ByteArray)(j i:Nat)(h:i<j):(segsG ch bi ks m d j).getD i ByteArray.empty=segOf ch bi (chunk d (fsz ch bi) ks m i):=by
 rw[gD_,gE_ (by rw[segsG_len];exact h)];unfold segsG;simp
def nseg(m ks:Nat):Nat:=(m+ks - 1) / ks
theorem nseg_lt(m ks i:Nat)(hk:1≤ks):i<nseg m ks↔i*ks<m:=by
 unfold nseg;rw[Nat.lt_iff_add_one_le,Nat.le_div_iff_mul_le (by omega),Nat.add_mul,Nat.one_mul];omega
theorem nseg_le(m ks:Nat)(hk:1≤ks):nseg m ks≤m:=by
 rcases Nat.lt_or_ge m (nseg m ks) with h|h
 ·exfalso;have:=(nseg_lt m ks m hk).1 h;have h2:m*1≤m*ks:=Nat.mul_le_mul_left m hk;omega
 ·exact h
theorem nseg_all(m ks:Nat)(hk:1≤ks):m≤nseg m ks*ks:=by
 rcases Nat.lt_or_ge (nseg m ks*ks) m with h|h
 ·exact absurd ((nseg_lt m ks _ hk).2 h) (Nat.lt_irrefl _)
 ·exact h
theorem nseg_up(m ks:Nat)(hk:1≤ks):nseg m ks*ks<m+ks:=by
 unfold nseg;have:=Nat.div_mul_le_self (m+ks - 1) ks;omega
theorem nseg_mono(m m' ks:Nat)(h:m≤m'):nseg m ks≤nseg m' ks:=Nat.div_le_div_right (by omega)
theorem many_nat(m ks:Nat)(hk:1≤ks)(hm:m≤100000)(hks:ks≤100000):wrap64 (Int.tdiv (wrap64 ((wrap64 ((m:Int)+(ks:Int))) - 1)) (ks:Int))=(nseg m ks:Int):=by
 have w1:wrap64 ((m:Int)+(ks:Int))=((m+ks:Nat):Int):=wrap_id _ (by omega) (by omega);have w2:wrap64 (((m+ks:Nat):Int) - 1)=((m+ks - 1:Nat):Int):=by rw[wrap_id _ (by omega) (by omega)];omega
 have w3:Int.tdiv ((m+ks - 1:Nat):Int) (ks:Int)=(nseg m ks:Int):=rfl;have hle:=nseg_le m ks hk;rw[w1,w2,w3];exact wrap_id _ (by omega) (by omega)
theorem smany_f(m ks:Nat)(hk:1≤ks)(hm:m≤100000)(hks:ks≤100000):stream_Many.f (m:Int) (ks:Int)=some (nseg m ks:Int):=by
 unfold stream_Many.f;rw[if_neg (by omega),many_nat m ks hk hm hks]
theorem cnt_bd(m ks i:Nat)(h:i*ks<m)(hk:1≤ks):1≤cnt m ks i∧cnt m ks i≤ks:=by unfold cnt;omega
theorem chunk_size(d:ByteArray)(f ks m i:Nat)(hd:d.size=m*f)(h:i*ks<m):(chunk d f ks m i).size=cnt m ks i*f:=by
 have h0:i*ks*f≤m*f:=Nat.mul_le_mul_right f (Nat.le_of_lt h)
 have hcnt:min (i*ks*f+ks*f) (m*f) - i*ks*f=cnt m ks i*f:=by
  unfold cnt;rw[←Nat.add_mul,Nat.mul_min_mul_right,←Nat.sub_mul]
  congr 1
  omega
 unfold chunk;rw[ByteArray.size_extract,hd,←hcnt];omega
theorem seg_at(k ch bi ks m i:Nat)(d:ByteArray)(hk:7000≤k)(hc:ch=1∨ch=2)(hb:bi=8∨bi=16)(hks:ks≤64)(h1:1≤ks)(hd:d.size=m*fsz ch bi)(h:i*ks<m):
  segment_Put.f k (chunk d (fsz ch bi) ks m i) (ch:Int) (bi:Int)=some (segOf ch bi (chunk d (fsz ch bi) ks m i),0)∧9≤(segOf ch bi (chunk d (fsz ch bi) ks m i)).size∧(segOf ch bi (chunk d (fsz ch bi) ks m i)).size≤9+ks*fsz ch bi∧segment_Get.f k (segOf ch bi (chunk d (fsz ch bi) ks m i)) (ch:Int) (bi:Int)=some (chunk d (fsz ch bi) ks m i,0):=by
 have hb2:=cnt_bd m ks i h h1;have hz:=chunk_size d (fsz ch bi) ks m i hd h;have hs:=segOf_f k ch bi (cnt m ks i) (chunk d (fsz ch bi) ks m i) hk hc hb hb2.1 (Nat.le_trans hb2.2 hks) hz;have hle:cnt m ks i*fsz ch bi≤ks*fsz ch bi:=Nat.mul_le_mul_right _ hb2.2;rw[hz] at hs;exact⟨hs.1,hs.2.1,Nat.le_trans hs.2.2.1 (Nat.add_le_add_left hle 9),hs.2.2.2⟩
theorem enc_step(k ks f a c M:Nat)(ch bi m:Int)(hd d tl s:ByteArray)(L:List ByteArray)(hM:d.size=M)(ha:a<M)(hc:ks*f=c)(hMb:M≤4096)(hcb:c≤4096)(hL:L.length≤4096)
  (hs:segment_Put.f k (d.extract a (min (a+c) M)) ch bi=some (s,0)):
  file_Encode.l0 (k+1) (ks:Int) (f:Int) (a:Int) ch bi hd d tl ch bi (ks:Int) m hd tl L=file_Encode.l0 k (ks:Int) (f:Int) ((a+c:Nat):Int) ch bi hd d tl ch bi (ks:Int) m hd tl (L++ [s]):=by
 have w1:wrap64 ((ks:Int)*(f:Int))=(c:Int):=by rw[←Int.natCast_mul,hc];exact wrap_id _ (by omega) (by omega)
 have w2:wrap64 ((a:Int)+(c:Int))=((a+c:Nat):Int):=wrap_id _ (by omega) (by omega);have w3:mn ((a+c:Nat):Int) (M:Int)=((min (a+c) M:Nat):Int):=by clear w1 w2 hs;unfold mn;split<;>omega
 have c1:(a:Int)<(M:Int):=Int.ofNat_lt.2 ha;have c2:(0:Int)≤(a:Int):=Int.natCast_nonneg _;have c3:(a:Int)≤((min (a+c) M:Nat):Int):=by clear w1 w2 w3 hs;omega
 have c4:((min (a+c) M:Nat):Int)≤(M:Int):=by clear w1 w2 w3 hs;omega
 have c5:L.length<8796093022208:=Nat.lt_of_le_of_lt hL (by decide);rw[file_Encode.l0,hM,w1,w2,w3,if_pos c1,if_pos c2,if_pos c3,if_pos c4,nC_,nC_,hs,bs_,if_pos c5]
theorem enc_end(k ks f a:Nat)(ch bi m:Int)(hd d tl:ByteArray)(L:List ByteArray)(r:ByteArray)(ha:d.size≤a)(hput:stream_Put.f ch bi (ks:Int) m hd tl L=some (r,0)):
  file_Encode.l0 (k+1) (ks:Int) (f:Int) (a:Int) ch bi hd d tl ch bi (ks:Int) m hd tl L=some (r,0):=by
 rw[file_Encode.l0,if_neg (by omega),hput,bs_];rfl
theorem encG_l0(k ch bi ks m:Nat)(d hd tl r:ByteArray)(hc:ch=1∨ch=2)(hb:bi=8∨bi=16)(hk:1≤ks)(hks:ks≤64)(hd0:d.size=m*fsz ch bi)(hd4:d.size≤4096)(hkk:7000≤k)
  (hput:stream_Put.f (ch:Int) (bi:Int) (ks:Int) (m:Int) hd tl (segsG ch bi ks m d (nseg m ks))=some (r,0)):
  ∀e i,i+e=nseg m ks→file_Encode.l0 (k+e+1) (ks:Int) ((fsz ch bi:Nat):Int) ((i*ks*fsz ch bi:Nat):Int) (ch:Int) (bi:Int) hd d tl (ch:Int) (bi:Int) (ks:Int) (m:Int) hd tl (segsG ch bi ks m d i)=some (r,0):=by
 have hf:=fsz_pos ch bi hc hb;have hcle:ks*fsz ch bi≤64*4:=Nat.mul_le_mul hks hf.2;have hn:=nseg_le m ks hk;have hmm:m≤m*fsz ch bi:=Nat.le_mul_of_pos_right m hf.1;intro e
 induction e with
 |zero=>
  intro i hi;obtain rfl:i=nseg m ks:=hi;exact enc_end k ks _ _ _ _ _ _ _ _ _ _ (by rw[hd0];exact Nat.mul_le_mul_right _ (nseg_all m ks hk)) hput
 |succ e ih=>
  intro i hi;have hlt:i*ks<m:=(nseg_lt m ks i hk).1 (by omega);have ha:i*ks*fsz ch bi<m*fsz ch bi:=Nat.mul_lt_mul_of_pos_right hlt hf.1;have hnext:i*ks*fsz ch bi+ks*fsz ch bi=(i+1)*ks*fsz ch bi:=by rw[Nat.add_mul,Nat.one_mul,Nat.add_mul]
  have hp:=(seg_at (k+e+1) ch bi ks m i d (Nat.le_trans hkk (by omega)) hc hb hks hk hd0 hlt).1;have hLl:(segsG ch bi ks m d i).length≤4096:=by rw[segsG_len];omega
  rw[show k+(e+1)+1=(k+e+1)+1 from rfl,enc_step (k+e+1) ks (fsz ch bi) _ (ks*fsz ch bi) (m*fsz ch bi) _ _ _ _ _ _ (segOf ch bi (chunk d (fsz ch bi) ks m i)) _ hd0 ha rfl (hd0▸hd4) (Nat.le_trans hcle (by decide)) hLl hp,hnext,←segsG_succ];exact ih (i+1) (by omega)
theorem tot_unif(l:List ByteArray)(B:Nat)(h:∀s∈l,s.size≤B):tot l≤l.length*B:=by
 induction l with
 |nil=>simp[tot]
 |cons s r ih=>
  have h1:=h s List.mem_cons_self;have h2:=ih (fun x hx=>h x (List.mem_cons_of_mem _ hx));have e:tot (s::r)=s.size+tot r:=rfl;rw[e,List.length_cons,Nat.add_mul,Nat.one_mul];omega
structure Par(ch bi ks m:Nat)(hd d tl:ByteArray):Prop where
 hc:ch=1∨ch=2
 hb:bi=8∨bi=16
 hk:1≤ks
 hks:ks≤64
 hz:d.size=m*fsz ch bi
 h4:hd.size+d.size+tl.size≤4096
namespace Par
variable {ch bi ks m:Nat} {hd d tl:ByteArray}
theorem d4(P:Par ch bi ks m hd d tl):d.size≤4096:=by have:=P.h4;omega
theorem f1(P:Par ch bi ks m hd d tl):1≤fsz ch bi∧fsz ch bi≤4:=fsz_pos ch bi P.hc P.hb
theorem m4(P:Par ch bi ks m hd d tl):m≤4096:=Nat.le_trans (Nat.le_mul_of_pos_right m P.f1.1) (P.hz▸P.d4)
end Par
noncomputable def eL(ch bi ks m:Nat)(d:ByteArray):List ByteArray:=segsG ch bi ks m d (nseg m ks)
noncomputable def eS(ch bi ks m:Nat)(hd d tl:ByteArray):ByteArray:=sput ch bi ks m hd tl (eL ch bi ks m d)
theorem eL_len(ch bi ks m:Nat)(d:ByteArray):(eL ch bi ks m d).length=nseg m ks:=segsG_len _ _ _ _ _ _
namespace Par
variable {ch bi ks m:Nat} {hd d tl:ByteArray}
theorem sz(P:Par ch bi ks m hd d tl):∀x∈eL ch bi ks m d,9≤x.size∧x.size≤9+ks*fsz ch bi:=by
 intro x hx;unfold eL segsG at hx;obtain⟨i,hi,rfl⟩:=List.mem_map.1 hx;have h:=seg_at 7000 ch bi ks m i d (Nat.le_refl _) P.hc P.hb P.hks P.hk P.hz ((nseg_lt m ks i P.hk).1 (List.mem_range.1 hi));exact⟨h.2.1,h.2.2.1⟩
end Par
theorem szb_le(x a:Nat)(h1:9≤x)(h2:x≤9+a)(h3:a≤64*4):9≤x∧x≤65535:=by omega
theorem esize_lem(a b c x y q t nf:Nat)(h:x+y≤4096)(a1:a≤2)(a2:b≤2)(a3:c≤2)(hq:q≤4096)(ht:t≤9*q+nf)(hnf:nf≤4096+256):7+a+b+c+x+y+2*q+4+t≤65536:=by omega
theorem stream_small(ch bi ks m:Nat)(hd tl:ByteArray)(L:List ByteArray)(hh:headOk (ch:Int) (bi:Int) (ks:Int) (m:Int) hd tl)(hs:hd.size+tl.size≤4096)(hl:L.length=nseg m ks)(hk:1≤ks)(hks:ks≤64)(hm:m≤4096)(hx:∀x∈L,9≤x.size∧x.size≤9+ks*fsz ch bi)(hf:fsz ch bi≤4)(hmf:m*fsz ch bi≤4096):
  stream_Put.f (ch:Int) (bi:Int) (ks:Int) (m:Int) hd tl L=some (sput ch bi ks m hd tl L,0)∧∃p1 p2 p3 p5 q,StrOk (sput ch bi ks m hd tl L) ch bi ks m hd tl L p1 p2 p3 p5 q:=by
 have hn:=nseg_le m ks hk;have hmany:stream_Many.f (m:Int) (ks:Int)=some (L.length:Int):=by rw[hl];exact smany_f m ks hk (Nat.le_trans hm (by decide)) (Nat.le_trans hks (by decide))
 have hkf:ks*fsz ch bi≤64*4:=Nat.mul_le_mul hks hf;have hall:∀x∈L,szB x=true:=fun x h=>dt_ (szb_le _ _ (hx x h).1 (hx x h).2 hkf)
 have a1:=vb_len m;have a2:=vb_len hd.size;have a3:=vb_len tl.size;rw[strOfNums_size] at a1 a2 a3;have ht:=tot_unif L (9+ks*fsz ch bi) (fun s h=>(hx s h).2);rw[hl] at ht;have hup:=nseg_up m ks hk
 have hnf:nseg m ks*(ks*fsz ch bi)≤4096+256:=by
  rw[←Nat.mul_assoc];have e1:nseg m ks*ks*fsz ch bi≤(m+ks)*fsz ch bi:=Nat.mul_le_mul_right _ (Nat.le_of_lt hup);rw[Nat.add_mul] at e1;exact Nat.le_trans e1 (Nat.add_le_add hmf hkf)
 have ht2:tot L≤9*nseg m ks+nseg m ks*(ks*fsz ch bi):=by
  rw[Nat.mul_add,Nat.mul_comm (nseg m ks) 9] at ht;exact ht
 have h5:=sput_size ch bi ks m hd tl L;rw[sputL_len,hl] at h5
 have h6:(sput ch bi ks m hd tl L).size≤65536:=by
  rw[h5];exact esize_lem _ _ _ _ _ _ _ _ hs a1 a2 a3 (Nat.le_trans hn hm) ht2 hnf
 refine⟨?_,sput_ok ch bi ks m hd tl L hh hmany hall h6⟩;unfold stream_Put.f;rw[if_pos ⟨hh,hmany,by rw[hl];exact Nat.le_trans hn hm,List.all_eq_true.2 hall⟩];rfl
theorem ekform(k n:Nat)(h:15000≤k)(hn:n≤4096):∃j,k=(j+n+1)+1∧7000≤j:=⟨k - n - 2,by omega,by omega⟩
theorem eksL(ks:Nat)(h1:1≤ks)(h2:ks≤64):¬((ks:Int)<1)∧¬(decide ((ks:Int)>64)=true):=by
 rw[decide_eq_true_iff];omega
theorem efs0(f:Nat)(h:1≤f):¬((f:Int)=0):=by omega
theorem ewm(m:Nat)(h:m≤4096):wrap64 (m:Int)=(m:Int):=wrap_id _ (by omega) (by omega)
theorem w_mulE(i ks m:Nat)(h:i*ks<m)(hm:m≤4096):wrap64 ((i:Int)*(ks:Int))=((i*ks:Nat):Int):=by
 rw[←Int.natCast_mul];exact wrap_id _ (by omega) (by omega)
theorem w_subE(i ks m:Nat)(h:i*ks<m)(hm:m≤4096):wrap64 ((m:Int) - ((i*ks:Nat):Int))=((m - i*ks:Nat):Int):=by
 obtain⟨z,hz⟩:∃z,i*ks=z:=⟨_,rfl⟩;rw[hz] at h ⊢;rw[wrap_id _ (by omega) (by omega)];omega
theorem mn_E(m ks i:Nat):mn (ks:Int) ((m - i*ks:Nat):Int)=(cnt m ks i:Int):=by
 unfold cnt;generalize m - i*ks=x;unfold mn
 split<;>omega
theorem w_mulF(c f:Nat)(h:c*f≤64*4):wrap64 ((c:Int)*(f:Int))=((c*f:Nat):Int):=by
 rw[←Int.natCast_mul];exact wrap_id _ (by omega) (by omega)
theorem e_enc(k ch bi ks m:Nat)(w hd d tl:ByteArray)(P:Par ch bi ks m hd d tl)(hkk:15000≤k)(hp:wave_Parse.f k w=some ((ch:Int),(bi:Int),hd,d,tl,0)):file_Encode.f k w (ks:Int)=some (eS ch bi ks m hd d tl,0):=by
 have hf:=P.f1;have hm4:=P.m4;have h4:=P.h4
 have hh:headOk (ch:Int) (bi:Int) (ks:Int) (m:Int) hd tl:=by
  have h1:=P.hc;have h2:=P.hb;have h3:=P.hk;have h5:=P.hks;exact⟨by omega,by omega,by omega,by omega,by omega,by omega,by omega,by omega⟩
 have hput:=(stream_small ch bi ks m hd tl (eL ch bi ks m d) hh (by omega) (eL_len _ _ _ _ _) P.hk P.hks hm4 P.sz hf.2 (P.hz▸P.d4)).1;obtain⟨k,rfl,hk7⟩:=ekform k (nseg m ks) hkk (Nat.le_trans (nseg_le m ks P.hk) hm4);have e1:((d.size:Nat):Int) / ((fsz ch bi:Nat):Int)=(m:Int):=by rw[P.hz,←Int.natCast_ediv,Nat.mul_div_cancel _ hf.1]
 have c1:=(eksL ks P.hk P.hks).1;have c2:=(eksL ks P.hk P.hks).2;have c3:=efs0 _ hf.1;have w1:=ewm m hm4;have hl:=encG_l0 k ch bi ks m d hd tl (eS ch bi ks m hd d tl) P.hc P.hb P.hk P.hks P.hz P.d4 hk7 hput (nseg m ks) 0 (Nat.zero_add _);rw[Nat.zero_mul,Nat.zero_mul] at hl;unfold file_Encode.f;rw[hp,bs_];dsimp only;rw[if_pos rfl,if_neg c1,file_Encode.j0,if_neg c2,pframe_f ch bi P.hc P.hb,bs_,if_neg c3,e1,w1];exact hl
theorem Par.head{ch bi ks m:Nat}{hd d tl:ByteArray}(P:Par ch bi ks m hd d tl):headOk (ch:Int) (bi:Int) (ks:Int) (m:Int) hd tl:=by
 have h1:=P.hc;have h2:=P.hb;have h3:=P.hk;have h4:=P.h4;have h5:=P.hks;have h6:=P.m4;exact⟨by omega,by omega,by omega,by omega,by omega,by omega,by omega,by omega⟩
theorem Par.ok{ch bi ks m:Nat}{hd d tl:ByteArray}(P:Par ch bi ks m hd d tl):∃p1 p2 p3 p5 q,StrOk (eS ch bi ks m hd d tl) ch bi ks m hd tl (eL ch bi ks m d) p1 p2 p3 p5 q:=
 (stream_small ch bi ks m hd tl (eL ch bi ks m d) P.head (by have:=P.h4;omega) (eL_len _ _ _ _ _) P.hk P.hks P.m4 P.sz P.f1.2 (P.hz▸P.d4)).2
theorem data_any(ch bi ks m i k:Nat)(hd tl:ByteArray)(L:List ByteArray)(x s:ByteArray)(hc:ch=1∨ch=2)(hb:bi=8∨bi=16)(hk:1≤ks)(hks:ks≤64)(hm:m≤4096)(hi:i*ks<m)(hL:i<L.length)(hs:L.getD i ByteArray.empty=s)(hg:segment_Get.f k s (ch:Int) (bi:Int)=some (x,0)):
  file_whole_data.f k (ch:Int) (bi:Int) (ks:Int) (m:Int) hd tl L (i:Int)=some (if x.size=cnt m ks i*fsz ch bi then(x,true) else((⟨#[]⟩:ByteArray),false)):=by
 have hcb:=cnt_bd m ks i hi hk;have hf:=fsz_pos ch bi hc hb;have hcf:cnt m ks i*fsz ch bi≤64*4:=Nat.mul_le_mul (Nat.le_trans hcb.2 hks) hf.2;have hrd:rdOf ByteArray.empty L (i:Int)=s:=by unfold rdOf;rw[nC_];exact hs
 unfold file_whole_data.f file_whole_frames.f;rw[if_pos (Int.natCast_nonneg _),if_pos (Int.ofNat_lt.2 hL),hrd,hg,bs_];dsimp only;rw[if_pos rfl,w_mulE i ks m hi hm,w_subE i ks m hi hm,mn_E,bs_,pframe_f ch bi hc hb,bs_,w_mulF _ _ hcf]
 by_cases h:x.size=cnt m ks i*fsz ch bi
 ·rw[if_pos (congrArg _ h),if_pos h]
 ·rw[if_neg (fun e=>h (by omega)),if_neg h]
def chunks(d:ByteArray)(f ks m:Nat):List ByteArray:=(List.range (nseg m ks)).map (chunk d f ks m)
theorem chunks_len(d:ByteArray)(f ks m:Nat):(chunks d f ks m).length=nseg m ks:=by unfold chunks;rw[List.length_map,List.length_range]
theorem chunks_at(d:ByteArray)(f ks m i:Nat)(h:i<nseg m ks):(chunks d f ks m).getD i ByteArray.empty=chunk d f ks m i:=by
 unfold chunks;rw[gD_,List.getElem?_map,List.getElem?_range h];rfl
theorem mono_mul{a b:Nat}(f:Nat)(h:a≤b):a*f≤b*f:=Nat.mul_le_mul_right f h
theorem flat_chunks(d:ByteArray)(f ks m a:Nat)(hd:d.size=m*f)(hk:1≤ks)(ha:a*ks≤m):
  ∀n,a+n≤nseg m ks→flat (((chunks d f ks m).drop a).take n)=(d.extract (a*ks*f) (min ((a+n)*ks*f) (m*f))).data.toList:=by
 intro n
 induction n with
 |zero=>
  intro _;rw[List.take_zero,Nat.add_zero,Nat.min_eq_left (mono_mul f ha),ByteArray.extract_same];rfl
 |succ n ih=>
  intro h;have hlt:(a+n)*ks<m:=(nseg_lt m ks (a+n) hk).1 (by omega);have hl:n<((chunks d f ks m).drop a).length:=by rw[List.length_drop,chunks_len];omega
  have hx:((chunks d f ks m).drop a)[n]'hl=chunk d f ks m (a+n):=by
   rw[List.getElem_drop,←chunks_at d f ks m (a+n) (by omega),gD_,gE_ (by rw[chunks_len];omega)];rfl
  have h1:(a+n)*ks*f≤m*f:=mono_mul f (Nat.le_of_lt hlt);have h2:(a+(n+1))*ks*f=(a+n)*ks*f+ks*f:=by rw[←Nat.add_assoc,Nat.add_mul (a+n),Nat.one_mul,Nat.add_mul]
  have h3:a*ks*f≤(a+n)*ks*f:=mono_mul f (mono_mul ks (Nat.le_add_right a n));rw[List.take_succ_eq_append_getElem hl,hx];unfold flat at ih ⊢;rw[List.map_append,List.flatten_append,ih (by omega),Nat.min_eq_left h1]
  have e:d.extract (a*ks*f) ((a+n)*ks*f)++chunk d f ks m (a+n)=d.extract (a*ks*f) (min ((a+(n+1))*ks*f) (m*f)):=by
   unfold chunk;rw[h2,ByteArray.extract_append_extract]
   congr 1<;>omega
  rw[←e,ByteArray.data_append,Array.toList_append];simp
def rangeOf(d:ByteArray)(f m:Nat)(a b:Int):ByteArray×Int:=if a<0∨b<a∨(m:Int)<b then(⟨#[]⟩,2501) else if a=b then(⟨#[]⟩,0) else(d.extract (a.toNat*f) (b.toNat*f),0)
theorem e_range(ch bi ks m:Nat)(hd d tl:ByteArray)(P:Par ch bi ks m hd d tl)(a b:Int)(w:World)(hT:Tabs w):
  Calls Tryz.prog 19 #[.string (eS ch bi ks m hd d tl),.int .i64 a,.int .i64 b] w fun e w'=>e= .returned (.tuple #[.string (rangeOf d (fsz ch bi) m a b).1,.int .i64 (rangeOf d (fsz ch bi) m a b).2])∧Below w.heap.size w w':=by
 obtain⟨p1,p2,p3,p5,q,ho⟩:=P.ok;unfold rangeOf
 by_cases h1:a<0∨b<a∨(m:Int)<b
 ·rw[if_pos h1];exact rangeE_calls _ ch bi ks m hd tl _ p1 p2 p3 p5 q a b w ho h1
 ·rw[if_neg h1];obtain⟨a,rfl⟩:=Int.eq_ofNat_of_zero_le (show 0≤a by omega);obtain⟨b,rfl⟩:=Int.eq_ofNat_of_zero_le (show 0≤b by omega)
  by_cases h2:(a:Int)=(b:Int)
  ·rw[if_pos h2];obtain rfl:a=b:=by omega
   exact rangeZ_calls _ ch bi ks m hd tl _ p1 p2 p3 p5 q a w ho (by omega)
  ·rw[if_neg h2,nC_,nC_];have hab:a<b:=by omega
   have hbm:b≤m:=by omega
   clear h1 h2;have hf:=P.f1;have hks:=P.hks;have hk:=P.hk;have hm:=P.m4;have hu:a / ks*ks≤a:=Nat.div_mul_le_self a ks;have hfe:a / ks<nseg b ks:=(nseg_lt b ks (a / ks) hk).2 (by omega);have hel:=nseg_mono b m ks hbm;have hall:=nseg_all b ks hk;have hflat:=flat_chunks d (fsz ch bi) ks m (a / ks) P.hz hk (by omega) (nseg b ks - a / ks) (by omega);rw[show a / ks+(nseg b ks - a / ks)=nseg b ks by omega] at hflat;have hbe:b*fsz ch bi≤min (nseg b ks*ks*fsz ch bi) (m*fsz ch bi):=Nat.le_min.2 ⟨mono_mul _ hall,mono_mul _ hbm⟩;have hue:a / ks*ks*fsz ch bi≤b*fsz ch bi:=mono_mul _ (by omega);have hmd:min (nseg b ks*ks*fsz ch bi) (m*fsz ch bi)≤d.size:=by rw[P.hz];exact Nat.min_le_right _ _
   have htd:tot (chunks d (fsz ch bi) ks m)≤4096*256:=by
    have h9:=tot_unif (chunks d (fsz ch bi) ks m) 256 (fun s hs=>by
     unfold chunks at hs;obtain⟨i,hi,rfl⟩:=List.mem_map.1 hs;have hlt:=(nseg_lt m ks i hk).1 (List.mem_range.1 hi);rw[chunk_size d _ ks m i P.hz hlt]
     exact Nat.mul_le_mul (Nat.le_trans (cnt_bd m ks i hlt hk).2 hks) hf.2)
    rw[chunks_len] at h9;exact Nat.le_trans h9 (mono_mul 256 (Nat.le_trans (nseg_le m ks hk) hm))
   have hlen:tot (((chunks d (fsz ch bi) ks m).drop (a / ks)).take (nseg b ks - a / ks))=min (nseg b ks*ks*fsz ch bi) (m*fsz ch bi) - a / ks*ks*fsz ch bi:=by
    rw[←flat_len,hflat,data_length,ByteArray.size_extract,Nat.min_eq_left hmd]
   have hR:=range_calls 7000 (eS ch bi ks m hd d tl) ch bi ks m hd tl (eL ch bi ks m d) (chunks d (fsz ch bi) ks m) p1 p2 p3 p5 q a b (a / ks) (nseg b ks) (fsz ch bi) w hT ho hab hbm rfl (fun i=>nseg_lt b ks i hk) (by rw[eL_len];exact hel) (Nat.le_of_lt hfe) (fun i _ hi=>by
     have hlt:i*ks<m:=Nat.lt_of_lt_of_le ((nseg_lt b ks i hk).1 hi) hbm;have hin:i<nseg m ks:=(nseg_lt m ks i hk).2 hlt;have hg:=(seg_at 7000 ch bi ks m i d (Nat.le_refl _) P.hc P.hb hks hk P.hz hlt).2.2.2
     rw[data_any ch bi ks m i 7000 hd tl (eL ch bi ks m d) (chunk d (fsz ch bi) ks m i) _ P.hc P.hb hk hks hm hlt (by rw[eL_len];exact hin) (segsG_at ch bi ks m d _ i hin) hg,if_pos (chunk_size d _ ks m i P.hz hlt),chunks_at _ _ _ _ _ hin]) (by rw[chunks_len,eL_len]) (Nat.le_trans htd (by decide)) (pframe_f ch bi P.hc P.hb) hf.2 (by
     rw[hlen,Nat.sub_mul]
     exact Nat.sub_le_sub_right hbe _)
   rw[hflat] at hR;have e1:(⟨(d.extract (a / ks*ks*fsz ch bi) (min (nseg b ks*ks*fsz ch bi) (m*fsz ch bi))).data.toList.toArray⟩:ByteArray)=d.extract (a / ks*ks*fsz ch bi) (min (nseg b ks*ks*fsz ch bi) (m*fsz ch bi)):=by rw[Array.toArray_toList]
   have e2:(d.extract (a / ks*ks*fsz ch bi) (min (nseg b ks*ks*fsz ch bi) (m*fsz ch bi))).extract ((a - a / ks*ks)*fsz ch bi) ((b - a / ks*ks)*fsz ch bi)=d.extract (a*fsz ch bi) (b*fsz ch bi):=by
    rw[ByteArray.extract_extract,Nat.sub_mul,Nat.sub_mul];have h7:a / ks*ks*fsz ch bi≤a*fsz ch bi:=mono_mul _ hu
    congr 1<;>omega
   rw[e1,e2] at hR;exact hR
end Go.Proofs.YtfghldonnffldaaGreatDoor
namespace Go.Proofs.YtfghldonnffldaaGreatDoor
open Go.RowKit YtfghldonnffldaaGreatDoorW.PrintWords YtfghldonnffldaaGreatDoorW.PrintLast YtfghldonnffldaaGreatDoorW.PrintMore TBase
open UOne VTwo YFou ZFiv
theorem fgetA(k:Nat)(hk:20≤k)(s:ByteArray)(h1:1≤s.size)(h4:s.size≤4):∃v:Nat,field_Get.f k s=some ((v:Int),0)∧v<256 ^ s.size:=by
 obtain⟨d,rfl⟩:=Nat.exists_eq_add_of_le hk;refine⟨Le.val (bytesOf s),leO_le (fun k=>field_Get.f k s) (fun k=>field_Get.mono _ k) d 20 _ (Le.get_f s h1 h4),?_⟩;have h:=Le.val_lt (bytesOf s) (Le.bytes_bd s)
 rwa [bytesOf_length] at h
theorem rsizeA(k a:Nat)(hk:20≤k)(s:ByteArray)(h:a+4≤s.size)(hs:s.size≤4096):∃v:Nat,riff_size.f k s (a:Int)=some (v:Int)∧v<4294967296:=by
 have w1:wrap64 ((a:Int)+4)=((a+4:Nat):Int):=wrap_id _ (by omega) (by omega);have hz:(s.extract a (a+4)).size=4:=by rw[ByteArray.size_extract];clear w1;omega
 obtain⟨v,hv,hb⟩:=fgetA k hk (s.extract a (a+4)) (by rw[hz];decide) (by rw[hz];decide);rw[hz] at hb;refine⟨v,?_,hb⟩;unfold riff_size.f;rw[w1,if_pos (Int.natCast_nonneg _),if_pos (by clear w1;omega),if_pos (by clear w1;omega),nC_,nC_,hv,bs_]
theorem wtwoA(k a:Nat)(hk:20≤k)(s:ByteArray)(h:a+2≤s.size)(hs:s.size≤4096):∃v:Nat,wave_two.f k s (a:Int)=some (v:Int)∧v<65536:=by
 have w1:wrap64 ((a:Int)+2)=((a+2:Nat):Int):=wrap_id _ (by omega) (by omega);have hz:(s.extract a (a+2)).size=2:=by rw[ByteArray.size_extract];clear w1;omega
 obtain⟨v,hv,hb⟩:=fgetA k hk (s.extract a (a+2)) (by rw[hz];decide) (by rw[hz];decide);rw[hz] at hb;refine⟨v,?_,hb⟩;unfold wave_two.f;rw[w1,if_pos (Int.natCast_nonneg _),if_pos (by clear w1;omega),if_pos (by clear w1;omega),nC_,nC_,hv,bs_]
def ChOk(s:ByteArray)(c:S116):Prop:=∃a z:Nat,c.f1=(a:Int)∧c.f2=(z:Int)∧a+z≤s.size
theorem chunksA_l0(k:Nat)(hk:20≤k)(s:ByteArray)(hs:s.size≤4096):∀n a x4,a≤s.size→s.size≤a+n→x4.length≤64→(∀c∈x4,ChOk s c)→
  ∃cs e,riff_Chunks.l0 (k+2*n+2) s x4 (a:Int)=some (cs,e)∧∀c∈cs,ChOk s c:=by
 intro n
 induction n with
 |zero=>
  intro a x4 ha hn hl hx;rw[riff_Chunks.l0,if_neg (by omega)];exact⟨_,_,rfl,hx⟩
 |succ n ih=>
  intro a x4 ha hn hl hx;rw[show k+2*(n+1)+2=(k+2*n+2+1)+1 by omega,riff_Chunks.l0]
  by_cases h1:(a:Int)<(s.size:Int)
  ·rw[if_pos h1]
   have hnone:∃cs e,riff_Chunks.j2 (k+2*n+2+1) s x4 (a:Int) true=some (cs,e)∧∀c∈cs,ChOk s c:=by
    rw[riff_Chunks.j2,if_pos rfl];exact⟨_,_,rfl,fun c hc=>by cases hc⟩
   by_cases h2:(x4.length:Int)=64
   ·rw[if_pos h2];exact hnone
   ·rw[if_neg h2];have w1:wrap64 ((s.size:Int) - (a:Int))=((s.size - a:Nat):Int):=by rw[wrap_id _ (by omega) (by omega)];omega
    rw[w1]
    by_cases h3:((s.size - a:Nat):Int)<8
    ·rw[dt_ h3];exact hnone
    ·rw[df_ h3,riff_Chunks.j2,if_neg (by decide)];clear w1 hnone;have h8:a+8≤s.size:=by omega
     obtain⟨v,hv,hvb⟩:=rsizeA (k+2*n+2) (a+4) (by omega) s (by omega) hs;have w2:wrap64 ((a:Int)+4)=((a+4:Nat):Int):=wrap_id _ (by omega) (by omega);have w3:wrap64 ((a:Int)+8)=((a+8:Nat):Int):=wrap_id _ (by clear w2;omega) (by clear w2;omega);have hm:Int.tmod (v:Int) 2=((v%2:Nat):Int):=rfl;have w4:wrap64 ((v:Int)+((v%2:Nat):Int))=((v+v%2:Nat):Int):=by rw[wrap_id _ (by clear w2 w3;omega) (by clear w2 w3;omega)];clear w2 w3;omega
     have w5:wrap64 ((s.size:Int) - ((a+8:Nat):Int))=((s.size - (a+8):Nat):Int):=by rw[wrap_id _ (by clear w2 w3 w4;omega) (by clear w2 w3 w4;omega)];clear w2 w3 w4;omega
     have c1:(a:Int)≤((a+4:Nat):Int):=by clear w2 w3 w4 w5;omega
     have c2:((a+4:Nat):Int)≤(s.size:Int):=by clear w2 w3 w4 w5;omega
     rw[if_pos (Int.natCast_nonneg _),w2,if_pos c1,if_pos c2,hv,bs_,hm,w4,w3,w5]
     by_cases h4:((v+v%2:Nat):Int)>((s.size - (a+8):Nat):Int)
     ·rw[if_pos h4];exact⟨_,_,rfl,fun c hc=>by cases hc⟩
     ·have hle:v+v%2≤s.size - (a+8):=by clear w2 w3 w4 w5;omega
      have hle2:a+8+(v+v%2)≤s.size:=by clear w2 w3 w4 w5 h4;omega
      have w6:wrap64 (((a+8:Nat):Int)+((v+v%2:Nat):Int))=((a+8+(v+v%2):Nat):Int):=by rw[wrap_id _ (by clear w2 w3 w4 w5 h4;omega) (by clear w2 w3 w4 w5 h4;omega)];clear w2 w3 w4 w5 h4;omega
      rw[if_neg h4,if_pos (show x4.length<4398046511104 from Nat.lt_of_le_of_lt hl (by decide)),w6];refine ih (a+8+(v+v%2)) _ hle2 (by clear w2 w3 w4 w5 w6 h4;omega) (by rw[List.length_append,List.length_singleton];clear w2 w3 w4 w5 w6 h4;omega) (fun c hc=>?_)
      rcases List.mem_append.1 hc with hc|hc
      ·exact hx c hc
      ·obtain rfl:=List.mem_singleton.1 hc;exact⟨a+8,v,rfl,rfl,by clear w2 w3 w4 w5 w6 h4;omega⟩
  ·rw[if_neg h1];exact⟨_,_,rfl,hx⟩
theorem chunksA(k:Nat)(hk:9000≤k)(s:ByteArray):∃cs e,riff_Chunks.f k s=some (cs,e)∧(e=0→s.size≤4096)∧∀c∈cs,ChOk s c:=by
 obtain⟨k,rfl⟩:∃j,k=j+1:=⟨k - 1,by omega⟩
 have hno:∃cs e,riff_Chunks.j0 (k+1) s true=some (cs,e)∧(e=0→s.size≤4096)∧∀c∈cs,ChOk s c:=by
  rw[riff_Chunks.j0,if_pos rfl];exact⟨_,_,rfl,fun h=>absurd h (by decide),fun c hc=>by cases hc⟩
 unfold riff_Chunks.f
 by_cases h1:(s.size:Int)>4096
 ·rw[if_pos h1];exact hno
 ·rw[if_neg h1];have hs:s.size≤4096:=by omega
  by_cases h2:(s.size:Int)<12
  ·rw[if_pos h2];exact hno
  ·rw[if_neg h2]
   have hp:∃t,strings_HasPrefix.f s (⟨#[82,73,70,70]⟩:ByteArray)=some t:=by
    have z4:(((⟨#[82,73,70,70]⟩:ByteArray).size:Nat):Int)=4:=rfl;unfold strings_HasPrefix.f stringslite_HasPrefix.f;rw[z4]
    repeat (first|rw[if_pos (by omega)]|rw[if_neg (by omega)])
    exact⟨_,rfl⟩
   obtain⟨t,ht⟩:=hp;rw[ht,bs_]
   cases t with
   |false=>rw[if_neg (by decide)];exact hno
   |true=>
    rw[if_pos rfl];obtain⟨v,hv,-⟩:=rsizeA (k+1) 4 (by omega) s (by omega) hs;rw[show((4:Nat):Int)=4 from rfl] at hv;rw[hv,bs_]
    by_cases h3:(v:Int)=wrap64 ((s.size:Int) - 8)
    ·rw[if_pos h3,if_pos (by decide),if_pos (by omega)];generalize ((s.extract 8 12).toList !=([87,65,86,69]:List UInt8))=t
     cases t with
     |true=>exact hno
     |false=>
      obtain⟨j,rfl⟩:∃j,k=(j+2*4096+2):=⟨k - 2*4096 - 2,by omega⟩;rw[riff_Chunks.j0,if_neg (by decide)];obtain⟨cs,e,h4,h5⟩:=chunksA_l0 j (by omega) s hs 4096 12 [] (by omega) (by omega) (by decide) (fun c hc=>by cases hc);exact⟨cs,e,h4,fun _=>hs,h5⟩
    ·rw[if_neg h3];exact hno
theorem may_cases{x y:Nat} :∃t,pcm_May.f (x:Int) (y:Int)=some t∧(t=true→(x=1∨x=2)∧(y=8∨y=16)):=by
 have key:∃t,(if(y:Int)=8 then some true else some ((y:Int)==16))=some t∧(t=true→y=8∨y=16):=by
  by_cases h:(y:Int)=8
  ·rw[if_pos h];exact⟨true,rfl,fun _=> .inl (by omega)⟩
  ·rw[if_neg h];exact⟨_,rfl,fun h2=> .inr (by have:=beq_iff_eq.1 h2;omega)⟩
 obtain⟨t,ht,hk⟩:=key;unfold pcm_May.f
 by_cases h1:(x:Int)=1
 ·rw[if_pos h1];exact⟨t,ht,fun h=>⟨.inl (by omega),hk h⟩⟩
 ·rw[if_neg h1]
  by_cases h2:(x:Int)=2
  ·rw[if_pos h2];exact⟨t,ht,fun h=>⟨.inr (by omega),hk h⟩⟩
  ·rw[if_neg h2];exact⟨false,rfl,fun h=>by cases h⟩
theorem formatA(k:Nat)(hk:20≤k)(s:ByteArray)(hs:s.size=16):∃(x y:Nat) (t:Bool),wave_format.f k s=some ((x:Int),(y:Int),t)∧(t=true→(x=1∨x=2)∧(y=8∨y=16)):=by
 obtain⟨x,hx,-⟩:=wtwoA k 2 hk s (by omega) (by omega);obtain⟨y,hy,-⟩:=wtwoA k 14 hk s (by omega) (by omega);obtain⟨z,hz,-⟩:=wtwoA k 0 hk s (by omega) (by omega);obtain⟨u,hu,-⟩:=wtwoA k 12 hk s (by omega) (by omega);obtain⟨t,ht,hm⟩:= @may_cases x y;unfold wave_format.f;rw[show((2:Nat):Int)=2 from rfl] at hx;rw[show((14:Nat):Int)=14 from rfl] at hy;rw[show((0:Nat):Int)=0 from rfl] at hz;rw[show((12:Nat):Int)=12 from rfl] at hu;rw[hx,bs_,hy,bs_,ht,bs_]
 cases t with
 |false=>
  rw[if_neg (by decide)];exact⟨x,y,false,rfl,fun h=>by cases h⟩
 |true=>
  rw[if_pos rfl,hz,bs_]
  by_cases h1:(z:Int)=1
  ·rw[if_pos h1,hu,bs_];unfold pcm_Frame.f;rw[bs_];exact⟨x,y,_,rfl,fun _=>hm rfl⟩
  ·rw[if_neg h1];exact⟨x,y,false,rfl,fun h=>by cases h⟩
theorem one_in{id:ByteArray}{l:List S116}{i:Int}{t:Bool}(h:wave_one.f l id=some (i,t))(ht:t=true):0≤i∧i<(l.length:Int):=by
 unfold wave_one.f at h;obtain⟨rfl,h2⟩:=Prod.mk.inj (Option.some.inj h);rw[ht,Bool.and_eq_true,decide_eq_true_iff] at h2;refine⟨h2.1,?_⟩;have h3:=h2.1;unfold idxI at h3 ⊢
 split at h3
 ·rename_i h4;rw[if_pos h4];omega
 ·exact absurd h3 (by decide)
theorem parseA(k:Nat)(hk:9100≤k)(s:ByteArray):wave_Parse.f k s=some (0,0,(⟨#[]⟩:ByteArray),(⟨#[]⟩:ByteArray),(⟨#[]⟩:ByteArray),2100)∨
  ∃(ch bi m:Nat) (hd d tl:ByteArray),wave_Parse.f k s=some ((ch:Int),(bi:Int),hd,d,tl,0)∧(ch=1∨ch=2)∧(bi=8∨bi=16)∧d.size=m*fsz ch bi∧hd.size+d.size+tl.size≤4096:=by
 obtain⟨cs,e,h1,h2,h3⟩:=chunksA k (by omega) s;obtain⟨i,ti,hi⟩:∃i t,wave_one.f cs (⟨#[102,109,116,32]⟩:ByteArray)=some (i,t):=⟨_,_,rfl⟩;obtain⟨j,tj,hj⟩:∃i t,wave_one.f cs (⟨#[100,97,116,97]⟩:ByteArray)=some (i,t):=⟨_,_,rfl⟩;obtain⟨k,rfl⟩:∃q,k=q+1:=⟨k - 1,by omega⟩;have hno:wave_Parse.j0 (k+1) s cs i j true=some (0,0,(⟨#[]⟩:ByteArray),(⟨#[]⟩:ByteArray),(⟨#[]⟩:ByteArray),2100):=by rw[wave_Parse.j0,if_pos rfl]
 unfold wave_Parse.f;rw[h1,bs_,hi,bs_,hj,bs_];dsimp only
 by_cases he:e=0
 ·rw[if_pos he];have hs:=h2 he
  cases ti with
  |false=>rw[if_neg (by decide)];exact .inl hno
  |true=>
   rw[if_pos rfl]
   cases tj with
   |false=>rw[if_neg (by decide)];exact .inl hno
   |true=>
    rw[if_pos rfl]
    by_cases hji:j<i
    ·rw[if_pos hji];exact .inl hno
    ·obtain⟨i0,i1⟩:=one_in hi rfl;obtain⟨j0,j1⟩:=one_in hj rfl;have hci:ChOk s (rd_T116 cs i):=h3 _ (by unfold rd_T116;rw[gD_,gE_ (by omega)];exact List.getElem_mem _);have hcj:ChOk s (rd_T116 cs j):=h3 _ (by unfold rd_T116;rw[gD_,gE_ (by omega)];exact List.getElem_mem _);obtain⟨a,z,a1,a2,a3⟩:=hci;obtain⟨p,q,p1,p2,p3⟩:=hcj;rw[if_neg hji,if_pos i0,if_pos i1,a2]
     by_cases hz:z=16
     ·subst hz;have w1:wrap64 ((a:Int)+16)=((a+16:Nat):Int):=wrap_id _ (by omega) (by omega);have w2:wrap64 ((p:Int)+(q:Int))=((p+q:Nat):Int):=by rw[wrap_id _ (by clear w1;omega) (by clear w1;omega)];clear w1;omega
      have c1:(a:Int)≤((a+16:Nat):Int):=by clear w1 w2;omega
      have c2:((a+16:Nat):Int)≤(s.size:Int):=by clear w1 w2;omega
      have c3:(p:Int)≤((p+q:Nat):Int):=by clear w1 w2;omega
      have c4:((p+q:Nat):Int)≤(s.size:Int):=by clear w1 w2;omega
      have c5:(p:Int)≤(s.size:Int):=by clear w1 w2;omega
      have hx16:(s.extract a (a+16)).size=16:=by rw[ByteArray.size_extract];clear w1 w2;omega
      have hxd:(s.extract p (p+q)).size=q:=by rw[ByteArray.size_extract];clear w1 w2;omega
      have hxh:(s.extract 0 p).size=p:=by rw[ByteArray.size_extract];clear w1 w2;omega
      have hxt:(s.extract (p+q) s.size).size=s.size - (p+q):=by rw[ByteArray.size_extract];clear w1 w2;omega
      obtain⟨x,y,t,hf,hm⟩:=formatA k (by clear w1 w2;omega) (s.extract a (a+16)) hx16;rw[show(((16:Nat):Int) !=16)=false from rfl,wave_Parse.j0,if_neg (by decide),if_pos i0,if_pos i1,a1,w1,p1,p2,w2,if_pos (Int.natCast_nonneg _),if_pos c1,if_pos c2,nC_,nC_,nC_,nC_,hf,bs_,if_pos j0,if_pos j1,if_pos (Int.natCast_nonneg _),if_pos c3,if_pos c4];dsimp only
      cases t with
      |false=>rw[if_neg (by decide)];exact .inl rfl
      |true=>
       obtain⟨hc,hb⟩:=hm rfl;rw[if_pos rfl,pframes_f x y hc hb,bs_]
       by_cases hmod:(s.extract p (p+q)).size%fsz x y=0
       ·rw[if_pos (dt_ hmod),if_pos c5,hxd,w2,if_pos (Int.natCast_nonneg _),if_pos c4,nC_];refine .inr ⟨x,y,q / fsz x y,_,_,_,rfl,hc,hb,?_,?_⟩
        ·rw[hxd] at hmod ⊢;exact(Nat.div_mul_cancel (Nat.dvd_of_mod_eq_zero hmod)).symm
        ·rw[hxd,hxh,hxt];clear w1 w2;omega
       ·rw[if_neg (by rw[df_ hmod];decide)];exact .inl rfl
     ·rw[show(((z:Nat):Int) !=16)=true from bne_iff_ne.2 (by omega)];exact .inl hno
 ·rw[if_neg he];exact .inl hno
end Go.Proofs.YtfghldonnffldaaGreatDoor
namespace Go.Proofs.YtfghldonnffldaaGreatDoor
open Go.RowKit YtfghldonnffldaaGreatDoorW.PrintWords YtfghldonnffldaaGreatDoorW.PrintLast YtfghldonnffldaaGreatDoorW.PrintMore TBase
open UOne VTwo YFou ZFiv QSix ESev
theorem num_calls(x:Int)(w:World):Calls Tryz.prog 12 #[.int .i64 x] w fun e w'=>e= .returned (.int .i64 x)∧Below w.heap.size w w':=by
 go_enter Tryz.func12,Tryz.ntmps12
 go_wp2;go_ret;exact⟨rfl,Below.refl _ _⟩
theorem size64(a:Int):∃x:Nat,1≤x∧x≤64∧wrap64 (1+(wrap64 (Int.tmod (IntKind.u64.wrap a) 64)))=(x:Int):=by
 have h0:0≤IntKind.u64.wrap a:=Int.emod_nonneg _ (by decide);have h1:=Int.tmod_nonneg (64:Int) h0;have h2:=Int.tmod_lt_of_pos (IntKind.u64.wrap a) (show(0:Int)<(64:Int) by decide);obtain⟨y,hy⟩:∃y,Int.tmod (IntKind.u64.wrap a) 64=y:=⟨_,rfl⟩;rw[hy] at h1 h2 ⊢;rw[wrap_id y (by omega) (by omega),wrap_id _ (by omega) (by omega)];exact⟨(1+y).toNat,by omega,by omega,by omega⟩
theorem sizes_bad(s:ByteArray)(a b f t:Int)(i j:Nat)(w:World)(hT:Tabs w)(hi:wrap64 (1+(wrap64 (Int.tmod (IntKind.u64.wrap a) 64)))=(i:Int))(hj:wrap64 (1+(wrap64 (Int.tmod (IntKind.u64.wrap b) 64)))=(j:Int))
  (E:∀(i:Int) W,Tabs W→Calls Tryz.prog 10 #[.string s,.int .i64 i] W fun e w'=>e= .returned (.tuple #[.string ⟨#[]⟩,.int .i64 2400])∧Below W.heap.size W w'):
  Calls Tryz.prog 5 #[.string s,.int .i64 a,.int .i64 b,.int .i64 f,.int .i64 t] w fun e w'=>e= .returned (.bool true)∧Below w.heap.size w w':=by
 have T0:=Z_ hT;have E0:=Z_ E;have YW:=Z_ (Below.refl w.heap.size w);clear hT E hi hj
 go_enter Tryz.func5,Tryz.ntmps5
 go_wp2_with fail
 refine(awake_calls _ (T0.out.below YW.out)).mono ?_;rintro e w1 ⟨rfl,hb⟩;have YW2:=Z_ (below_step YW.out hb);clear YW hb;have YW:=YW2;clear YW2
 go_wp2_with fail
 refine(E0.out _ _ (T0.out.below YW.out)).mono ?_;rintro e w1 ⟨rfl,hb⟩;have YW2:=Z_ (below_step YW.out hb);clear YW hb;have YW:=YW2;clear YW2
 go_wp2_with fail
 refine(E0.out _ _ (T0.out.below YW.out)).mono ?_;rintro e w1 ⟨rfl,hb⟩;have YW2:=Z_ (below_step YW.out hb);clear YW hb;have YW:=YW2;clear YW2
 go_wp2_with fail
 refine(num_calls 2400 _).mono ?_;rintro e w1 ⟨rfl,hb⟩;have YW2:=Z_ (below_step YW.out hb);clear YW hb;have YW:=YW2;clear YW2
 go_wp2_with fail
 refine(num_calls 2400 _).mono ?_;rintro e w1 ⟨rfl,hb⟩;have YW2:=Z_ (below_step YW.out hb);clear YW hb;have YW:=YW2;clear YW2
 go_wp2_with fail
 refine(num_calls 2400 _).mono ?_;rintro e w1 ⟨rfl,hb⟩;have YW2:=Z_ (below_step YW.out hb);clear YW hb;have YW:=YW2;clear YW2;go_wp2;go_ret;exact⟨rfl,YW.out⟩
theorem sizes_good(s x y r:ByteArray)(a b f t q:Int)(i j:Nat)(w:World)(hT:Tabs w)(hi:wrap64 (1+(wrap64 (Int.tmod (IntKind.u64.wrap a) 64)))=(i:Int))(hj:wrap64 (1+(wrap64 (Int.tmod (IntKind.u64.wrap b) 64)))=(j:Int))
  (E1:∀W,Tabs W→Calls Tryz.prog 10 #[.string s,.int .i64 (i:Int)] W fun e w'=>e= .returned (.tuple #[.string x,.int .i64 0])∧Below W.heap.size W w')
  (E2:∀W,Tabs W→Calls Tryz.prog 10 #[.string s,.int .i64 (j:Int)] W fun e w'=>e= .returned (.tuple #[.string y,.int .i64 0])∧Below W.heap.size W w')
  (R1:∀W,Tabs W→Calls Tryz.prog 19 #[.string x,.int .i64 f,.int .i64 t] W fun e w'=>e= .returned (.tuple #[.string r,.int .i64 q])∧Below W.heap.size W w')
  (R2:∀W,Tabs W→Calls Tryz.prog 19 #[.string y,.int .i64 f,.int .i64 t] W fun e w'=>e= .returned (.tuple #[.string r,.int .i64 q])∧Below W.heap.size W w'):
  Calls Tryz.prog 5 #[.string s,.int .i64 a,.int .i64 b,.int .i64 f,.int .i64 t] w fun e w'=>e= .returned (.bool true)∧Below w.heap.size w w':=by
 have T0:=Z_ hT;have E1_:=Z_ E1;have E2_:=Z_ E2;have R1_:=Z_ R1;have R2_:=Z_ R2;have HI:=Lib.hid hi;have HJ:=Lib.hid hj;have YW:=Z_ (Below.refl w.heap.size w);clear hT E1 E2 R1 R2 hi hj
 go_enter Tryz.func5,Tryz.ntmps5
 go_wp2_with fail
 refine(awake_calls _ (T0.out.below YW.out)).mono ?_;rintro e w1 ⟨rfl,hb⟩;have YW2:=Z_ (below_step YW.out hb);clear YW hb;have YW:=YW2;clear YW2
 go_wp2_with fail
 (try simp only[i64_w]);rw[HI.out];refine(E1_.out _ (T0.out.below YW.out)).mono ?_;rintro e w1 ⟨rfl,hb⟩;have YW2:=Z_ (below_step YW.out hb);clear YW hb;have YW:=YW2;clear YW2
 go_wp2_with fail
 (try simp only[i64_w]);rw[HJ.out];refine(E2_.out _ (T0.out.below YW.out)).mono ?_;rintro e w1 ⟨rfl,hb⟩;have YW2:=Z_ (below_step YW.out hb);clear YW hb;have YW:=YW2;clear YW2
 go_wp2_with fail
 refine(num_calls 0 _).mono ?_;rintro e w1 ⟨rfl,hb⟩;have YW2:=Z_ (below_step YW.out hb);clear YW hb;have YW:=YW2;clear YW2
 go_wp2_with fail
 refine(num_calls 0 _).mono ?_;rintro e w1 ⟨rfl,hb⟩;have YW2:=Z_ (below_step YW.out hb);clear YW hb;have YW:=YW2;clear YW2
 go_wp2_with fail
 refine(R1_.out _ (T0.out.below YW.out)).mono ?_;rintro e w1 ⟨rfl,hb⟩;have YW2:=Z_ (below_step YW.out hb);clear YW hb;have YW:=YW2;clear YW2
 go_wp2_with fail
 refine(R2_.out _ (T0.out.below YW.out)).mono ?_;rintro e w1 ⟨rfl,hb⟩;have YW2:=Z_ (below_step YW.out hb);clear YW hb;have YW:=YW2;clear YW2
 go_wp2_with fail
 refine(num_calls q _).mono ?_;rintro e w1 ⟨rfl,hb⟩;have YW2:=Z_ (below_step YW.out hb);clear YW hb;have YW:=YW2;clear YW2
 go_wp2_with fail
 refine(num_calls q _).mono ?_;rintro e w1 ⟨rfl,hb⟩;have YW2:=Z_ (below_step YW.out hb);clear YW hb;have YW:=YW2;clear YW2;go_wp2;go_ret;exact⟨rfl,YW.out⟩
theorem topSizes_call(s:ByteArray)(a b f t:Int)(w:World)(hT:Tabs w)(h1:s.size≤140737488351232):Calls Tryz.prog 5 #[.string s,.int .i64 a,.int .i64 b,.int .i64 f,.int .i64 t] w fun e w'=>e= .returned (.bool true)∧Below w.heap.size w w':=by
 obtain⟨i,i1,i2,hi⟩:=size64 a;obtain⟨j,j1,j2,hj⟩:=size64 b
 rcases parseA 16000 (by decide) s with hp|⟨ch,bi,m,hd,d,tl,hp,hc,hb,hz,h4⟩
 ·refine sizes_bad s a b f t i j w hT hi hj (fun i W hW=>?_);refine file_Encode.calls 16000 s i _ _ W ?_ hW;unfold file_Encode.f;rw[hp,bs_];dsimp only;rw[if_neg (by decide),file_Encode.j0,if_pos rfl]
 ·have P1:Par ch bi i m hd d tl:=⟨hc,hb,i1,i2,hz,h4⟩;have P2:Par ch bi j m hd d tl:=⟨hc,hb,j1,j2,hz,h4⟩
  exact sizes_good s _ _ _ a b f t _ i j w hT hi hj
   (fun W hW=>file_Encode.calls 16000 s i _ _ W (e_enc 16000 ch bi i m s hd d tl P1 (by decide) hp) hW)
   (fun W hW=>file_Encode.calls 16000 s j _ _ W (e_enc 16000 ch bi j m s hd d tl P2 (by decide) hp) hW)
   (fun W hW=>e_range ch bi i m hd d tl P1 f t W hW)
   (fun W hW=>e_range ch bi j m hd d tl P2 f t W hW)
end Go.Proofs.YtfghldonnffldaaGreatDoor
namespace Go.Proofs.YtfghldonnffldaaGreatDoor
open Go.RowKit YtfghldonnffldaaGreatDoorW.PrintWords YtfghldonnffldaaGreatDoorW.PrintLast YtfghldonnffldaaGreatDoorW.PrintMore TBase
open Go.RowKit
theorem gDeb:Tryz.prog.globalNamed "math/bits.deBruijn64tab" =some 2:=by kernel_rfl
theorem gDebT:(Tryz.prog.globals[2]?).map (·.type)=some 225:=by kernel_rfl
theorem gStr:Tryz.prog.globalNamed "descant/stretch.table" =some 3:=by kernel_rfl
theorem gStrT:(Tryz.prog.globals[3]?).map (·.type)=some 228:=by kernel_rfl
theorem cells225:Tryz.prog.cellsOf 225=64:=by kernel_rfl
theorem cells228:Tryz.prog.cellsOf 228=33:=by kernel_rfl
theorem cells5_:Tryz.prog.cellsOf 5=1:=by kernel_rfl
theorem cells3_:Tryz.prog.cellsOf 3=1:=by kernel_rfl
def laidL:List (String×DataW Unit):= [("math/bits.deBruijn32tab",Rows.laid_math_bits_deBruijn32tab),("math/bits.deBruijn64tab",Rows.laid_math_bits_deBruijn64tab),("descant/stretch.table",Rows.laid_descant_stretch_table)]
theorem laidTabs{W:World}(h0:laidMetH Tryz.prog laidL W):Tabs W:=by
 have h:laidMet Tryz.prog laidL W:=h0;have h1:=laidMet.tail h;have h2:=laidMet.tail h1;have t1:Lib.TabIs Tryz.prog W "math/bits.deBruijn64tab" .u8 Sq.deb:=Lib.tabIs_of_head gDeb gDebT Tryz.underlying225 Tryz.underlying5 cells5_ cells225 h1;have t2:Lib.TabIs Tryz.prog W "descant/stretch.table" .i64 Sq.tab:=Lib.tabIs_of_head gStr gStrT Tryz.underlying228 Tryz.underlying3 cells3_ cells228 h2;exact⟨fun j hj=>t2.cell gStr j hj,fun j hj=>t1.cell gDeb j hj⟩
def dataCells:DataW Unit→Array Value
 | .agg l=>(l.map fun| .lit (.int k z)=>Value.int k z|_=>Value.bool false).toArray
 |_=> #[]
def layCells(cs:Array Value):Obj→Obj
 | .cells _ t frozen=> .cells cs t frozen
 |o=>o
noncomputable def laidWorld(os:Os):World:=
 { World.holding Tryz.prog os ⟨#[],#[],[]⟩ with heap:=(((World.holding Tryz.prog os ⟨#[],#[],[]⟩).heap.modify 1 (layCells (dataCells Rows.laid_math_bits_deBruijn32tab))).modify 2 (layCells (dataCells Rows.laid_math_bits_deBruijn64tab))).modify 3 (layCells (dataCells Rows.laid_descant_stretch_table)) }
end Go.Proofs.YtfghldonnffldaaGreatDoor
namespace Go.Proofs.YtfghldonnffldaaGreatDoor.topSizes
open Go.ChangeShapes Go.WideShapes Go.ChangeAt Go.RowKit Go.Joins
open Go.ChangeMaps (open_string shut_string)
theorem own:ownKnob Tryz.prog.godebug=none:=by kernel_rfl
theorem laid_met(os:Os):laidMet Tryz.prog Rows.topSizesRow.laid ((laidWorld os).forCall (fun _ _=>0) ⟨#[],#[.string ByteArray.empty,.int .i64 0,.int .i64 0,.int .i64 0,.int .i64 0],[]⟩).memory:=
 laidMet_of_run' 8 (by kernel_rfl) (by kernel_rfl)
theorem reads(os:Os){H:Type}(enc:TypeId×Value→H):∃dgp,DataW.whole enc Tryz.prog ((laidWorld os).forCall (fun _ _=>0) ⟨#[],#[.string ByteArray.empty,.int .i64 0,.int .i64 0,.int .i64 0,.int .i64 0],[]⟩).memory Tryz.f5.params.toList (OpenSpec.ofChange Rows.topSizesSpec).vars false (#[.string ByteArray.empty,.int .i64 0,.int .i64 0,.int .i64 0,.int .i64 0]:Array Value).toList 8=some ([.lit (.string []),.lit (.int .i64 0),.lit (.int .i64 0),.lit (.int .i64 0),.lit (.int .i64 0)],[],dgp):=
 ⟨[],by kernel_rfl⟩
theorem lifted(os:Os)(started:os.Started)(H:Type)(enc:TypeId×Value→H)(F:Stop.Interp):
  ReturnsInHanded {} Tryz.checked os 5 .any ((OpenSpec.ofChange Rows.topSizesSpec).preRow enc Tryz.prog Tryz.f5 Rows.topSizesRow.domain false Rows.topSizesRow.laid) (((OpenSpec.ofChange Rows.topSizesSpec).at F).post enc Tryz.prog Tryz.f5 false true false false):=by
 obtain⟨places,hx⟩:=reads os enc
 refine returnsInHanded_of_row (C:=Tryz.checked) (s:=OpenSpec.ofChange Rows.topSizesSpec) own started (by kernel_rfl) Tryz.func5
  (witness_row_at (enc:=enc) (C:=Tryz.checked) false (laidWorld os) #[.string ByteArray.empty,.int .i64 0,.int .i64 0,.int .i64 0,.int .i64 0] rfl (by kernel_rfl) (by kernel_rfl) (by kernel_rfl)
   (OpenSpec.preRow_of_cond 8 hx (by kernel_rfl) (fun k hk=>by cases hk) (by kernel_rfl) (laid_met os))) ?_
 intro W base args ds gs before hval0 hW hcnd _ hsz0 hL _ _;have hsz:(DataW.weightsEach Tryz.prog (Tryz.f5.params.toList++Rows.topSizesSpec.plain.varTypes Tryz.prog) (ds++gs)).all (· ≤reachBytes)=true:=hsz0;have hval:∀(j:Nat) t v,Tryz.f5.params[j]?=some t→args[j]?=some v→Value.okWide Tryz.prog W .any base t v:=hval0;have hW':=hW;obtain⟨p,q,hA0,hV,rfl,hfz,hnd⟩:=hW;have hA:DataW.TrodAll enc Tryz.prog W 0 (fun _=>true) true Tryz.f5.params.toList args.toList ds p:=hA0;rw[Tryz.params5] at hA hval hsz;obtain⟨v0,vs0,d0,ds0,p0,q0,hargs,rfl,rfl,h0,r0⟩:=trodAll_cons hA;obtain⟨v1,vs1,d1,ds1,p1,q1,rfl,rfl,rfl,h1,r1⟩:=trodAll_cons r0;obtain⟨v2,vs2,d2,ds2,p2,q2,rfl,rfl,rfl,h2,r2⟩:=trodAll_cons r1;obtain⟨v3,vs3,d3,ds3,p3,q3,rfl,rfl,rfl,h3,r3⟩:=trodAll_cons r2;obtain⟨v4,vs4,d4,ds4,p4,q4,rfl,rfl,rfl,h4,r4⟩:=trodAll_cons r3;obtain⟨rfl,rfl,rfl⟩:=trodAll_nil r4;obtain rfl:args= #[v0,v1,v2,v3,v4]:=by cases args;simp_all
 obtain⟨rfl,rfl⟩:=trodVars_none hV;obtain⟨a0,rfl,rfl,rfl,y0⟩:=open_string Tryz.underlying9 (hval 0 9 v0 rfl rfl) h0
 have w0:a0.size≤140737488351232:=by
  have z:=sized_string hsz (j:=0) (t:=9) rfl rfl;rw[Array.length_toList] at z;exact z
 obtain⟨a1,rfl,rfl,rfl,w1⟩:=open_int Tryz.underlying3 (hval 1 3 v1 rfl rfl) h1;obtain⟨a2,rfl,rfl,rfl,w2⟩:=open_int Tryz.underlying3 (hval 2 3 v2 rfl rfl) h2;obtain⟨a3,rfl,rfl,rfl,w3⟩:=open_int Tryz.underlying3 (hval 3 3 v3 rfl rfl) h3;obtain⟨a4,rfl,rfl,rfl,w4⟩:=open_int Tryz.underlying3 (hval 4 3 v4 rfl rfl) h4;clear hA0 hval0 hsz0 hsz;refine(topSizes_call a0 a1 a2 a3 a4 W (laidTabs hL) w0).mono fun e W' ⟨he,bel⟩=>?_
 subst he;exact⟨_,rfl,_,_,_,[],_,[],hW',trodAll_mk1 (shut_bool Tryz.underlying4 _),(trodAll_cons_mk (shut_string Tryz.underlying9 y0) (trodAll_cons_mk (shut_int Tryz.underlying3 w1) (trodAll_cons_mk (shut_int Tryz.underlying3 w2) (trodAll_cons_mk (shut_int Tryz.underlying3 w3) (trodAll_cons_mk (shut_int Tryz.underlying3 w4) trodAll_mk0))))),rfl,bel.frame _,fun h=>by cases h⟩
theorem over:Rows.TopSizesSaid:=
 OpenClaim.holds_of_cond 5 Tryz.f5 rfl rfl rfl rfl rfl rfl rfl ⟨rfl,rfl,rfl,rfl,rfl⟩ rfl rfl rfl rfl rfl (by kernel_rfl) Tryz.func5 (by kernel_rfl)
  (of_decide_eq_true (by kernel_rfl)) (by unfold Func.isWrapper;first|(rw[if_pos (by decide+kernel)];kernel_rfl)|(rw[if_neg (by decide+kernel)];exact⟨rfl,rfl⟩))
  (fun os started H enc _ F=>by rw[OpenClaim.pre_eq_preRow];exact lifted os started H enc F)
theorem plain(f:FuncId)(fn:Func)(hf:Tryz.pinned.checked.prog.funcNamed "descant/descanttop.TopSizes" =some f)(hfn:Tryz.pinned.checked.prog.funcs[f]?=some fn):
  false=Tryz.pinned.checked.prog.looks []∧∀(j:Nat) t,fn.params[j]?=some t→Tryz.pinned.checked.prog.wantsStandIn t=false:=by
 obtain rfl:f=5:=Option.some.inj ((show Tryz.prog.funcNamed "descant/descanttop.TopSizes" =some 5 by kernel_rfl).symm.trans hf) |>.symm
 obtain rfl:fn=Tryz.f5:=(Option.some.inj (Tryz.func5.symm.trans hfn)).symm;refine⟨by kernel_rfl,fun j t ht=>?_⟩;rw[Tryz.params5] at ht;have hm:=Array.mem_of_getElem? ht;simp at hm
 rcases hm with rfl|rfl
 ·exact(show Tryz.prog.wantsStandIn 9=false by kernel_rfl)
 ·exact(show Tryz.prog.wantsStandIn 3=false by kernel_rfl)
theorem card:Rows.TopSizesCardSaid:=
 Claim7.holds_tied_plain_at .later [] _ _ _ _ over (fun _ h=>by cases h) (by kernel_rfl) (fun _ h=>by cases h) topSizes_row_tie rfl ⟨rfl,rfl⟩ (by kernel_rfl) rfl plain (by kernel_rfl)
#print axioms card
end Go.Proofs.YtfghldonnffldaaGreatDoor.topSizes
namespace Go.Proofs.YtfghldonnffldaaGreatDoor
theorem topSizes_holds:Rows.TopSizesCardSaid:=topSizes.card
end Go.Proofs.YtfghldonnffldaaGreatDoor
