/- TopMoved is proved: a segment of one file that stands in another one's place is told, if it has other frames; if it is whole its samples are read. -/
import Derived.Test.YtfghldonnffldaaGreatDoorRows
import Derived.Lib.LaidTab
import Derived.Stop.LaidErr
import Derived.Deep.DeepHandedRow
import Derived.Test.YtfghldonnffldaaGreatDoorCards
import Derived.Test.YtfghldonnffldaaGreatDoorTie
import Derived.WalkKit
import Derived.ProofKit
import Derived.OpenShut
import Derived.ShutString
import Derived.ChangeOld
import Derived.Below
import Derived.SizedLaws
import Derived.Lib.SmallJoins
import Derived.SevenTiedAt
import Derived.LaidLaws
import Derived.Test.YtfghldonnffldaaGreatDoorMvd5
set_option linter.unusedVariables false
set_option linter.unusedSimpArgs false
set_option maxRecDepth 100000
set_option maxHeartbeats 8000000
namespace Go.Proofs.YtfghldonnffldaaGreatDoor
open Go.RowKit YtfghldonnffldaaGreatDoorW.PrintWords YtfghldonnffldaaGreatDoorW.PrintLast YtfghldonnffldaaGreatDoorW.PrintMore TBase
open VTwo ZFiv
theorem fget_k(k:Nat)(hk:20≤k)(n x:Nat)(h1:1≤n)(hn:n≤4)(hx:x<256 ^ n):field_Get.f k (lo n x)=some ((x:Int),0):=by
 obtain⟨d,rfl⟩:=Nat.exists_eq_add_of_le hk;exact leO_le (fun k=>field_Get.f k (lo n x)) (fun k=>field_Get.mono _ k) d 20 _ (Le.fget n x h1 hn hx)
def LF:List UInt8:= [82,73,70,70]
def LW:List UInt8:= [87,65,86,69]
def Lf:List UInt8:= [102,109,116,32]
def Lr:List UInt8:= [114,97,116,101,97,110,100,98]
def LD:List UInt8:= [100,97,116,97]
def LM:List UInt8:= [109,111,114,101]
def La:List UInt8:= [97,98,99,100]
def Lp(n:Nat):List UInt8:=if n%2=1 then [112] else []
theorem Lp_len(n:Nat):(Lp n).length=n%2:=by
 unfold Lp
 split
 ·rename_i h;rw[h];rfl
 ·rename_i h;show 0=_;omega
abbrev l2(x:Nat):List UInt8:=nb (Le.bytes 2 x)
abbrev l4(x:Nat):List UInt8:=nb (Le.bytes 4 x)
theorem l2_len(x:Nat):(l2 x).length=2:=by rw[nb_len,Le.bytes_len]
theorem l4_len(x:Nat):(l4 x).length=4:=by rw[nb_len,Le.bytes_len]
theorem l4_16:l4 16= [16,0,0,0]:=by kernel_rfl
theorem l4_3:l4 3= [3,0,0,0]:=by kernel_rfl
theorem l2_1:l2 1= [1,0]:=by kernel_rfl
def Lm(ch bi:Nat):List UInt8:=l2 1++(l2 ch++(Lr++(l2 (ch*bi / 8)++l2 bi)))
theorem Lm_len(ch bi:Nat):(Lm ch bi).length=16:=by
 unfold Lm;simp only[List.length_append,l2_len];rfl
theorem wavB_list(ch bi:Nat)(d:ByteArray):(wavB ch bi d).data.toList=LF++(l4 (48+d.size+d.size%2)++(LW++(Lf++(l4 16++(Lm ch bi++(LD++(l4 d.size++(d.data.toList++(Lp d.size++(LM++(l4 3++La))))))))))):=by
 have eA:wvA.data.toList=LW++(Lf++(l4 16++l2 1)):=by rw[l4_16,l2_1];rfl
 have eM:wvM.data.toList=LM++(l4 3++La):=by rw[l4_3];rfl
 have eF:wvF.data.toList=LF:=rfl;have eR:wvR.data.toList=Lr:=rfl;have eD:wvD.data.toList=LD:=rfl;have eP:wvP.data.toList= [112]:=rfl;unfold wavB;rw[wavS_size];unfold wavS wavX Lm Lp
 split<;>simp only[ByteArray.data_append,Array.toList_append,eA,eM,eF,eR,eD,eP,List.append_assoc,List.nil_append]
structure WavAt(W:ByteArray)(ch bi n p:Nat)(d:ByteArray):Prop where
 size:W.size=n
 hn:n=56+d.size+d.size%2
 hp:p=44+d.size+d.size%2
 riff:W.extract 0 4=⟨LF.toArray⟩
 all:W.extract 4 8=lo 4 (n - 8)
 wave:W.extract 8 12=⟨LW.toArray⟩
 fmt:W.extract 12 16=⟨Lf.toArray⟩
 fsz:W.extract 16 20=lo 4 16
 form:W.extract 20 36=⟨(Lm ch bi).toArray⟩
 data:W.extract 36 40=⟨LD.toArray⟩
 dsz:W.extract 40 44=lo 4 d.size
 own:W.extract 44 (44+d.size)=d
 more:W.extract p (p+4)=⟨LM.toArray⟩
 msz:W.extract (p+4) (p+8)=lo 4 3
theorem wavB_at(ch bi:Nat)(d:ByteArray):WavAt (wavB ch bi d) ch bi (56+d.size+d.size%2) (44+d.size+d.size%2) d:=by
 have h:=wavB_list ch bi d;have e1:=Lm_len ch bi;have e2:=Lp_len d.size;have e3:LF.length=4:=rfl;have e4:LW.length=4:=rfl;have e5:Lf.length=4:=rfl;have e6:LD.length=4:=rfl;have e7:LM.length=4:=rfl;refine⟨wavB_size ch bi d,rfl,rfl,?_,?_,?_,?_,?_,?_,?_,?_,?_,?_,?_⟩
 ·exact ext_of _ [] LF _ h 0 4 rfl rfl
 ·rw[show 56+d.size+d.size%2 - 8=48+d.size+d.size%2 by omega];exact ext_of _ LF (l4 _) _ h 4 8 rfl (by rw[l4_len])
 ·exact ext_of _ (LF++l4 (48+d.size+d.size%2)) LW _ (by rw[h];simp only[List.append_assoc];rfl) 8 12 (by rw[List.length_append,l4_len,e3]) (by rw[e4])
 ·exact ext_of _ (LF++(l4 (48+d.size+d.size%2)++LW)) Lf _ (by rw[h];simp only[List.append_assoc];rfl) 12 16 (by simp only[List.length_append,l4_len,e3,e4]) (by rw[e5])
 ·exact ext_of _ (LF++(l4 (48+d.size+d.size%2)++(LW++Lf))) (l4 16) _ (by rw[h];simp only[List.append_assoc];rfl) 16 20 (by simp only[List.length_append,l4_len,e3,e4,e5]) (by rw[l4_len])
 ·exact ext_of _ (LF++(l4 (48+d.size+d.size%2)++(LW++(Lf++l4 16)))) (Lm ch bi) _ (by rw[h];simp only[List.append_assoc];rfl) 20 36 (by simp only[List.length_append,l4_len,e3,e4,e5]) (by rw[e1])
 ·exact ext_of _ (LF++(l4 (48+d.size+d.size%2)++(LW++(Lf++(l4 16++Lm ch bi))))) LD _ (by rw[h];simp only[List.append_assoc];rfl) 36 40 (by simp only[List.length_append,l4_len,e3,e4,e5,e1]) (by rw[e6])
 ·exact ext_of _ (LF++(l4 (48+d.size+d.size%2)++(LW++(Lf++(l4 16++(Lm ch bi++LD)))))) (l4 d.size) _ (by rw[h];simp only[List.append_assoc];rfl) 40 44 (by simp only[List.length_append,l4_len,e3,e4,e5,e1,e6]) (by rw[l4_len])
 ·refine(ext_of _ (LF++(l4 (48+d.size+d.size%2)++(LW++(Lf++(l4 16++(Lm ch bi++(LD++l4 d.size))))))) d.data.toList _ (by rw[h];simp only[List.append_assoc];rfl) 44 (44+d.size) (by simp only[List.length_append,l4_len,e3,e4,e5,e1,e6]) (by rw[data_length])).trans (arr_list d)
 ·exact ext_of _ (LF++(l4 (48+d.size+d.size%2)++(LW++(Lf++(l4 16++(Lm ch bi++(LD++(l4 d.size++(d.data.toList++Lp d.size))))))))) LM _ (by rw[h];simp only[List.append_assoc];rfl) _ _ (by simp only[List.length_append,l4_len,e3,e4,e5,e1,e6,e2,data_length,strOfNums_size,Le.bytes_len];omega) (by rw[e7])
 ·exact ext_of _ (LF++(l4 (48+d.size+d.size%2)++(LW++(Lf++(l4 16++(Lm ch bi++(LD++(l4 d.size++(d.data.toList++(Lp d.size++LM)))))))))) (l4 3) _ (by rw[h];simp only[List.append_assoc];rfl) _ _ (by simp only[List.length_append,l4_len,e3,e4,e5,e1,e6,e2,e7,data_length,strOfNums_size,Le.bytes_len];omega) (by rw[l4_len])
theorem size_at(k:Nat)(hk:20≤k)(W:ByteArray)(p x:Nat)(hx:x<256 ^ 4)(hp:p+4≤W.size)(hW:W.size≤140737488355328)(he:W.extract p (p+4)=lo 4 x):riff_size.f k W (p:Int)=some (x:Int):=by
 have w1:wrap64 ((p:Int)+4)=((p+4:Nat):Int):=by rw[wrap_id _ (by omega) (by omega)];omega
 unfold riff_size.f;rw[w1,if_pos (by omega),if_pos (by omega),if_pos (by omega),nC_,nC_,he,fget_k k hk 4 x (by omega) (by omega) hx,bs_]
theorem chunk_step(k:Nat)(hk:20≤k)(W:ByteArray)(cs:List S116)(p x q:Nat)(id:ByteArray)(hx:x<256 ^ 4)(hW:W.size≤140737488355328)(hc:cs.length<64)(hq:p+8+x+x%2=q)(hqW:q≤W.size)
  (hid:W.extract p (p+4)=id) (he:W.extract (p+4) (p+8)=lo 4 x):riff_Chunks.l0 (k+2) W cs (p:Int)=riff_Chunks.l0 k W (cs++ [⟨id,((p+8:Nat):Int),(x:Int)⟩]) (q:Int):=by
 subst hid;have h4:(256:Nat) ^ 4=4294967296:=by decide
 rw[h4] at hx;have b1:p+8+x+x%2≤W.size:=by omega
 have b2:p+4+4≤W.size:=by omega
 have b3:p+8≤W.size:=by omega
 have b4:x+x%2≤W.size - (p+8):=by omega
 have b5:¬(W.size - p<8):=by omega
 have hs:=size_at k hk W (p+4) x (by rw[h4];exact hx) b2 hW he;clear he;have w1:wrap64 ((p:Int)+4)=((p+4:Nat):Int):=by clear hs b4 b5 hc;rw[wrap_id _ (by omega) (by omega)];omega
 have w2:wrap64 ((p:Int)+8)=((p+8:Nat):Int):=by clear hs b4 b5 hc w1;rw[wrap_id _ (by omega) (by omega)];omega
 have w3:wrap64 ((W.size:Int) - (p:Int))=((W.size - p:Nat):Int):=by clear hs b4 b5 hc w1 w2;rw[wrap_id _ (by omega) (by omega)];omega
 have w4:wrap64 ((W.size:Int) - ((p+8:Nat):Int))=((W.size - (p+8):Nat):Int):=by clear hs b4 b5 hc w1 w2 w3;rw[wrap_id _ (by omega) (by omega)];omega
 have t2:Int.tmod (x:Int) 2=((x%2:Nat):Int):=rfl;have w5:wrap64 ((x:Int)+((x%2:Nat):Int))=((x+x%2:Nat):Int):=by clear hs b4 b5 hc w1 w2 w3 w4;rw[wrap_id _ (by omega) (by omega)];omega
 have w6:wrap64 (((p+8:Nat):Int)+((x+x%2:Nat):Int))=(q:Int):=by clear hs b4 b5 hc w1 w2 w3 w4 w5;rw[wrap_id _ (by omega) (by omega)];omega
 have c1:(p:Int)<(W.size:Int):=by clear hs w1 w2 w3 w4 w5 w6;omega
 have c2:¬((cs.length:Int)=64):=by clear hs w1 w2 w3 w4 w5 w6;omega
 have c3:¬(decide (((W.size - p:Nat):Int)<8)=true):=by rw[decide_eq_true_iff];clear hs w1 w2 w3 w4 w5 w6;omega
 have c4:(0:Int)≤(p:Int):=Int.natCast_nonneg p;have c5:(p:Int)≤((p+4:Nat):Int):=by clear hs w1 w2 w3 w4 w5 w6;omega
 have c6:((p+4:Nat):Int)≤(W.size:Int):=by clear hs w1 w2 w3 w4 w5 w6;omega
 have c7:¬(((x+x%2:Nat):Int)>((W.size - (p+8):Nat):Int)):=by clear hs w1 w2 w3 w4 w5 w6;omega
 have c8:cs.length<4398046511104:=by clear hs w1 w2 w3 w4 w5 w6;omega
 rw[show k+2=(k+1)+1 from rfl,riff_Chunks.l0,if_pos c1,if_neg c2,w3,riff_Chunks.j2,if_neg c3,if_pos c4,w1,if_pos c5,if_pos c6,hs,bs_,t2,w5,w2,w4,if_neg c7,if_pos c8,w6,nC_,nC_]
def chunks3(n p:Nat):List S116:= [⟨⟨Lf.toArray⟩,((20:Nat):Int),((16:Nat):Int)⟩,⟨⟨LD.toArray⟩,((44:Nat):Int),(n:Int)⟩,⟨⟨LM.toArray⟩,((p+8:Nat):Int),((3:Nat):Int)⟩]
theorem prefix_f{W:ByteArray}(h:W.extract 0 4=⟨LF.toArray⟩)(hs:4≤W.size):strings_HasPrefix.f W (⟨#[82,73,70,70]⟩:ByteArray)=some true:=by
 have e:(⟨#[82,73,70,70]⟩:ByteArray).size=4:=rfl;unfold strings_HasPrefix.f stringslite_HasPrefix.f;rw[e,if_pos (by omega),if_pos (by omega),if_pos (by omega),nC_,h];have e2:((⟨LF.toArray⟩:ByteArray).toList==(⟨#[82,73,70,70]⟩:ByteArray).toList)=true:=by kernel_rfl
 rw[e2];rfl
theorem chunks_f(k:Nat)(hk:30≤k){W:ByteArray}{ch bi n p:Nat}{d:ByteArray}(h:WavAt W ch bi n p d)(hs:n≤4096):riff_Chunks.f k W=some (chunks3 d.size p,0):=by
 have e1:=h.hn;have e2:=h.hp;have e3:=h.size;have QO:(256:Nat) ^ 4=4294967296:=by decide
 have w1:wrap64 ((W.size:Int) - 8)=((n - 8:Nat):Int):=by rw[wrap_id _ (by omega) (by omega)];omega
 unfold riff_Chunks.f;rw[if_neg (by omega),if_neg (by omega),prefix_f h.riff (by omega),bs_,if_pos rfl];rw[show riff_size.f k W 4=some ((n - 8:Nat):Int) from size_at k (by omega) W 4 (n - 8) (by omega) (by omega) (by omega) h.all,bs_,w1,if_pos rfl,if_pos (by omega),if_pos (by omega),h.wave];obtain⟨k,rfl⟩:∃m,k=((((m+1)+2)+2)+2)+1:=⟨k - 8,by omega⟩;rw[show(((⟨LW.toArray⟩:ByteArray).toList !=([87,65,86,69]:List UInt8)))=false from by kernel_rfl,riff_Chunks.j0,if_neg (by simp)];have s1:=chunk_step (((k+1)+2)+2) (by omega) W [] 12 16 36 ⟨Lf.toArray⟩ (by omega) (by omega) (by simp) (by omega) (by omega) h.fmt h.fsz;have s2:=chunk_step ((k+1)+2) (by omega) W [⟨⟨Lf.toArray⟩,((20:Nat):Int),((16:Nat):Int)⟩] 36 d.size p ⟨LD.toArray⟩ (by omega) (by omega) (by simp) (by omega) (by omega) h.data h.dsz;have s3:=chunk_step (k+1) (by omega) W [⟨⟨Lf.toArray⟩,((20:Nat):Int),((16:Nat):Int)⟩,⟨⟨LD.toArray⟩,((44:Nat):Int),(d.size:Int)⟩] p 3 n ⟨LM.toArray⟩ (by omega) (by omega) (by simp) (by omega) (by omega) h.more h.msz;refine s1.trans (s2.trans (s3.trans ?_));rw[riff_Chunks.l0,if_neg (by omega)];rfl
theorem one_fmt(n p:Nat):wave_one.f (chunks3 n p) (⟨#[102,109,116,32]⟩:ByteArray)=some (0,true):=by kernel_rfl
theorem one_data(n p:Nat):wave_one.f (chunks3 n p) (⟨#[100,97,116,97]⟩:ByteArray)=some (1,true):=by kernel_rfl
theorem format_f(k:Nat)(hk:20≤k)(ch bi:Nat)(hc:ch=1∨ch=2)(hb:bi=8∨bi=16):wave_format.f k ⟨(Lm ch bi).toArray⟩=some ((ch:Int),(bi:Int),true):=by
 obtain⟨d,rfl⟩:=Nat.exists_eq_add_of_le hk;refine leO_le (fun k=>wave_format.f k ⟨(Lm ch bi).toArray⟩) (fun k=>wave_format.mono _ k) d 20 _ ?_
 rcases hc with rfl|rfl<;>rcases hb with rfl|rfl<;>kernel_rfl
abbrev fsz(ch bi:Nat):Nat:=ch*bi / 8
theorem fsz_pos(ch bi:Nat)(hc:ch=1∨ch=2)(hb:bi=8∨bi=16):1≤fsz ch bi∧fsz ch bi≤4:=by
 rcases hc with rfl|rfl<;>rcases hb with rfl|rfl<;>decide
theorem pframe_f(ch bi:Nat)(hc:ch=1∨ch=2)(hb:bi=8∨bi=16):pcm_Frame.f (ch:Int) (bi:Int)=some ((fsz ch bi:Nat):Int):=by
 unfold pcm_Frame.f;rw[frame_nat ch bi hc hb]
theorem pframes_f(ch bi:Nat)(hc:ch=1∨ch=2)(hb:bi=8∨bi=16)(d:ByteArray):pcm_Frames.f d (ch:Int) (bi:Int)=some (decide (d.size%fsz ch bi=0)):=by
 have hf:=fsz_pos ch bi hc hb;unfold pcm_Frames.f;rw[pframe_f ch bi hc hb,bs_,if_neg (by omega),←Int.natCast_emod]
 congr 1
 rw[Bool.eq_iff_iff,beq_iff_eq,decide_eq_true_iff];omega
theorem parse_go(k:Nat)(hk:40≤k){W:ByteArray}{ch bi n p:Nat}{d:ByteArray}(h:WavAt W ch bi n p d)(hs:n≤4096)(hc:ch=1∨ch=2)(hb:bi=8∨bi=16):
  wave_Parse.f k W=if d.size%fsz ch bi=0 then some ((ch:Int),(bi:Int),W.extract 0 44,d,W.extract (44+d.size) n,0) else some (0,0,(⟨#[]⟩:ByteArray),(⟨#[]⟩:ByteArray),(⟨#[]⟩:ByteArray),2100):=by
 have e1:=h.hn;have e3:=h.size;have b1:W.size≤4096:=by omega
 have b2:44+d.size≤W.size:=by omega
 have w1:wrap64 (((20:Nat):Int)+16)=((36:Nat):Int):=by rw[wrap_id _ (by omega) (by omega)];rfl
 have w2:wrap64 (((44:Nat):Int)+(d.size:Int))=((44+d.size:Nat):Int):=by rw[wrap_id _ (by omega) (by omega)];omega
 unfold wave_Parse.f;rw[chunks_f k (by omega) h hs,bs_];dsimp only;rw[one_fmt,bs_,one_data,bs_];dsimp only;rw[if_pos rfl,if_pos rfl,if_pos rfl,if_neg (by omega),if_pos (by omega),if_pos (show(0:Int)<((chunks3 d.size p).length:Int) from by show(0:Int)<((3:Nat):Int);omega),show((rd_T116 (chunks3 d.size p) 0).f2 !=16)=false from by kernel_rfl];obtain⟨k,rfl⟩:∃m,k=m+1:=⟨k - 1,by omega⟩;have f0:(rd_T116 (chunks3 d.size p) 0).f1=((20:Nat):Int):=rfl;have f1:(rd_T116 (chunks3 d.size p) 1).f1=((44:Nat):Int):=rfl;have f2:(rd_T116 (chunks3 d.size p) 1).f2=(d.size:Int):=rfl;have fl:((chunks3 d.size p).length:Int)=3:=rfl
 rw[wave_Parse.j0,if_neg (by simp),f0,f1,f2,fl,w1,w2,nC_,nC_,nC_,nC_,h.own,h.form,if_pos (by omega),if_pos (by omega),if_pos (by omega),if_pos (by omega),if_pos (by omega),format_f k (by omega) ch bi hc hb,bs_,
  if_pos (by omega),if_pos (by omega),if_pos (by omega),if_pos (by omega),if_pos (by omega)]
 dsimp only;rw[if_pos rfl,pframes_f ch bi hc hb,bs_]
 by_cases hm:d.size%fsz ch bi=0
 ·rw[if_pos (by rw[decide_eq_true_iff];exact hm),if_pos (by omega),w2,if_pos (by omega),if_pos (by omega),if_pos hm,nC_,e3]
 ·rw[if_neg (by rw[decide_eq_true_iff];exact hm),if_neg hm]
theorem parse_big(k:Nat)(hk:40≤k)(W:ByteArray)(hs:4096<W.size):wave_Parse.f k W=some (0,0,(⟨#[]⟩:ByteArray),(⟨#[]⟩:ByteArray),(⟨#[]⟩:ByteArray),2100):=by
 obtain⟨k,rfl⟩:∃m,k=m+1:=⟨k - 1,by omega⟩
 have hc:riff_Chunks.f (k+1) W=some ([],2000):=by
  unfold riff_Chunks.f;rw[if_pos (by omega),riff_Chunks.j0,if_pos rfl]
 obtain⟨i,hi⟩:∃i,wave_one.f [] (⟨#[102,109,116,32]⟩:ByteArray)=some i:=⟨_,rfl⟩;obtain⟨j,hj⟩:∃i,wave_one.f [] (⟨#[100,97,116,97]⟩:ByteArray)=some i:=⟨_,rfl⟩;unfold wave_Parse.f;rw[hc,bs_];dsimp only;rw[hi,bs_,hj,bs_,if_neg (by decide),wave_Parse.j0,if_pos rfl]
end Go.Proofs.YtfghldonnffldaaGreatDoor
namespace Go.Proofs.YtfghldonnffldaaGreatDoor
open Go.RowKit YtfghldonnffldaaGreatDoorW.PrintWords YtfghldonnffldaaGreatDoorW.PrintLast YtfghldonnffldaaGreatDoorW.PrintMore TBase
open UOne VTwo YFou
theorem fput_k(k:Nat)(hk:20≤k)(n x:Nat)(h1:1≤n)(hn:n≤4)(hx:x<256 ^ n):field_Put.f k (x:Int) (n:Int)=some (lo n x,0):=by
 obtain⟨d,rfl⟩:=Nat.exists_eq_add_of_le hk;exact leO_le (fun k=>field_Put.f k (x:Int) (n:Int)) (fun k=>field_Put.mono _ _ k) d 20 _ (Le.put_f n x h1 hn hx)
theorem mayf(ch bi:Nat)(hc:ch=1∨ch=2)(hb:bi=8∨bi=16):pcm_May.f (ch:Int) (bi:Int)=some true:=by
 rcases hc with rfl|rfl<;>rcases hb with rfl|rfl<;>kernel_rfl
def told(kind by_ many:Nat)(own:ByteArray):ByteArray:=((strOfNums [(kind:Int),(by_:Int),(many:Int)]++lo 2 own.size)++own)++lo 4 (Crc.sum ((strOfNums [(kind:Int),(by_:Int),(many:Int)]++lo 2 own.size)++own).data.toList)
theorem told_f(k kind by_ many:Nat)(own:ByteArray)(hk:20≤k)(h1:kind<256)(h2:by_<256)(h3:many<256)(hs:own.size≤65535):segment_told.f k (kind:Int) (by_:Int) (many:Int) own=some (told kind by_ many own):=by
 have z3:(strOfNums [(kind:Int),(by_:Int),(many:Int)]).size=3:=strOfNums_size _;have m1:(kind:Int)%256=(kind:Int):=by omega
 have m2:(by_:Int)%256=(by_:Int):=by omega
 have m3:(many:Int)%256=(many:Int):=by omega
 have hs2:own.size<256 ^ 2:=Nat.lt_of_le_of_lt hs (by decide);have hcr:Crc.sum ((strOfNums [(kind:Int),(by_:Int),(many:Int)]++lo 2 own.size)++own).data.toList<256 ^ 4:=Crc.sum_lt _;unfold segment_told.f;rw[show field_Put.f k (own.size:Int) 2=some (lo 2 own.size,0) from fput_k k hk 2 own.size (by omega) (by omega) hs2,bs_,bs_,m1,m2,m3];dsimp only;rw[if_pos (by rw[z3,lo_size];omega),if_pos (by rw[ByteArray.size_append,z3,lo_size];omega)];unfold crc_Sum.f;rw[if_pos (by simp only[ByteArray.size_append,z3,lo_size];omega),bs_,show field_Put.f k (Crc.sum ((strOfNums [(kind:Int),(by_:Int),(many:Int)]++lo 2 own.size)++own).data.toList:Int) 4=some (lo 4 (Crc.sum ((strOfNums [(kind:Int),(by_:Int),(many:Int)]++lo 2 own.size)++own).data.toList),0) from fput_k k hk 4 _ (by omega) (by omega) hcr,bs_];dsimp only;rw[if_pos (by simp only[ByteArray.size_append,z3,lo_size];omega)];rfl
theorem told_size(kind by_ many:Nat)(own:ByteArray):(told kind by_ many own).size=9+own.size:=by
 unfold told;simp only[ByteArray.size_append,strOfNums_size,Le.bytes_len,List.length_cons,List.length_nil];omega
def rep(n:Nat)(v:UInt8):ByteArray:=⟨(List.replicate n v).toArray⟩
theorem frame_f(d:ByteArray)(ch bi:Nat)(hc:ch=1∨ch=2)(hb:bi=8∨bi=16):segment_sound_frame.f d (ch:Int) (bi:Int)=some ((fsz ch bi:Nat):Int):=by
 unfold segment_sound_frame.f;rw[pframe_f ch bi hc hb,bs_]
theorem many_f(d:ByteArray)(ch bi m:Nat)(hc:ch=1∨ch=2)(hb:bi=8∨bi=16)(hd:d.size=m*fsz ch bi)(hs:d.size≤100000):segment_sound_many.f d (ch:Int) (bi:Int)=some (m:Int):=by
 have hf:=fsz_pos ch bi hc hb
 have e:((d.size:Int) / ((fsz ch bi:Nat):Int))=(m:Int):=by
  rw[hd,←Int.natCast_ediv,Nat.mul_div_cancel _ (by omega)]
 have hm:m≤100000:=by
  have:m*1≤m*fsz ch bi:=Nat.mul_le_mul_left m hf.1;omega
 unfold segment_sound_many.f;rw[frame_f d ch bi hc hb,bs_,if_neg (by omega),e,wrap_id _ (by omega) (by omega)]
theorem told_list(kind by_ many:Nat)(own:ByteArray):(told kind by_ many own).data.toList=nb [(kind:Int),(by_:Int),(many:Int)]++(nb (Le.bytes 2 own.size)++(own.data.toList++nb (Le.bytes 4 (Crc.sum ((strOfNums [(kind:Int),(by_:Int),(many:Int)]++lo 2 own.size)++own).data.toList)))):=by
 unfold told;simp only[ByteArray.data_append,Array.toList_append,List.append_assoc]
structure ToldAt(s:ByteArray)(kind by_ many:Nat)(own:ByteArray):Prop where
 size:s.size=9+own.size
 b0:bt s 0=(kind:Int)
 b1:bt s 1=(by_:Int)
 b2:bt s 2=(many:Int)
 sz:s.extract 3 5=lo 2 own.size
 body:s.extract 5 (own.size+5)=own
 sum:s.extract (own.size+5) s.size=lo 4 (Crc.sum (s.extract 0 (own.size+5)).data.toList)
theorem told_at(kind by_ many:Nat)(own:ByteArray)(h1:kind<256)(h2:by_<256)(h3:many<256):ToldAt (told kind by_ many own) kind by_ many own:=by
 have h:=told_list kind by_ many own;have hz:=told_size kind by_ many own;have z3:(nb [(kind:Int),(by_:Int),(many:Int)]).length=3:=nb_len _;have e3:(told kind by_ many own).extract 0 (0+3)=strOfNums [(kind:Int),(by_:Int),(many:Int)]:=ext_of _ [] (nb [(kind:Int),(by_:Int),(many:Int)]) _ h 0 (0+3) rfl (by rw[z3])
 have hr:∀x∈ [(kind:Int),(by_:Int),(many:Int)],0≤x∧x≤255:=by
  intro x hx;simp only[List.mem_cons,List.not_mem_nil,or_false] at hx
  rcases hx with rfl|rfl|rfl<;>omega
 have ep:(told kind by_ many own).extract 0 (own.size+5)=(strOfNums [(kind:Int),(by_:Int),(many:Int)]++lo 2 own.size)++own:=by
  refine(ext_of _ [] (nb [(kind:Int),(by_:Int),(many:Int)]++(nb (Le.bytes 2 own.size)++own.data.toList)) (nb (Le.bytes 4 (Crc.sum ((strOfNums [(kind:Int),(by_:Int),(many:Int)]++lo 2 own.size)++own).data.toList))) (by rw[h];simp only[List.append_assoc,List.nil_append]) 0 (own.size+5) rfl (by simp only[List.length_append,strOfNums_size,Le.bytes_len,data_length,List.length_cons,List.length_nil];omega)).trans ?_;refine ByteArray.ext ?_;apply Array.toList_inj.1;simp only[ByteArray.data_append,Array.toList_append,List.append_assoc]
 refine⟨hz,?_,?_,?_,?_,?_,?_⟩
 ·exact(Le.bt_ext _ _ 0 3 0 e3 (by omega) (by omega)).trans (Le.bt_nums _ hr 0)
 ·exact(Le.bt_ext _ _ 0 3 1 e3 (by omega) (by omega)).trans (Le.bt_nums _ hr 1)
 ·exact(Le.bt_ext _ _ 0 3 2 e3 (by omega) (by omega)).trans (Le.bt_nums _ hr 2)
 ·exact ext_of _ (nb [(kind:Int),(by_:Int),(many:Int)]) (nb (Le.bytes 2 own.size)) _ h 3 5 z3 (by rw[nb_len,Le.bytes_len])
 ·exact(ext_of _ (nb [(kind:Int),(by_:Int),(many:Int)]++nb (Le.bytes 2 own.size)) own.data.toList _ (by rw[h];simp only[List.append_assoc];rfl) 5 (own.size+5) (by simp only[List.length_append,nb_len,Le.bytes_len,List.length_cons,List.length_nil]) (by rw[data_length];omega)).trans (arr_list own)
 ·rw[ep];exact ext_of _ (nb [(kind:Int),(by_:Int),(many:Int)]++(nb (Le.bytes 2 own.size)++own.data.toList)) (nb (Le.bytes 4 (Crc.sum ((strOfNums [(kind:Int),(by_:Int),(many:Int)]++lo 2 own.size)++own).data.toList))) [] (by rw[h];simp only[List.append_assoc,List.append_nil]) _ _ (by simp only[List.length_append,strOfNums_size,Le.bytes_len,data_length,List.length_cons,List.length_nil];omega) (by rw[nb_len,Le.bytes_len,hz];omega)
end Go.Proofs.YtfghldonnffldaaGreatDoor
namespace Go.Proofs.YtfghldonnffldaaGreatDoor
open Go.RowKit YtfghldonnffldaaGreatDoorW.PrintWords YtfghldonnffldaaGreatDoorW.PrintLast YtfghldonnffldaaGreatDoorW.PrintMore TBase
open UOne
theorem turnL_len(one:Int→Int→Int×Int)(l:List Int):∀a A B,(turnL one a A B l).length=l.length:=by
 induction l with
 |nil=>intro a A B;rfl
 |cons x r ih=>intro a A B;unfold turnL;rw[List.length_cons,List.length_cons,ih]
theorem turnL_num(l:List Int):∀a A B,COk a A B→(∀x∈l,csB x=true)→∀y∈turnL onePut a A B l,numOk y:=by
 induction l with
 |nil=>intro a A B _ _ y hy;cases hy
 |cons x r ih=>
  intro a A B hc h y hy;have hx:=csB_of (h x List.mem_cons_self);have hg:=cGuess_bd hc;unfold turnL at hy
  rcases List.mem_cons.1 hy with rfl|hy
  ·show -16777216≤x - cGuess a A B∧x - cGuess a A B≤16777216;omega
  ·exact ih _ _ _ (cLearn_ok hc hx) (fun z hz=>h z (List.mem_cons_of_mem _ hz)) y hy
theorem lineP_num{l:List Int}(h:∀x∈l,csB x=true):∀y∈lineP l,numOk y:=turnL_num l _ _ _ zero_ok h
theorem not_odd{l:List Int}(h:∀x∈l,csB x=true):l.any smOdd=false:=by
 rw[List.any_eq_false];intro x hx;unfold smOdd
 simpa using h x hx
theorem numB_all{l:List Int}(h:∀x∈l,numOk x):l.all numB=true:=by
 rw[List.all_eq_true];intro x hx;exact dt_ (h x hx)
theorem resPut_f{l:List Int}(h:∀x∈l,numOk x)(hl:l.length≤256):residual_Put.f l=some (resPut l,0):=by
 unfold residual_Put.f;rw[if_pos ⟨hl,numB_all h⟩]
theorem linePut_f{l:List Int}(h:∀x∈l,csB x=true)(hl:l.length≤256):line_Put.f l=some (lineP l,0):=by
 unfold line_Put.f;rw[if_pos ⟨hl,not_odd h⟩]
def sideT(c:Int)(x h:List Int):List Int:=List.zipWith (fun a b=>a+c*b) x h
theorem set_mid{A T R:List Int}(i:Nat)(hA:i<A.length)(hT:i<T.length)(hl:A.length=T.length):
  ((T.take i++A.drop i).set i (T.getD i 0))=T.take (i+1)++A.drop (i+1):=by
 have h1:(T.take i).length=i:=by rw[List.length_take];omega
 rw[List.set_append_right _ _ (by omega),h1,Nat.sub_self,List.drop_eq_getElem_cons hA,List.set_cons_zero,List.take_succ_eq_append_getElem hT,List.append_assoc,gD_,gE_ hT];rfl
theorem rd_mid{A T:List Int}(i:Nat)(hA:i<A.length)(hT:i≤T.length):rd (T.take i++A.drop i) (i:Int)=A.getD i 0:=by
 have h1:(T.take i).length=i:=by rw[List.length_take];omega
 unfold rd;rw[nC_,gD_,List.getElem?_append_right (by omega),h1,Nat.sub_self,List.getElem?_drop,gD_];rfl
theorem sideT_len{c:Int}{x h:List Int}(hl:x.length=h.length):(sideT c x h).length=x.length:=by
 unfold sideT;rw[List.length_zipWith];omega
theorem sideT_get{c:Int}{x h:List Int}(i:Nat)(hx:i<x.length)(hh:i<h.length):(sideT c x h).getD i 0=x.getD i 0+c*h.getD i 0:=by
 unfold sideT;rw[gD_,List.getElem?_zipWith,gE_ hx,gE_ hh,gD_,gD_,gE_ hx,gE_ hh];rfl
theorem wid64(x:Int)(h1: -9223372036854775808≤x)(h2:x<9223372036854775808):wrap64 x=x:=by unfold wrap64;omega
theorem wsum64(a c h:Int)(ha: -1000000≤a∧a≤1000000)(hc:c=0∨c=1∨c= -1)(hh: -1000000≤h∧h≤1000000):wrap64 (a+wrap64 (c*h))=a+c*h:=by
 rcases hc with rfl|rfl|rfl
 ·rw[wid64 (0*h) (by omega) (by omega),wid64 _ (by omega) (by omega)]
 ·rw[wid64 (1*h) (by omega) (by omega),wid64 _ (by omega) (by omega)]
 ·rw[wid64 (-1*h) (by omega) (by omega),wid64 _ (by omega) (by omega)]
theorem turn_l1(x0:List (List Int))(x1:Int)(x6:List (List Int))(x7:Int)(vV:List (List Int))(nR oG:Int)(A hr:List Int)(c:Int)(hc:wrap64 (x7*x1)=c)(hc1:c=0∨c=1∨c= -1)
  (h0:0<(x0.length:Int)) (h6:x6.length<5864062014805) (hh:UOne.rd_L1 x0 0=hr) (hl:A.length=hr.length) (hA:∀x∈A,-1000000≤x∧x≤1000000) (hH:∀x∈hr,-1000000≤x∧x≤1000000) (hn:A.length≤1000000) (k:Nat):
  ∀d i,i+d=A.length→side_turn.l1 (k+d+1) x0 x1 x6 x7 ((sideT c A hr).take i++A.drop i) vV nR oG (A.length:Int) (i:Int)=side_turn.l0 k x0 x1 (x6++ [sideT c A hr]) vV nR (wrap64 (oG+1)):=by
 intro d
 induction d with
 |zero=>
  intro i hi;obtain rfl:A.length=i:=by omega
  unfold side_turn.l1;rw[if_neg (by omega),if_pos h6,List.drop_length,List.append_nil,List.take_of_length_le (by rw[sideT_len hl];exact Nat.le_refl _)]
 |succ d ih=>
  intro i hi;have h1:i<A.length:=by omega
  have h2:i<hr.length:=by omega
  have e3:((sideT c A hr).take i++A.drop i).length=A.length:=by rw[List.length_append,List.length_take,List.length_drop,sideT_len hl];omega
  have e4:wrap64 ((i:Int)+1)=((i+1:Nat):Int):=by rw[wid64 _ (by omega) (by omega)];omega
  have e5:rd hr (i:Int)=hr.getD i 0:=by unfold rd;rw[nC_]
  have m1:A.getD i 0∈A:=by rw[gD_,gE_ h1];exact List.getElem_mem h1
  have m2:hr.getD i 0∈hr:=by rw[gD_,gE_ h2];exact List.getElem_mem h2
  rw[show k+(d+1)+1=(k+d+1)+1 from rfl];unfold side_turn.l1
  rw[hh,if_pos (by omega),if_pos (by omega),e3,if_pos (by omega),if_pos h0,if_pos (by omega),e4,nC_,rd_mid i h1 (by rw[sideT_len hl];omega),hc,e5,wsum64 _ _ _ (hA _ m1) hc1 (hH _ m2),←sideT_get i h1 h2,
   set_mid (R:= []) i h1 (by rw[sideT_len hl];exact h1) (by rw[sideT_len hl])]
  exact ih (i+1) (by omega)
theorem sideT_zero{x h:List Int}(hl:x.length=h.length):sideT 0 x h=x:=by
 apply List.ext_getElem (sideT_len hl);intro i h1 h2;refine(List.getElem_zipWith (h:=h1)).trans ?_;omega
theorem sideRow_ok{n:Nat}{l:List Int}(hl:l.length=n)(h:∀x∈l,csB x=true):sideRow n l=true:=by
 unfold sideRow;rw[not_odd h,hl];simp
end Go.Proofs.YtfghldonnffldaaGreatDoor
namespace Go.Proofs.YtfghldonnffldaaGreatDoor
open Go.RowKit YtfghldonnffldaaGreatDoorW.PrintWords YtfghldonnffldaaGreatDoorW.PrintLast YtfghldonnffldaaGreatDoorW.PrintMore TBase
open UOne VTwo YFou
theorem i16_rng(x:Int): -32768≤IntKind.i16.wrap x∧IntKind.i16.wrap x≤32767:=by
 have h:IntKind.i16.wrap x=(x+32768)%65536 - 32768:=by
  unfold IntKind.wrap;simp[IntKind.signed,IntKind.bits]
  try omega
 rw[h];omega
theorem bt_rng(s:ByteArray)(i:Int):0≤bt s i∧bt s i≤255:=by
 unfold bt
 split
 ·have:=UInt8.toNat_lt (s[i.toNat]);omega
 ·omega
theorem sample_bd(s:ByteArray)(h:s.size=1∨s.size=2):∃x,pcm_sample.f s=some x∧ -32768≤x∧x≤32767:=by
 unfold pcm_sample.f
 rcases h with h|h
 ·rw[if_pos (by omega),if_pos (by omega)];have hb:=bt_rng s 0;refine⟨_,rfl,?_⟩;rw[wrap_id (bt s 0) (by omega) (by omega),wrap_id _ (by omega) (by omega)];omega
 ·rw[if_neg (by omega),if_pos (by omega),if_pos (by omega)];have hb:=i16_rng (Go.bits .or .u16 (IntKind.u16.wrap (bt s 0)) (IntKind.u16.wrap ((IntKind.u16.wrap (bt s 1))*256)));refine⟨_,rfl,?_⟩;rw[wrap_id _ (by omega) (by omega)];exact hb
def smp(x:Int):Prop:= -32768≤x∧x≤32768
theorem smp_cs{x:Int}(h:smp x):csB x=true:=dt_ ⟨by have:=h.1;omega,by have:=h.2;omega⟩
def pcmAt(d:ByteArray)(ch w:Nat)(rows:List (List Int))(n:Nat):Prop:=∀j t,j<ch→t*ch+j<n→pcm_sample.f (d.extract ((t*ch+j)*w) ((t*ch+j+1)*w))=some ((rows.getD j []).getD t 0)
theorem pgetB_l0(k ch w n:Nat)(d:ByteArray)(bi:Int)(hc:ch=1∨ch=2)(hw:w=1∨w=2)(hn:n*w=d.size)(hd:d.size≤4096)(hnb:n≤4096):
  ∀m i,i+m=n→∀x6:List (List Int),x6.length=ch→(∀j,j<ch→(x6.getD j []).length=(i+ch - 1 - j) / ch)→(∀r∈x6,∀x∈r,smp x)→pcmAt d ch w x6 i→
   ∃rows,pcm_Get.l0 (k+m+1) d x6 (w:Int) (i:Int) (ch:Int) bi=some (rows,0)∧rows.length=ch∧(∀j,j<ch→(rows.getD j []).length=(n+ch - 1 - j) / ch)∧(∀r∈rows,∀x∈r,smp x)∧pcmAt d ch w rows n:=by
 intro m
 induction m with
 |zero=>
  intro i hi x6 hx hr hs hq;obtain rfl:i=n:=by omega
  have w1:wrap64 ((i:Int)*(w:Int))=(d.size:Int):=by rw[←Int.natCast_mul,hn];exact wrap_id _ (by omega) (by omega)
  rw[pcm_Get.l0,w1,if_neg (Int.lt_irrefl _)];exact⟨_,rfl,hx,hr,hs,hq⟩
 |succ m ih=>
  intro i hi x6 hx hr hs hq;have hiw:(i+1)*w≤d.size:=by rw[←hn];exact Nat.mul_le_mul_right w (by omega)
  have Jp:(i+1)*w=i*w+w:=by rw[Nat.add_mul,Nat.one_mul]
  obtain⟨a,ha⟩:∃a,i*w=a:=⟨_,rfl⟩;rw[ha] at Jp;obtain⟨b,hb⟩:∃b,(i+1)*w=b:=⟨_,rfl⟩;rw[hb] at hiw Jp;have w1:wrap64 ((i:Int)*(w:Int))=(a:Int):=by rw[←Int.natCast_mul,ha];exact wrap_id _ (by omega) (by omega)
  have w0:wrap64 ((i:Int)+1)=((i+1:Nat):Int):=wrap_id _ (by omega) (by omega);have w2:wrap64 (((i+1:Nat):Int)*(w:Int))=(b:Int):=by rw[←Int.natCast_mul,hb];exact wrap_id _ (by omega) (by omega)
  have hm:Int.tmod (i:Int) (ch:Int)=((i%ch:Nat):Int):=rfl;have hml:i%ch<ch:=Nat.mod_lt _ (by omega);have hsz:(d.extract a b).size=1∨(d.extract a b).size=2:=by rw[ByteArray.size_extract];clear w1 w0 w2 hm hml ih;omega
  obtain⟨x,hx1,hxb⟩:=sample_bd _ hsz;have hrow:(TBase.rd_L1 x6 ((i%ch:Nat):Int))=x6.getD (i%ch) []:=rfl
  have hmem:x6.getD (i%ch) []∈x6:=by
   rw[gD_,gE_ (by omega)];exact List.getElem_mem _
  have hrl:(x6.getD (i%ch) []).length≤i:=by rw[hr _ hml];clear w1 w0 w2 hm ih hx1;rcases hc with rfl|rfl<;>omega
  obtain⟨rows,hrows⟩:=ih (i+1) (by clear w1 w0 w2 hm hml;omega) (x6.set (i%ch) (x6.getD (i%ch) []++ [x])) (by rw[List.length_set];exact hx) (by
   intro j hj;rw[gD_,List.getElem?_set]
   by_cases hij:i%ch=j
   ·rw[if_pos hij,if_pos (by omega)];subst hij;show(x6.getD (i%ch) []++ [x]).length=_;rw[List.length_append,List.length_singleton,hr _ hml];clear w1 w0 w2 hm ih hx1 hr hs hrl hmem
    rcases hc with rfl|rfl<;>omega
   ·rw[if_neg hij,←gD_,hr j hj];clear w1 w0 w2 hm ih hx1 hr hs hrl hmem
    rcases hc with rfl|rfl<;>omega) (by
   intro r hr1 y hy
   rcases List.mem_or_eq_of_mem_set hr1 with h|h
   ·exact hs r h y hy
   ·subst h
    rcases List.mem_append.1 hy with h|h
    ·exact hs _ hmem y h
    ·obtain rfl:=List.mem_singleton.1 h
     exact⟨hxb.1,Int.le_trans hxb.2 (by decide)⟩) (by
   intro j t hj ht
   by_cases hij:i%ch=j
   ·subst hij
    have e1:(x6.set (i%ch) (x6.getD (i%ch) []++ [x])).getD (i%ch) []=x6.getD (i%ch) []++ [x]:=by
     rw[gD_,List.getElem?_set,if_pos rfl,if_pos (by omega)];rfl
    rw[e1];have hrl2:=hr _ hml
    by_cases hlt:t*ch+i%ch<i
    ·have h9:t<(x6.getD (i%ch) []).length:=by
      rw[hrl2];clear w1 w0 w2 hm ih hx1 hr hs hrl hmem hrl2 e1 hq
      rcases hc with rfl|rfl<;>omega
     have h8:=hq _ t hml hlt;rw[h8,gD_ (l:=x6.getD (i%ch) []++ [x]),List.getElem?_append_left h9,←gD_]
    ·have he:t*ch+i%ch=i:=by clear w1 w0 w2 hm ih hx1 hr hs hrl hmem hrl2 e1 hq;omega
     have h9:t=(x6.getD (i%ch) []).length:=by
      rw[hrl2];clear w1 w0 w2 hm ih hx1 hr hs hrl hmem hrl2 e1 hq
      rcases hc with rfl|rfl<;>omega
     rw[he,ha,hb,hx1,gD_ (l:=x6.getD (i%ch) []++ [x]),h9,List.getElem?_concat_length];rfl
   ·have e1:(x6.set (i%ch) (x6.getD (i%ch) []++ [x])).getD j []=x6.getD j []:=by
     rw[gD_,List.getElem?_set,if_neg hij,←gD_]
    rw[e1];refine hq j t hj ?_;clear w1 w0 w2 hm ih hx1 hr hs hrl hmem e1 hq
    rcases hc with rfl|rfl<;>omega)
  refine⟨rows,?_,hrows.2⟩;have c1:(a:Int)<(d.size:Int):=by clear w1 w0 w2 hm hml ih hrow hx1 hrows hr hs;omega
  have c2:¬((ch:Int)=0):=by clear w1 w0 w2 hm hml ih hrow hx1 hrows hr hs;omega
  have c3:(0:Int)≤((i%ch:Nat):Int):=Int.natCast_nonneg _;have c4:((i%ch:Nat):Int)<(x6.length:Int):=by rw[hx];exact Int.ofNat_lt.2 hml
  have c5:(0:Int)≤(a:Int):=Int.natCast_nonneg _;have c6:(a:Int)≤(b:Int):=by clear w1 w0 w2 hm hml ih hrow hx1 hrows hr hs;omega
  have c7:(b:Int)≤(d.size:Int):=by clear w1 w0 w2 hm hml ih hrow hx1 hrows hr hs;omega
  have c8:(x6.getD (i%ch) []).length<17592186044416:=Nat.lt_of_le_of_lt hrl (by clear w1 w0 w2 hm hml ih hrow hx1 hrows hr hs;omega);rw[show k+(m+1)+1=(k+m+1)+1 from rfl,pcm_Get.l0,w1,w0,w2,hm,if_pos c1,if_neg c2,if_pos c3,if_pos c4,if_pos c5,if_pos c6,if_pos c7,nC_,nC_,nC_,hx1,bs_,hrow,if_pos c8];exact hrows.1
theorem ch_le{ch:Nat}(hc:ch=1∨ch=2):ch≤2:=by omega
theorem half_len{c ch n j:Nat}(hc:ch=1∨ch=2)(hn:c*ch=n)(hj:j<ch):(n+ch - 1 - j) / ch=c:=by
 subst hn
 rcases hc with rfl|rfl<;>omega
theorem half_zero{ch j:Nat}(hc:ch=1∨ch=2)(hj:j<ch):0=(0+ch - 1 - j) / ch:=by rcases hc with rfl|rfl<;>omega
theorem pgetB_f(k ch bi c:Nat)(d:ByteArray)(hk:5000≤k)(hc:ch=1∨ch=2)(hb:bi=8∨bi=16)(hm:d.size=c*fsz ch bi)(hd:d.size≤4096):
  ∃rows,pcm_Get.f k d (ch:Int) (bi:Int)=some (rows,0)∧rows.length=ch∧(∀r∈rows,r.length=c)∧(∀r∈rows,∀x∈r,smp x)∧∃w,(w=1∨w=2)∧bi=8*w∧fsz ch bi=ch*w∧pcmAt d ch w rows (c*ch):=by
 obtain⟨w,hw,hw8⟩:∃w,(w=1∨w=2)∧bi=8*w:=by rcases hb with rfl|rfl;exact⟨1,.inl rfl,rfl⟩;exact⟨2,.inr rfl,rfl⟩
 have hfw:fsz ch bi=ch*w:=by subst hw8;show ch*(8*w) / 8=ch*w;rw[Nat.mul_left_comm,Nat.mul_div_cancel_left _ (by decide)]
 have hn:(c*ch)*w=d.size:=by rw[hm,hfw,Nat.mul_assoc]
 obtain⟨n,hne⟩:∃n,c*ch=n:=⟨_,rfl⟩;rw[hne] at hn;have hnb:n≤4096:=by rcases hw with rfl|rfl<;>omega
 obtain⟨k,rfl⟩:∃m,k=(m+n+1)+1:=⟨k - n - 2,by omega⟩;have tw:wrap64 (Int.tdiv (bi:Int) 8)=(w:Int):=by subst hw8;rcases hw with rfl|rfl<;>kernel_rfl
 have c1:decide (d.size%fsz ch bi=0)=true:=by rw[decide_eq_true_iff,hm];exact Nat.mul_mod_left _ _
 have c2:¬(decide ((d.size:Int)>4096)=true):=by rw[decide_eq_true_iff];omega
 have c3:(0:Int)≤(ch:Int):=Int.natCast_nonneg _;have c4:((ch:Nat):Int).toNat≤11728124029610:=by rw[nC_];exact Nat.le_trans (ch_le hc) (by decide)
 obtain⟨rows,hr,h1,h2,h3,hq⟩:=pgetB_l0 k ch w n d (bi:Int) hc hw hn hd hnb n 0 (by omega) (List.replicate ch []) List.length_replicate (by
  intro j hj;rw[gD_,List.getElem?_replicate,if_pos hj]
  exact half_zero hc hj) (by intro r hr x hx;rw[List.eq_of_mem_replicate hr] at hx;cases hx) (fun j t _ ht=>absurd ht (Nat.not_lt_zero _))
 refine⟨rows,?_,h1,?_,h3,w,hw,hw8,hfw,by rw[hne];exact hq⟩
 ·unfold pcm_Get.f;rw[mayf ch bi hc hb,bs_,if_pos rfl,pframes_f ch bi hc hb,bs_,if_pos c1,pcm_Get.j0,if_neg c2,if_pos c3,if_pos c4,nC_,tw];exact hr
 ·intro r hr;obtain⟨j,hj,rfl⟩:=List.getElem_of_mem hr;have h4:=h2 j (h1▸hj);rw[gD_,gE_ hj] at h4;have h5:(rows[j]).length=(n+ch - 1 - j) / ch:=h4;exact h5.trans (half_len hc hne (h1▸hj))
theorem nums_bytes(s:ByteArray):strOfNums (bytesOf s)=s:=by
 unfold strOfNums bytesOf;rw[List.map_map]
 have:(s.data.toList.map ((fun n:Int=>UInt8.ofNat n.toNat)∘fun b:UInt8=>(b.toNat:Int)))=s.data.toList:=by
  rw[show((fun n:Int=>UInt8.ofNat n.toNat)∘fun b:UInt8=>(b.toNat:Int))=id from funext fun b=>by simp];exact List.map_id _
 rw[this]
theorem bytesOf_app(s t:ByteArray):bytesOf (s++t)=bytesOf s++bytesOf t:=by
 unfold bytesOf;rw[ByteArray.data_append,Array.toList_append,List.map_append]
theorem i16_val(x:Int):IntKind.i16.wrap x=(x+32768)%65536 - 32768:=by
 unfold IntKind.wrap;simp[IntKind.signed,IntKind.bits]
 try omega
theorem bytes_sample(s:ByteArray)(w:Nat)(x:Int)(h:s.size=w)(hw:w=1∨w=2)(hx:pcm_sample.f s=some x): -((128*256 ^ (w - 1):Nat):Int)≤x∧x<((128*256 ^ (w - 1):Nat):Int)∧pcm_bytes.f x ((8*w:Nat):Int)=some (bytesOf s):=by
 have hl:s.data.toList.length=w:=by rw[data_length];exact h
 obtain⟨⟨l⟩⟩:=s
 rcases hw with rfl|rfl
 ·obtain⟨a,rfl⟩:=List.length_eq_one_iff.1 hl;have ha:=a.toNat_lt;have hb:bt ⟨⟨[a]⟩⟩ 0=(a.toNat:Int):=rfl;unfold pcm_sample.f at hx;have z:((ByteArray.size ⟨⟨[a]⟩⟩:Nat):Int)=1:=rfl;rw[z,if_pos rfl,if_pos (by decide),hb,wrap_id (a.toNat:Int) (by omega) (by omega),wrap_id _ (by omega) (by omega)] at hx;obtain rfl:=Option.some.inj hx;refine⟨by omega,by omega,?_⟩;unfold pcm_bytes.f;rw[if_pos (by decide),wrap_id _ (by omega) (by omega)];have e:((a.toNat:Int) - 128+128)%256=(a.toNat:Int):=by omega
  rw[e];rfl
 ·rcases l with _|⟨a,_|⟨c,l⟩⟩<;>simp at hl
  subst hl;have ha:=a.toNat_lt;have hc:=c.toNat_lt;have hb:bt ⟨⟨[a,c]⟩⟩ 0=(a.toNat:Int):=rfl;have hb1:bt ⟨⟨[a,c]⟩⟩ 1=(c.toNat:Int):=rfl;unfold pcm_sample.f at hx;have u1:IntKind.u16.wrap (a.toNat:Int)=(a.toNat:Int):=by rw[IntKind.wrap_u16];omega
  have u2:IntKind.u16.wrap (IntKind.u16.wrap (c.toNat:Int)*256)=((2 ^ 8*c.toNat:Nat):Int):=by rw[IntKind.wrap_u16,IntKind.wrap_u16];omega
  have u3:Go.bits .or .u16 (a.toNat:Int) ((2 ^ 8*c.toNat:Nat):Int)=((a.toNat+256*c.toNat:Nat):Int):=by
   rw[(bits_nat .u16 16 (by decide) (fun n h0 h1=>by rw[IntKind.wrap_u16];omega) a.toNat (2 ^ 8*c.toNat) (by omega) (by omega)).2,Nat.or_comm,←Nat.two_pow_add_eq_or_of_lt (by omega)]
   congr 1
   omega
  have z:((ByteArray.size ⟨⟨[a,c]⟩⟩:Nat):Int)=2:=rfl;rw[z,if_neg (by decide),if_pos (by decide),if_pos (by decide),hb,hb1,u1,u2,u3,i16_val,wrap_id _ (by omega) (by omega)] at hx;have hx2:=Option.some.inj hx;refine⟨by omega,by omega,?_⟩;unfold pcm_bytes.f;rw[if_neg (by decide)];have e0:x%256=(a.toNat:Int):=by omega
  have e1:x / 256%256=(c.toNat:Int):=by omega
  rw[e0,e1];rfl
theorem ext_succ(d:ByteArray)(a c:Nat)(h:a≤c):d.extract 0 a++d.extract a c=d.extract 0 c:=by
 rw[ByteArray.extract_append_extract]
 congr 1<;>omega
theorem pput_l1(k ch w c i most:Nat)(d:ByteArray)(rows:List (List Int))(hc:ch=1∨ch=2)(hw:w=1∨w=2)(hd:d.size=c*ch*w)(hd4:d.size≤4096)(hr:rows.length=ch)(hl:∀r∈rows,r.length=c)(hq:pcmAt d ch w rows (c*ch))(hm:most=128*256 ^ (w - 1))(hi:i<c):
  ∀m j,j+m=ch→pcm_Put.l1 (k+m+1) rows (most:Int) (bytesOf (d.extract 0 ((i*ch+j)*w))) (i:Int) (c:Int) (i:Int) rows (ch:Int) (j:Int) (ch:Int) ((8*w:Nat):Int)=pcm_Put.l0 k rows (most:Int) (bytesOf (d.extract 0 ((i*ch+ch)*w))) (c:Int) (wrap64 ((i:Int)+1)) (ch:Int) ((8*w:Nat):Int):=by
 intro m
 induction m with
 |zero=>
  intro j hj;obtain rfl:j=ch:=hj;rw[show k+0+1=k+1 from rfl,pcm_Put.l1,if_neg (Int.lt_irrefl _)]
 |succ m ih=>
  intro j hj;have hjc:j<ch:=by omega
  have hmem:rows.getD j []∈rows:=by rw[gD_,gE_ (by omega)];exact List.getElem_mem _
  have hrl:=hl _ hmem;have hrow:VTwo.rd_L2 rows (j:Int)=rows.getD j []:=rfl
  have hlt:i*ch+j<c*ch:=by
   have:(i+1)*ch≤c*ch:=Nat.mul_le_mul_right ch hi;rw[Nat.add_mul,Nat.one_mul] at this;omega
  have hs:=hq j i hjc hlt;obtain⟨x,hx⟩:∃x,(rows.getD j []).getD i 0=x:=⟨_,rfl⟩;rw[hx] at hs;have hle:(i*ch+j+1)*w≤d.size:=by rw[hd];exact Nat.mul_le_mul_right w hlt
  have he:(i*ch+j+1)*w=(i*ch+j)*w+w:=by rw[Nat.add_mul,Nat.one_mul]
  have hsz:(d.extract ((i*ch+j)*w) ((i*ch+j+1)*w)).size=w:=by rw[ByteArray.size_extract];omega
  obtain⟨b1,b2,b3⟩:=bytes_sample _ w x hsz hw hs;rw[←hm] at b1 b2;have hrd:rd (rows.getD j []) (i:Int)=x:=by rw[←hx];unfold rd;rw[nC_]
  have hmb:most≤32768:=by rw[hm];rcases hw with rfl|rfl<;>decide
  have c1:(j:Int)<(ch:Int):=Int.ofNat_lt.2 hjc;have c3:(j:Int)<(rows.length:Int):=by rw[hr];exact c1
  have c5:(i:Int)<(c:Int):=Int.ofNat_lt.2 hi;have c6:¬(x< -(most:Int)):=Int.not_lt.2 b1;have c7:¬(x≥(most:Int)):=Int.not_le.2 b2;have hab:(i*ch+j)*w≤(i*ch+j+1)*w:=by rw[he];exact Nat.le_add_right _ _
  have hlen:(bytesOf (d.extract 0 ((i*ch+j)*w))).length+(bytesOf (d.extract ((i*ch+j)*w) ((i*ch+j+1)*w))).length<140737488355328:=by
   rw[bytesOf_length,bytesOf_length,hsz];have h1:(d.extract 0 ((i*ch+j)*w)).size≤4096:=by rw[ByteArray.size_extract];exact Nat.le_trans (Nat.sub_le _ _) (Nat.le_trans (Nat.min_le_right _ _) hd4)
   have h2:w≤2:=by rcases hw with rfl|rfl<;>decide
   exact Nat.lt_of_le_of_lt (Nat.add_le_add h1 h2) (by decide)
  have hj1:j+1+m=ch:=by omega
  clear hs hx b1 b2 hlt hle;have w1:wrap64 (-(most:Int))= -(most:Int):=wrap_id _ (by omega) (by omega);have w2:wrap64 ((j:Int)+1)=((j+1:Nat):Int):=wrap_id _ (by omega) (by omega);rw[show k+(m+1)+1=(k+m+1)+1 from rfl,pcm_Put.l1,if_pos c1,if_pos (Int.natCast_nonneg _),if_pos c3,if_pos (Int.natCast_nonneg _),hrow,hrl,if_pos c5,hrd,w1,if_neg c6,if_neg c7,b3,bs_,if_pos hlen,←bytesOf_app,ext_succ _ _ _ hab,w2];exact ih (j+1) hj1
theorem pput_l0(k ch w c most:Nat)(d:ByteArray)(rows:List (List Int))(hc:ch=1∨ch=2)(hw:w=1∨w=2)(hd:d.size=c*ch*w)(hd4:d.size≤4096)(hc4:c≤4096)(hr:rows.length=ch)(hl:∀r∈rows,r.length=c)(hq:pcmAt d ch w rows (c*ch))(hm:most=128*256 ^ (w - 1)):
  ∀m i,i+m=c→pcm_Put.l0 (k+m*(ch+2)+1) rows (most:Int) (bytesOf (d.extract 0 (i*ch*w))) (c:Int) (i:Int) (ch:Int) ((8*w:Nat):Int)=some (d,0):=by
 intro m
 induction m with
 |zero=>
  intro i hi;obtain rfl:i=c:=hi;rw[Nat.zero_mul,pcm_Put.l0,if_neg (Int.lt_irrefl _),nums_bytes,←hd,ByteArray.extract_zero_size]
 |succ m ih=>
  intro i hi;have w1:wrap64 ((i:Int)+1)=((i+1:Nat):Int):=wrap_id _ (by omega) (by omega);have h1:=pput_l1 (k+m*(ch+2)+1) ch w c i most d rows hc hw hd hd4 hr hl hq hm (by omega) ch 0 (by omega);rw[show i*ch+0=i*ch from rfl,show((0:Nat):Int)=0 from rfl] at h1;rw[show k+(m+1)*(ch+2)+1=(k+m*(ch+2)+1+ch+1)+1 by rw[Nat.add_mul];omega,pcm_Put.l0,if_pos (by omega),hr,h1,w1,show i*ch+ch=(i+1)*ch by rw[Nat.add_mul,Nat.one_mul]];exact ih (i+1) (by omega)
theorem pput_f(k ch bi c w:Nat)(d:ByteArray)(rows:List (List Int))(hk:1000≤k)(hc:ch=1∨ch=2)(hb:bi=8∨bi=16)(hw:w=1∨w=2)(hw8:bi=8*w)(hfw:fsz ch bi=ch*w)(hm:d.size=c*fsz ch bi)(hd:d.size≤4096)(h1:1≤c)(jJ:c≤64)(hr:rows.length=ch)(hl:∀r∈rows,r.length=c)(hq:pcmAt d ch w rows (c*ch)):
  pcm_Put.f k rows (ch:Int) (bi:Int)=some (d,0):=by
 have hd2:d.size=c*ch*w:=by rw[hm,hfw,Nat.mul_assoc]
 have hf:=fsz_pos ch bi hc hb;have hcf:c*fsz ch bi≤4096:=by rw[←hm];exact hd
 have hcd:c≤4096 / fsz ch bi:=(Nat.le_div_iff_mul_le hf.1).2 hcf;have AY:0<ch:=by clear hm hd2 hcf;omega
 have hml:∀j,j<ch→(VTwo.rd_L2 rows (j:Int)).length=c:=fun j hj=>hl _ (by
  show rows.getD j []∈rows;rw[gD_,gE_ (by rw[hr];exact hj)]
  exact List.getElem_mem _)
 have h00:(VTwo.rd_L2 rows 0).length=c:=hml 0 AY;have hlast:=hml (ch - 1) (Nat.sub_lt AY Nat.one_pos);have h9:4096 / fsz ch bi≤4096:=Nat.div_le_self _ _;have hms:c*(ch+2)≤64*4:=Nat.mul_le_mul jJ (by clear hm hd2 hcf;omega);have c4:c≤4096:=Nat.le_trans jJ (by decide);have hput:=fun k=>pput_l0 k ch w c (128*256 ^ (w - 1)) d rows hc hw hd2 hd c4 hr hl hq rfl c 0 (Nat.zero_add _)
 rw[Nat.zero_mul,Nat.zero_mul,←hw8,show bytesOf (d.extract 0 0)=([]:List Int) by rw[ByteArray.extract_same];rfl] at hput;have c1:(0:Int)<(rows.length:Int):=by rw[hr];exact Int.ofNat_lt.2 AY
 have c2:¬(((fsz ch bi:Nat):Int)=0):=by have:=hf.1;omega
 have c3:¬((c:Int)>((4096 / fsz ch bi:Nat):Int)):=Int.not_lt.2 (Int.ofNat_le.2 hcd);have c5:((ch - 1:Nat):Int)<(rows.length:Int):=by rw[hr];exact Int.ofNat_lt.2 (Nat.sub_lt AY Nat.one_pos)
 have c6:(0:Int)≤((bi - 1:Nat):Int):=Int.natCast_nonneg _;obtain⟨k,rfl⟩:∃j,k=(j+c*(ch+2)+1)+1:=⟨k - c*(ch+2) - 2,by clear hm hd2 hcf hcd;omega⟩;have WY:ch≤2:=ch_le hc;have WZ:8≤bi∧bi≤16:=by rcases hb with rfl|rfl<;>decide
 clear hm hd2 hcf hcd hms hk hml;have w1:wrap64 ((ch:Int) - 1)=((ch - 1:Nat):Int):=by rw[wrap_id _ (by omega) (by omega)];omega
 have w4:wrap64 ((bi:Int) - 1)=((bi - 1:Nat):Int):=by rw[wrap_id _ (by clear w1;omega) (by clear w1;omega)];clear w1;omega
 have w2:wrap64 ((4096:Int) / ((fsz ch bi:Nat):Int))=((4096 / fsz ch bi:Nat):Int):=by
  have:(4096:Int) / ((fsz ch bi:Nat):Int)=((4096 / fsz ch bi:Nat):Int):=rfl;rw[this,wrap_id _ (by clear w1 w4;omega) (by clear w1 w4;omega)]
 have w3:shl .i64 1 ((bi - 1:Nat):Int)=((128*256 ^ (w - 1):Nat):Int):=by subst hw8;rcases hw with rfl|rfl<;>kernel_rfl
 have hne:(((c:Int) !=(c:Int)))=false:=by simp
 unfold pcm_Put.f;rw[mayf ch bi hc hb,bs_,if_pos rfl,if_pos (by rw[hr]),if_pos c1,pframe_f ch bi hc hb,bs_,if_neg c2,h00,w2,if_neg c3,w1,if_pos (Int.natCast_nonneg _),if_pos c5,hlast,hne,pcm_Put.j0,if_neg (by decide),w4,if_pos c6,if_pos c1,w3,h00];exact hput k
end Go.Proofs.YtfghldonnffldaaGreatDoor
namespace Go.Proofs.YtfghldonnffldaaGreatDoor
open Go.RowKit YtfghldonnffldaaGreatDoorW.PrintWords YtfghldonnffldaaGreatDoorW.PrintLast YtfghldonnffldaaGreatDoorW.PrintMore TBase
open UOne VTwo YFou HNin
theorem sideTurn_two(p:Int)(hp:p=1∨p= -1)(a c:List Int)(hl:c.length=a.length)(hn:a.length≤1000000)(ha:∀x∈a,csB x=true)(hc:∀x∈c,csB x=true)(hd:∀x∈sideT p c a,csB x=true):
  side_turn.f (2*a.length+5) [a,c] p=some ([a,sideT p c a],0):=by
 have ba:∀x∈a,-1000000≤x∧x≤1000000:=fun x hx=>by have:=csB_of (ha x hx);omega
 have bc:∀x∈c,-1000000≤x∧x≤1000000:=fun x hx=>by have:=csB_of (hc x hx);omega
 have m1:side_May.f [a,c]=some true:=by
  unfold side_May.f;show some (([a,c].all (sideRow a.length)) && _)=_;simp[sideRow_ok rfl ha,sideRow_ok hl hc]
 have m2:side_May.f [a,sideT p c a]=some true:=by
  unfold side_May.f;show some (([a,sideT p c a].all (sideRow a.length)) && _)=_;simp[sideRow_ok rfl ha,sideRow_ok (n:=a.length) (by rw[sideT_len hl];exact hl) hd]
 unfold side_turn.f;rw[m1,bs_,if_pos rfl,show 2*a.length+5=((a.length+(a.length+2)+1)+1)+1 by omega];unfold side_turn.l0;rw[if_pos (by simp),if_pos (by omega),if_pos (by simp),show UOne.rd_L1 [a,c] 0=a from rfl];unfold slices_Clone_int_int.f;rw[if_pos (by omega),bs_];have t1:=turn_l1 [a,c] p [] 0 [a,c] ([a,c].length:Int) 0 a a 0 (by rw[Int.zero_mul];exact wid64 0 (by omega) (by omega)) (by omega) (by simp) (by simp) rfl rfl ba ba hn (a.length+2+1) a.length 0 (by omega);rw[List.take_zero,List.nil_append,List.drop_zero,sideT_zero rfl] at t1;rw[show a.length+(a.length+2)+1+1=a.length+2+1+a.length+1 by omega];rw[show((0:Nat):Int)=0 from rfl] at t1;rw[t1];rw[show wrap64 (0+1)=1 from wid64 1 (by omega) (by omega)];unfold side_turn.l0;rw[if_pos (by simp),if_pos (by omega),if_pos (by simp),show UOne.rd_L1 [a,c] 1=c from rfl];unfold slices_Clone_int_int.f;rw[if_pos (by omega),bs_];have t2:=turn_l1 [a,c] p [a] 1 [a,c] ([a,c].length:Int) 1 c a p (by rw[Int.one_mul];exact wid64 p (by omega) (by omega)) (by omega) (by simp) (by simp) rfl hl bc ba (by omega) 1 c.length 0 (by omega);rw[List.take_zero,List.nil_append,List.drop_zero] at t2;rw[show a.length+2=1+c.length+1 by omega];rw[show((0:Nat):Int)=0 from rfl] at t2;rw[List.nil_append,t2,show wrap64 (1+1)=2 from wid64 2 (by omega) (by omega)];unfold side_turn.l0;rw[if_neg (by simp),show [a]++ [sideT p c a]= [a,sideT p c a] from rfl,m2,bs_,if_pos rfl]
theorem sideTurn_one(p:Int)(a:List Int)(hn:a.length≤1000000)(ha:∀x∈a,csB x=true):side_turn.f (a.length+4) [a] p=some ([a],0):=by
 have ba:∀x∈a,-1000000≤x∧x≤1000000:=fun x hx=>by have:=csB_of (ha x hx);omega
 have m1:side_May.f [a]=some true:=by
  unfold side_May.f;show some (([a].all (sideRow a.length)) && _)=_;simp[sideRow_ok rfl ha]
 unfold side_turn.f;rw[m1,bs_,if_pos rfl,show a.length+4=((2+a.length)+1)+1 by omega];unfold side_turn.l0;rw[if_pos (by simp),if_pos (by omega),if_pos (by simp),show UOne.rd_L1 [a] 0=a from rfl];unfold slices_Clone_int_int.f;rw[if_pos (by omega),bs_];have t1:=turn_l1 [a] p [] 0 [a] ([a].length:Int) 0 a a 0 (by rw[Int.zero_mul];exact wid64 0 (by omega) (by omega)) (by omega) (by simp) (by simp) rfl rfl ba ba hn 2 a.length 0 (by omega);rw[List.take_zero,List.nil_append,List.drop_zero,sideT_zero rfl] at t1;rw[show((0:Nat):Int)=0 from rfl] at t1;rw[t1,show wrap64 (0+1)=1 from wid64 1 (by omega) (by omega)];unfold side_turn.l0;rw[if_neg (by simp),List.nil_append,m1,bs_,if_pos rfl]
theorem turn_up{k K:Nat}{l:List (List Int)}{p:Int}{r:List (List Int)×Int}(h:side_turn.f k l p=some r)(hk:k≤K):side_turn.f K l p=some r:=by
 obtain⟨d,rfl⟩:=Nat.exists_eq_add_of_le hk;exact leO_le (fun k=>side_turn.f k l p) (fun k=>side_turn.mono _ _ k) d k _ h
theorem sideT_back{c a:List Int}(hl:c.length=a.length):sideT 1 (sideT (-1) c a) a=c:=by
 apply List.ext_getElem (by rw[sideT_len (by rw[sideT_len hl];exact hl),sideT_len hl]);intro i h1 h2;have hi:i<(sideT (-1) c a).length:=by rw[sideT_len hl];exact h2
 refine(List.getElem_zipWith (h:=h1)).trans ?_;have e:(sideT (-1) c a)[i]'hi=c[i]+ -1*a[i]'(by omega):=List.getElem_zipWith (h:=hi);rw[e];omega
theorem cs_all{l:List Int}(h:∀x∈l,smp x):∀x∈l,csB x=true:=fun x hx=>smp_cs (h x hx)
theorem div_smp{x:Int}(k:Nat)(h:smp x):smp (x / (2 ^ k:Nat)):=by
 have hp:(1:Int)≤((2 ^ k:Nat):Int):=Int.ofNat_le.2 Nat.one_le_two_pow;obtain⟨p,hpe⟩:∃p:Int,((2 ^ k:Nat):Int)=p:=⟨_,rfl⟩;rw[hpe] at hp ⊢;unfold smp at h ⊢
 rcases Int.lt_or_le x 0 with h0|h0
 ·have h1:x≤x / p:=Int.le_ediv_of_mul_le (by omega) (by
   have:=Int.mul_le_mul_of_nonpos_left (a:=x) (b:=p) (c:=1) (by omega) hp
   omega)
  have h2:x / p<0:=Int.ediv_neg_of_neg_of_pos h0 (by omega);omega
 ·have h1:0≤x / p:=Int.ediv_nonneg h0 (by omega);have h2:x / p≤x:=Int.ediv_le_self _ h0;omega
theorem downL_smp(k:Nat)(l:List Int)(h:∀x∈l,smp x):∀x∈downL k l,smp x:=by
 intro x hx;unfold downL at hx;obtain⟨y,hy,rfl⟩:=List.mem_map.1 hx;exact div_smp k (h y hy)
theorem wz0(n:Int):wrap64 (0*n)=0:=by rw[Int.zero_mul];exact wid64 0 (by omega) (by omega)
theorem wz1(n:Nat)(h:n≤64):wrap64 (1*(n:Int))=(n:Int):=by rw[Int.one_mul];exact wid64 _ (by omega) (by omega)
theorem wz2(n:Nat)(h:n≤64):wrap64 (2*(n:Int))=((n+n:Nat):Int):=by rw[wid64 _ (by omega) (by omega)];omega
theorem wy1(n:Nat)(h:n≤64):wrap64 ((n:Int)*1)=(n:Int):=by rw[Int.mul_one];exact wid64 _ (by omega) (by omega)
theorem wy2(n:Nat)(h:n≤64):wrap64 ((n:Int)*2)=((n+n:Nat):Int):=by rw[wid64 _ (by omega) (by omega)];omega
theorem w01:wrap64 (0+1)=1:=wid64 1 (by omega) (by omega)
theorem w12:wrap64 (1+1)=2:=wid64 2 (by omega) (by omega)
theorem wsu(i:Nat)(h:i≤4096):wrap64 ((i:Int)+1)=((i+1:Nat):Int):=by rw[wid64 _ (by omega) (by omega)];omega
theorem shl_back(x:Int)(b:Nat)(hb:b≤15)(hx:smp x)(hd:x%(2 ^ b:Nat)=0):shl .i64 (x / (2 ^ b:Nat)) (b:Int)=x:=by
 unfold shl;rw[nC_,Nat.min_eq_left (by show b≤64;omega)]
 have e:(x / (2 ^ b:Nat))*2 ^ b=x:=by
  have h1:=Int.ediv_mul_cancel (Int.dvd_of_emod_eq_zero hd)
  rwa [Int.natCast_pow] at h1 ⊢
 rw[e,IntKind.wrap_i64];have:=hx.1;have:=hx.2;omega
theorem up_l0(b:Nat)(a:List Int)(hb:b≤15)(hl:a.length≤4096)(h:∀x∈a,smp x)(hd:∀x∈a,x%(2 ^ b:Nat)=0)(k:Nat):
  ∀m i,i+m=a.length→shift_Up.l0 (k+m+1) (b:Int) (a.take i++(downL b a).drop i) (a.length:Int) (i:Int)=some (a,0):=by
 have hdl:(downL b a).length=a.length:=downL_len b a;intro m
 induction m with
 |zero=>
  intro i hi;obtain rfl:i=a.length:=hi
  have hmay:shift_may.f a (b:Int)=some true:=by
   unfold shift_may.f;rw[not_odd (cs_all h),dt_ (Int.natCast_nonneg b),dt_ (show(b:Int)≤15 by omega)];rfl
  rw[show k+0+1=k+1 from rfl,shift_Up.l0,if_neg (Int.lt_irrefl _),List.take_length,List.drop_of_length_le (by rw[hdl];exact Nat.le_refl _),List.append_nil,hmay,bs_,if_pos rfl]
 |succ m ih=>
  intro i hi;have h1:i<a.length:=by omega
  have hm:a[i]∈a:=List.getElem_mem h1;have e3:(a.take i++(downL b a).drop i).length=a.length:=by rw[List.length_append,List.length_take,List.length_drop,hdl];omega
  have e5:(downL b a).getD i 0=a[i] / (2 ^ b:Nat):=by
   unfold downL;rw[gD_,List.getElem?_map,gE_ h1];rfl
  have e6:a.getD i 0=a[i]:=by rw[gD_,gE_ h1];rfl
  rw[show k+(m+1)+1=(k+m+1)+1 from rfl,shift_Up.l0,if_pos (by omega),if_pos (Int.natCast_nonneg _),e3,if_pos (by omega),if_pos (Int.natCast_nonneg _),nC_,rd_mid i (by omega) (by omega),e5,shl_back _ b hb (h _ hm) (hd _ hm),←e6,set_mid (R:= []) i (by omega) h1 hdl,wsu i (by omega)];exact ih (i+1) (by omega)
theorem up_f(k b:Nat)(a:List Int)(hk:5000≤k)(hb:b≤15)(hl:a.length≤4096)(h:∀x∈a,smp x)(hd:∀x∈a,x%(2 ^ b:Nat)=0):shift_Up.f k (downL b a) (b:Int)=some (a,0):=by
 have hdl:(downL b a).length=a.length:=downL_len b a
 have hmay:shift_may.f (downL b a) (b:Int)=some true:=by
  unfold shift_may.f;rw[not_odd (cs_all (downL_smp b a h)),dt_ (Int.natCast_nonneg b),dt_ (show(b:Int)≤15 by omega)];rfl
 obtain⟨k,rfl⟩:∃j,k=j+a.length+1:=⟨k - a.length - 1,by omega⟩;have h0:=up_l0 b a hb hl h hd k a.length 0 (Nat.zero_add _);rw[List.take_zero,List.nil_append,List.drop_zero] at h0;unfold shift_Up.f slices_Clone_int_int.f;rw[hmay,bs_,if_pos rfl,if_pos (by omega),bs_,hdl];exact h0
theorem down_f(l:List Int)(k:Nat)(hk:k≤15)(hl:l.length≤4096)(h:∀x∈l,smp x)(hd:∀x∈l,x%(2 ^ k:Nat)=0):shift_Down.f l (k:Int)=some (downL k l,0):=by
 unfold shift_Down.f;rw[if_pos ⟨by omega,by omega,by omega,not_odd (cs_all h),List.all_eq_true.2 (fun x hx=>by rw[nC_,beq_iff_eq];exact hd x hx)⟩,nC_]
theorem mx00:mx 0 0=0:=by kernel_rfl
theorem coded_one(k b:Nat)(a:List Int)(hl:a.length≤64)(h:∀x∈a,csB x=true):segment_sound_coded.l1 (k+2) (b:Int) 0 ([]:List Int) [a] 1 0=some (resPut (lineP a),(b:Int),true):=by
 have hal:(lineP a).length=a.length:=turnL_len _ _ _ _ _;rw[show k+2=(k+1)+1 from rfl,segment_sound_coded.l1,if_pos (by decide),if_pos (by decide),if_pos (show(0:Int)<(([a]:List (List Int)).length:Int) from by simp),show YFou.rd_L2 [a] 0=a from rfl,linePut_f h (by omega),bs_];dsimp only;rw[if_pos (by rw[List.length_nil,hal];omega),mx00,List.nil_append,show wrap64 (0+1)=1 from wid64 1 (by omega) (by omega),segment_sound_coded.l1,if_neg (by decide),resPut_f (lineP_num h) (by omega),bs_];rfl
theorem coded_two(k b:Nat)(a c:List Int)(hl:a.length≤64)(hlc:c.length≤64)(h:∀x∈a,csB x=true)(hc:∀x∈c,csB x=true):segment_sound_coded.l1 (k+3) (b:Int) 0 ([]:List Int) [a,c] 2 0=some (resPut (lineP a++lineP c),(b:Int),true):=by
 have hal:(lineP a).length=a.length:=turnL_len _ _ _ _ _;have hcl:(lineP c).length=c.length:=turnL_len _ _ _ _ _;rw[show k+3=((k+1)+1)+1 from rfl,segment_sound_coded.l1,if_pos (by decide),if_pos (by decide),if_pos (show(0:Int)<(([a,c]:List (List Int)).length:Int) from by simp),show YFou.rd_L2 [a,c] 0=a from rfl,linePut_f h (by omega),bs_];dsimp only;rw[if_pos (by rw[List.length_nil,hal];omega),mx00,List.nil_append,show wrap64 (0+1)=1 from wid64 1 (by omega) (by omega),segment_sound_coded.l1,if_pos (by decide),if_pos (by decide),if_pos (show(1:Int)<(([a,c]:List (List Int)).length:Int) from by simp),show YFou.rd_L2 [a,c] 1=c from rfl,linePut_f hc (by omega),bs_];dsimp only;rw[if_pos (by rw[hal,hcl];omega),mx00,show wrap64 (1+1)=2 from wid64 2 (by omega) (by omega),segment_sound_coded.l1,if_neg (by decide),resPut_f (l:=lineP a++lineP c) (fun x hx=>(List.mem_append.1 hx).elim (lineP_num h x) (lineP_num hc x)) (by rw[List.length_append,hal,hcl];omega),bs_];rfl
theorem wasted_f(l:List (List Int))(h:∀r∈l,∀x∈r,smp x):segment_wasted.f l=some (wastedL l:Int):=by
 unfold segment_wasted.f;rw[if_pos (List.all_eq_true.2 (fun r hr=>by rw[not_odd (cs_all (h r hr))];rfl))]
theorem sideT_smp{a c:List Int}(ha:∀x∈a,smp x)(hc:∀x∈c,smp x):∀x∈sideT (-1) c a,csB x=true:=by
 intro x hx;unfold sideT at hx;obtain⟨i,hi,rfl⟩:=List.getElem_of_mem hx;rw[List.getElem_zipWith];have h1:=hc _ (List.getElem_mem (l:=c) (n:=i) (by rw[List.length_zipWith] at hi;omega));have h2:=ha _ (List.getElem_mem (l:=a) (n:=i) (by rw[List.length_zipWith] at hi;omega));unfold smp at h1 h2;exact dt_ ⟨by omega,by omega⟩
theorem l0_one(k b:Nat)(a:List Int)(hk:100≤k)(hb:b≤15)(hl:a.length≤64)(h:∀x∈a,smp x)(hd:∀x∈a,x%(2 ^ b:Nat)=0):segment_sound_coded.l0 (k+2) [a] (b:Int) 1 0=some (resPut (lineP (downL b a)),(b:Int),true):=by
 have h1:=downL_smp b a h;have e1:(downL b a).length=a.length:=downL_len b a;have hs:side_Put.f k [downL b a]=some ([downL b a],0):=by unfold side_Put.f;rw[turn_up (sideTurn_one (-1) (downL b a) (by omega) (cs_all h1)) (show(downL b a).length+4≤k by omega)];rfl
 obtain⟨j,rfl⟩:∃j,k=j+2:=⟨k - 2,by omega⟩;rw[show j+2+2=(j+2+1)+1 from rfl,segment_sound_coded.l0,if_pos (by decide),if_pos (by decide),if_pos (show(0:Int)<(([a]:List (List Int)).length:Int) from by simp),show YFou.rd_L2 [a] 0=a from rfl,down_f a b hb (by omega) h hd,bs_];dsimp only;rw[show wrap64 (0+1)=1 from wid64 1 (by omega) (by omega),show([a]:List (List Int)).set (0:Int).toNat (downL b a)= [downL b a] from rfl,segment_sound_coded.l0,if_neg (by decide),hs,bs_];exact coded_one j b (downL b a) (by omega) (cs_all h1)
theorem l0_two(k b:Nat)(a c:List Int)(hk:200≤k)(hb:b≤15)(hl:a.length≤64)(hlc:c.length=a.length)(h:∀x∈a,smp x)(hc:∀x∈c,smp x)(hd:∀x∈a,x%(2 ^ b:Nat)=0)(hdc:∀x∈c,x%(2 ^ b:Nat)=0):
  segment_sound_coded.l0 (k+3) [a,c] (b:Int) 2 0=some (resPut (lineP (downL b a)++lineP (sideT (-1) (downL b c) (downL b a))),(b:Int),true):=by
 have h1:=downL_smp b a h;have h2:=downL_smp b c hc;have e1:(downL b a).length=a.length:=downL_len b a;have e2:(downL b c).length=c.length:=downL_len b c;have h3:=sideT_smp h1 h2;have e3:(sideT (-1) (downL b c) (downL b a)).length=a.length:=by rw[sideT_len (by omega)];omega
 have hs:side_Put.f k [downL b a,downL b c]=some ([downL b a,sideT (-1) (downL b c) (downL b a)],0):=by unfold side_Put.f;rw[turn_up (sideTurn_two (-1) (.inr rfl) (downL b a) (downL b c) (by omega) (by omega) (cs_all h1) (cs_all h2) h3) (show 2*(downL b a).length+5≤k by omega)];rfl
 obtain⟨j,rfl⟩:∃j,k=j+3:=⟨k - 3,by omega⟩;rw[show j+3+3=((j+3+1)+1)+1 from rfl,segment_sound_coded.l0,if_pos (by decide),if_pos (by decide),if_pos (show(0:Int)<(([a,c]:List (List Int)).length:Int) from by simp),show YFou.rd_L2 [a,c] 0=a from rfl,down_f a b hb (by omega) h hd,bs_];dsimp only;rw[show wrap64 (0+1)=1 from wid64 1 (by omega) (by omega),show([a,c]:List (List Int)).set (0:Int).toNat (downL b a)= [downL b a,c] from rfl,segment_sound_coded.l0,if_pos (by decide),if_pos (by decide),if_pos (show(1:Int)<(([downL b a,c]:List (List Int)).length:Int) from by simp),show YFou.rd_L2 [downL b a,c] 1=c from rfl,down_f c b hb (by omega) hc hdc,bs_];dsimp only;rw[show wrap64 (1+1)=2 from wid64 2 (by omega) (by omega),show([downL b a,c]:List (List Int)).set (1:Int).toNat (downL b c)= [downL b a,downL b c] from rfl,segment_sound_coded.l0,if_neg (by decide),hs,bs_];exact coded_two j b (downL b a) (sideT (-1) (downL b c) (downL b a)) (by omega) (by omega) (cs_all h1) h3
theorem frames_one(k b:Nat)(a:List Int)(bi:Int)(d:ByteArray)(hk:6000≤k)(hb:b≤15)(hl:a.length≤64)(h:∀x∈a,smp x)(hd:∀x∈a,x%(2 ^ b:Nat)=0)(hp:∀K,1000≤K→pcm_Put.f K [a] 1 bi=some (d,0)):segment_frames.f (k+4) (resPut (lineP (downL b a))) 1 bi (b:Int) (a.length:Int)=some d:=by
 have h1:=cs_all (downL_smp b a h);have e1:(downL b a).length=a.length:=downL_len b a;have hal:(lineP (downL b a)).length=a.length:=(turnL_len _ _ _ _ _).trans e1;have hr:=residualGet_f (lineP (downL b a)) (by omega) (lineP_num h1);rw[hal] at hr
 have hsg:side_Get.f (k+2) [downL b a]=some ([downL b a],0):=by
  unfold side_Get.f;rw[turn_up (sideTurn_one 1 (downL b a) (by omega) h1) (show(downL b a).length+4≤k+2 by omega)];rfl
 unfold segment_frames.f;rw[wy1 _ hl,hr,bs_];dsimp only;rw[if_pos rfl,segment_frames.l0,if_pos (by decide),wz0,w01,wz1 _ hl,if_pos (by decide),if_pos (Int.natCast_nonneg _),if_pos (by rw[hal];exact Int.le_refl _),nC_,show((0:Int)).toNat=0 from rfl,List.drop_zero,List.take_of_length_le (Nat.le_of_eq hal),lineGet_f _ (by omega) h1,bs_];dsimp only;rw[if_pos (by decide),List.nil_append,segment_frames.l0,if_neg (by decide),hsg,bs_];dsimp only;rw[show(([downL b a]:List (List Int)).length:Int)=1 from rfl,segment_frames.l1,if_pos (by decide),if_pos (by decide),if_pos (show(0:Int)<(([downL b a]:List (List Int)).length:Int) from by simp),show HNin.rd_L1 [downL b a] 0=downL b a from rfl,up_f (k+1) b a (by omega) hb (by omega) h hd,bs_];dsimp only;rw[show([downL b a]:List (List Int)).set (0:Int).toNat a= [a] from rfl,show wrap64 (0+1)=1 from wid64 1 (by omega) (by omega),segment_frames.l1,if_neg (by decide),hp k (by omega),bs_]
theorem frames_two(k b:Nat)(a c:List Int)(bi:Int)(d:ByteArray)(hk:6000≤k)(hb:b≤15)(hl:a.length≤64)(hlc:c.length=a.length)(h:∀x∈a,smp x)(hc:∀x∈c,smp x)(hd:∀x∈a,x%(2 ^ b:Nat)=0)(hdc:∀x∈c,x%(2 ^ b:Nat)=0)(hp:∀K,1000≤K→pcm_Put.f K [a,c] 2 bi=some (d,0)):segment_frames.f (k+6) (resPut (lineP (downL b a)++lineP (sideT (-1) (downL b c) (downL b a)))) 2 bi (b:Int) (a.length:Int)=some d:=by
 have g1:=downL_smp b a h;have g2:=downL_smp b c hc;have h1:=cs_all g1;have e1:(downL b a).length=a.length:=downL_len b a;have e2:(downL b c).length=c.length:=downL_len b c;have h3:=sideT_smp g1 g2;have e3:(sideT (-1) (downL b c) (downL b a)).length=a.length:=by rw[sideT_len (by omega)];omega
 have hal:(lineP (downL b a)).length=a.length:=(turnL_len _ _ _ _ _).trans e1;have hsl:(lineP (sideT (-1) (downL b c) (downL b a))).length=a.length:=(turnL_len _ _ _ _ _).trans e3;have hr:=residualGet_f (lineP (downL b a)++lineP (sideT (-1) (downL b c) (downL b a))) (by rw[List.length_append];omega) (fun x hx=>(List.mem_append.1 hx).elim (lineP_num h1 x) (lineP_num h3 x));have hll:(lineP (downL b a)++lineP (sideT (-1) (downL b c) (downL b a))).length=a.length+a.length:=by rw[List.length_append,hal,hsl]
 rw[hll] at hr;have hbk:sideT 1 (sideT (-1) (downL b c) (downL b a)) (downL b a)=downL b c:=sideT_back (by omega)
 have hsg:side_Get.f (k+3) [downL b a,sideT (-1) (downL b c) (downL b a)]=some ([downL b a,downL b c],0):=by
  unfold side_Get.f;rw[turn_up (sideTurn_two 1 (.inl rfl) (downL b a) (sideT (-1) (downL b c) (downL b a)) (by omega) (by omega) h1 h3 (by rw[hbk];exact cs_all g2)) (show 2*(downL b a).length+5≤k+3 by omega),hbk];rfl
 unfold segment_frames.f;rw[wy2 _ hl,hr,bs_];dsimp only;rw[if_pos rfl,segment_frames.l0,if_pos (by decide),wz0,w01,wz1 _ hl,if_pos (by decide),if_pos (Int.natCast_nonneg _),if_pos (by rw[hll];omega),nC_,show((0:Int)).toNat=0 from rfl,List.drop_zero,List.take_append_of_le_length (Nat.le_of_eq hal.symm),List.take_of_length_le (Nat.le_of_eq hal),lineGet_f _ (by omega) h1,bs_];dsimp only;rw[if_pos (by decide),List.nil_append,segment_frames.l0,if_pos (by decide),wz1 _ hl,w12,wz2 _ hl,if_pos (Int.natCast_nonneg _),if_pos (by omega),if_pos (by rw[hll];exact Int.le_refl _),nC_,nC_,List.take_of_length_le (Nat.le_of_eq hll),List.drop_append_of_le_length (Nat.le_of_eq hal.symm),List.drop_of_length_le (Nat.le_of_eq hal),List.nil_append,lineGet_f _ (by omega) h3,bs_];dsimp only;rw[if_pos (by simp),segment_frames.l0,if_neg (by decide),show([downL b a]++ [sideT (-1) (downL b c) (downL b a)]:List (List Int))= [downL b a,sideT (-1) (downL b c) (downL b a)] from rfl,hsg,bs_];dsimp only;rw[show(([downL b a,downL b c]:List (List Int)).length:Int)=2 from rfl,segment_frames.l1,if_pos (by decide),if_pos (by decide),if_pos (show(0:Int)<(([downL b a,downL b c]:List (List Int)).length:Int) from by simp),show HNin.rd_L1 [downL b a,downL b c] 0=downL b a from rfl,up_f (k+2) b a (by omega) hb (by omega) h hd,bs_];dsimp only;rw[show([downL b a,downL b c]:List (List Int)).set (0:Int).toNat a= [a,downL b c] from rfl,w01,segment_frames.l1,if_pos (by decide),if_pos (by decide),if_pos (show(1:Int)<(([a,downL b c]:List (List Int)).length:Int) from by simp),show HNin.rd_L1 [a,downL b c] 1=downL b c from rfl,up_f (k+1) b c (by omega) hb (by omega) hc hdc,bs_];dsimp only;rw[show([a,downL b c]:List (List Int)).set (1:Int).toNat c= [a,c] from rfl,w12,segment_frames.l1,if_neg (by decide),hp k (by omega),bs_]
theorem two_list{α:Type}(l:List α)(h:l.length=2):∃a b,l= [a,b]:=by
 rcases l with _|⟨a,_|⟨b,l⟩⟩<;>simp at h
 subst h;exact⟨a,b,rfl⟩
theorem coded_f(k ch bi c:Nat)(d:ByteArray)(hk:6000≤k)(hc:ch=1∨ch=2)(hb:bi=8∨bi=16)(hm:d.size=c*fsz ch bi)(hd:d.size≤4096)(h1c:1≤c)(jJ:c≤64):∃own,∃b:Nat,b≤15∧segment_sound_coded.f k d (ch:Int) (bi:Int)=some (own,(b:Int),true)∧∀K,7000≤K→segment_frames.f K own (ch:Int) (bi:Int) (b:Int) (c:Int)=some d:=by
 obtain⟨rows,hr,h1,h2,h3,w,hw1,hw8,hfw,hq⟩:=pgetB_f k ch bi c d (Nat.le_trans (by decide) hk) hc hb hm hd;have hp:∀K,1000≤K→pcm_Put.f K rows (ch:Int) (bi:Int)=some (d,0):=fun K hK=>pput_f K ch bi c w d rows hK hc hb hw1 hw8 hfw hm hd h1c jJ h1 h2 hq
 have hw:=wasted_f rows h3;have hdv:=wastedL_dvd rows;have hle:=wastedL_le rows;obtain⟨b,hbe⟩:∃b,wastedL rows=b:=⟨_,rfl⟩;rw[hbe] at hw hdv hle;obtain⟨k,rfl⟩:∃j,k=(j+200)+3:=⟨k - 203,by omega⟩;clear hbe hd hm hq hfw;unfold segment_sound_coded.f;rw[hr,bs_];dsimp only;rw[hw,bs_,h1]
 rcases hc with rfl|rfl
 ·obtain⟨a,rfl⟩:=List.length_eq_one_iff.1 h1;have m1:a∈ [a]:=List.mem_singleton.2 rfl;refine⟨_,b,hle,l0_one (k+200+1) b a (by omega) hle (by rw[h2 a m1];exact jJ) (h3 a m1) (hdv a m1),fun K hK=>?_⟩;obtain⟨K,rfl⟩:∃j,K=j+4:=⟨K - 4,by omega⟩;have:=frames_one K b a (bi:Int) d (by omega) hle (by rw[h2 a m1];exact jJ) (h3 a m1) (hdv a m1) hp;rw[h2 a m1] at this;exact this
 ·obtain⟨a,a2,rfl⟩:=two_list rows h1;have m1:a∈ [a,a2]:=List.mem_cons_self;have m2:a2∈ [a,a2]:=List.mem_cons_of_mem _ (List.mem_singleton.2 rfl);refine⟨_,b,hle,l0_two (k+200) b a a2 (by omega) hle (by rw[h2 a m1];exact jJ) (by rw[h2 a m1,h2 a2 m2]) (h3 a m1) (h3 a2 m2) (hdv a m1) (hdv a2 m2),fun K hK=>?_⟩;obtain⟨K,rfl⟩:∃j,K=j+6:=⟨K - 6,by omega⟩;have:=frames_two K b a a2 (bi:Int) d (by omega) hle (by rw[h2 a m1];exact jJ) (by rw[h2 a m1,h2 a2 m2]) (h3 a m1) (h3 a2 m2) (hdv a m1) (hdv a2 m2) hp;rw[h2 a m1] at this;exact this
theorem told_get(k kind b c ch bi:Nat)(own d:ByteArray)(hc:ch=1∨ch=2)(hb:bi=8∨bi=16)(h1:kind<256)(h2:b<256)(h3:c≤64)(hs:own.size≤4096)(ho:opened k (ch:Int) (bi:Int) (b:Nat) (kind:Nat) (c:Int) own=some d)(hp:segment_Put.f k d (ch:Int) (bi:Int)=some (told kind b c own,0)):
  segment_Get.f k (told kind b c own) (ch:Int) (bi:Int)=some (d,0):=by
 have h:=told_at kind b c own h1 h2 (by omega);have hz:=h.size;have e1:(told kind b c own).size - 9=own.size:=by omega
 have hp2:(256:Nat) ^ 2=65536:=by decide
 unfold segment_Get.f;rw[e1,h.body,if_pos ⟨by omega,by omega,mayf ch bi hc hb,by rw[h.b2];omega,by rw[h.sz];exact Le.fget 2 _ (by omega) (by omega) (by omega),by rw[h.sum];exact Le.fget 4 _ (by omega) (by omega) (Crc.sum_lt _)⟩,h.b0,h.b1,h.b2,ho,bs_,if_pos hp]
theorem constB_f(d:ByteArray)(ch bi c:Nat)(hc:ch=1∨ch=2)(hb:bi=8∨bi=16)(h1:1≤c)(hm:d.size=c*fsz ch bi)(hd:d.size≤4096):∃x,strings_Repeat.f (d.extract 0 (fsz ch bi)) (c:Int)=some x∧segment_sound_constant.f d (ch:Int) (bi:Int)=some (d.toList==x.toList):=by
 have hf:=fsz_pos ch bi hc hb;have hle:fsz ch bi≤d.size:=by rw[hm];exact Nat.le_mul_of_pos_left _ h1
 have hs:(d.extract 0 (fsz ch bi)).size=fsz ch bi:=by rw[ByteArray.size_extract];omega
 have hcm:fsz ch bi*c≤4096:=by rw[Nat.mul_comm,←hm];exact hd
 have hcb:c≤4096:=Nat.le_trans (Nat.le_mul_of_pos_left c hf.1) hcm
 have hrep:∃x,strings_Repeat.f (d.extract 0 (fsz ch bi)) (c:Int)=some x:=by
  unfold strings_Repeat.f;rw[hs,nC_,if_pos ⟨Int.natCast_nonneg _,by omega,by omega⟩];exact⟨_,rfl⟩
 obtain⟨x,hx⟩:=hrep;refine⟨x,hx,?_⟩;unfold segment_sound_constant.f;rw[frame_f _ ch bi hc hb,bs_,if_pos (Int.natCast_nonneg _),if_pos (Int.ofNat_le.2 hle),many_f _ ch bi c hc hb hm (Nat.le_trans hd (by decide)),bs_,nC_,hx,bs_]
theorem ne_nil{d:ByteArray}(h:1≤d.size):¬(d.toList=([]:List UInt8)):=by
 intro h2;have h3:d.toList.length=0:=by rw[h2];rfl
 rw[ByteArray.toList_eq,data_length] at h3;omega
theorem segAny(k ch bi c:Nat)(d:ByteArray)(hk:7000≤k)(hc:ch=1∨ch=2)(hb:bi=8∨bi=16)(h1:1≤c)(jJ:c≤64)(hm:d.size=c*fsz ch bi):∃s,segment_Put.f k d (ch:Int) (bi:Int)=some (s,0)∧9≤s.size∧s.size≤9+d.size∧segment_Get.f k s (ch:Int) (bi:Int)=some (d,0):=by
 have hf:=fsz_pos ch bi hc hb;have hle:fsz ch bi≤d.size:=by rw[hm];exact Nat.le_mul_of_pos_left _ h1
 have hle2:d.size≤64*fsz ch bi:=by rw[hm];exact Nat.mul_le_mul_right _ jJ
 have hle3:64*fsz ch bi≤64*4:=Nat.mul_le_mul_left _ hf.2;have hd:d.size≤4096:=by omega
 have hd1:1≤d.size:=by omega
 obtain⟨rows,hr,-⟩:=pgetB_f k ch bi c d (Nat.le_trans (by decide) hk) hc hb hm hd;obtain⟨x,hxr,ht⟩:=constB_f d ch bi c hc hb h1 hm hd;have hmany:=many_f d ch bi c hc hb hm (Nat.le_trans hd (by decide));have hframe:=frame_f d ch bi hc hb;have w1:wrap64 (64*((fsz ch bi:Nat):Int))=((64*fsz ch bi:Nat):Int):=wrap_id _ (by omega) (by omega);have c1:¬(decide ((d.size:Int)>((64*fsz ch bi:Nat):Int))=true):=by rw[decide_eq_true_iff];omega
 have hkk:=hk;obtain⟨k,rfl⟩:∃j,k=(j+1)+1:=⟨k - 2,by omega⟩
 have hex:∃s,segment_Put.j0 (k+1+1) d false (ch:Int) (bi:Int)=some (s,0)∧9≤s.size∧s.size≤9+d.size∧∃kind b own,kind<256∧b<256∧own.size≤4096∧s=told kind b c own∧opened (k+1+1) (ch:Int) (bi:Int) (b:Nat) (kind:Nat) (c:Int) own=some d:=by
  rw[segment_Put.j0,if_neg (by decide),ht,bs_];generalize hdx:(d.toList==x.toList)=t
  cases t with
  |true=>
   obtain rfl:d=x:=by
    have e:=eq_of_beq hdx;rw[ByteArray.toList_eq,ByteArray.toList_eq] at e;exact ByteArray.ext (Array.toList_inj.1 e)
   have hx:(d.extract 0 (fsz ch bi)).size=fsz ch bi:=by rw[ByteArray.size_extract];omega
   refine⟨told 2 0 c (d.extract 0 (fsz ch bi)),?_,by rw[told_size];omega,by rw[told_size,hx];omega,2,0,_,by decide,by decide,by rw[hx];omega,rfl,by unfold opened;rw[if_neg (by decide),if_pos (by decide)];exact hxr⟩;rw[if_pos rfl,hmany,bs_,hframe,bs_,if_pos (Int.natCast_nonneg _),if_pos (Int.ofNat_le.2 hle),nC_];rw[show segment_told.f (k+1) 2 0 (c:Int) (d.extract 0 (fsz ch bi))=some (told 2 0 c (d.extract 0 (fsz ch bi))) from told_f (k+1) 2 0 c _ (by omega) (by decide) (by decide) (by omega) (by rw[hx];omega),bs_]
  |false=>
   obtain⟨own,b,hbb,hcd,hback⟩:=coded_f (k+1) ch bi c d (by omega) hc hb hm hd h1 jJ;rw[if_neg (by decide),hcd,bs_];dsimp only;rw[if_pos rfl]
   by_cases hlt:own.size<d.size
   ·refine⟨told 1 b c own,?_,by rw[told_size];omega,by rw[told_size];omega,1,b,own,by decide,by omega,by omega,rfl,by unfold opened;rw[if_pos (by decide)];exact hback _ hkk⟩;rw[dt_ (Int.ofNat_lt.2 hlt),segment_Put.j1,if_pos rfl,hmany,bs_];rw[show segment_told.f k 1 (b:Int) (c:Int) own=some (told 1 b c own) from told_f k 1 b c own (by omega) (by decide) (by omega) (by omega) (by omega),bs_]
   ·refine⟨told 0 0 c d,?_,by rw[told_size];omega,by rw[told_size];omega,0,0,d,by decide,by decide,hd,rfl,by unfold opened;rw[if_neg (by decide),if_neg (by decide)]⟩;rw[df_ (show ¬((own.size:Int)<(d.size:Int)) by omega),segment_Put.j1,if_neg (by decide),hmany,bs_];rw[show segment_told.f k 0 0 (c:Int) d=some (told 0 0 c d) from told_f k 0 0 c d (by omega) (by decide) (by decide) (by omega) (by omega),bs_]
 obtain⟨s,hs1,hs2,hs3,kind,b,own,k1,k2,k3,rfl,hop⟩:=hex
 have hput:segment_Put.f (k+1+1) d (ch:Int) (bi:Int)=some (told kind b c own,0):=by
  unfold segment_Put.f;rw[hr,bs_];dsimp only;rw[if_pos rfl,if_neg (ne_nil hd1),pframe_f ch bi hc hb,bs_,w1,eq_false_of_ne_true c1];exact hs1
 exact⟨_,hput,hs2,hs3,told_get _ kind b c ch bi own d hc hb k1 k2 jJ k3 hop hput⟩
end Go.Proofs.YtfghldonnffldaaGreatDoor
namespace Go.Proofs.YtfghldonnffldaaGreatDoor
open Go.RowKit YtfghldonnffldaaGreatDoorW.PrintWords YtfghldonnffldaaGreatDoorW.PrintLast YtfghldonnffldaaGreatDoorW.PrintMore TBase
end Go.Proofs.YtfghldonnffldaaGreatDoor
namespace Go.Proofs.YtfghldonnffldaaGreatDoor
open Go.RowKit YtfghldonnffldaaGreatDoorW.PrintWords YtfghldonnffldaaGreatDoorW.PrintLast YtfghldonnffldaaGreatDoorW.PrintMore TBase
open UOne VTwo YFou ZFiv QSix ESev
open Classical in
noncomputable def segOf(ch bi:Nat)(x:ByteArray):ByteArray:=if h:∃s,∃k,segment_Put.f k x (ch:Int) (bi:Int)=some (s,0) then Classical.choose h else ByteArray.empty
theorem segOf_f(k ch bi c:Nat)(d:ByteArray)(hk:7000≤k)(hc:ch=1∨ch=2)(hb:bi=8∨bi=16)(h1:1≤c)(jJ:c≤64)(hm:d.size=c*fsz ch bi):segment_Put.f k d (ch:Int) (bi:Int)=some (segOf ch bi d,0)∧9≤(segOf ch bi d).size∧(segOf ch bi d).size≤9+d.size∧segment_Get.f k (segOf ch bi d) (ch:Int) (bi:Int)=some (d,0):=by
 obtain⟨s,hs,h2,h3,h4⟩:=segAny k ch bi c d hk hc hb h1 jJ hm;have hx:∃s,∃k,segment_Put.f k d (ch:Int) (bi:Int)=some (s,0):=⟨s,k,hs⟩
 have e:segOf ch bi d=s:=by
  unfold segOf;rw[dif_pos hx];obtain⟨k',hk'⟩:=Classical.choose_spec hx;have:=leO_same (fun k=>segment_Put.f k d (ch:Int) (bi:Int)) (fun k=>segment_Put.mono _ _ _ k) hk' hs;exact(Prod.mk.inj this).1
 rw[e];exact⟨hs,h2,h3,h4⟩
def cnt(m ks i:Nat):Nat:=min ks (m - i*ks)
def chunk(d:ByteArray)(f ks m i:Nat):ByteArray:=d.extract (i*ks*f) (min (i*ks*f+ks*f) (m*f))
noncomputable def segsG(ch bi ks m:Nat)(d:ByteArray)(j:Nat):List ByteArray:=(List.range j).map fun i=>segOf ch bi (chunk d (fsz ch bi) ks m i)
theorem segsG_len(ch bi ks m:Nat)(d:ByteArray)(j:Nat):(segsG ch bi ks m d j).length=j:=by unfold segsG;rw[List.length_map,List.length_range]
theorem segsG_succ(ch bi ks m:Nat)(d:ByteArray)(j:Nat):segsG ch bi ks m d (j+1)=segsG ch bi ks m d j++ [segOf ch bi (chunk d (fsz ch bi) ks m j)]:=by unfold segsG;rw[List.range_succ,List.map_append];rfl
def nseg(m ks:Nat):Nat:=(m+ks - 1) / ks
theorem nseg_lt(m ks i:Nat)(hk:1≤ks):i<nseg m ks↔i*ks<m:=by
 unfold nseg;rw[Nat.lt_iff_add_one_le,Nat.le_div_iff_mul_le (by omega),Nat.add_mul,Nat.one_mul];omega
theorem nseg_le(m ks:Nat)(hk:1≤ks):nseg m ks≤m:=by
 rcases Nat.lt_or_ge m (nseg m ks) with h|h
 ·exfalso;have:=(nseg_lt m ks m hk).1 h;have h2:m*1≤m*ks:=Nat.mul_le_mul_left m hk;omega
 ·exact h
theorem nseg_all(m ks:Nat)(hk:1≤ks):m≤nseg m ks*ks:=by
 rcases Nat.lt_or_ge (nseg m ks*ks) m with h|h
 ·exact absurd ((nseg_lt m ks _ hk).2 h) (Nat.lt_irrefl _)
 ·exact h
theorem nseg_up(m ks:Nat)(hk:1≤ks):nseg m ks*ks<m+ks:=by
 unfold nseg;have:=Nat.div_mul_le_self (m+ks - 1) ks;omega
theorem many_nat(m ks:Nat)(hk:1≤ks)(hm:m≤100000)(hks:ks≤100000):wrap64 (Int.tdiv (wrap64 ((wrap64 ((m:Int)+(ks:Int))) - 1)) (ks:Int))=(nseg m ks:Int):=by
 have w1:wrap64 ((m:Int)+(ks:Int))=((m+ks:Nat):Int):=wrap_id _ (by omega) (by omega);have w2:wrap64 (((m+ks:Nat):Int) - 1)=((m+ks - 1:Nat):Int):=by rw[wrap_id _ (by omega) (by omega)];omega
 have w3:Int.tdiv ((m+ks - 1:Nat):Int) (ks:Int)=(nseg m ks:Int):=rfl;have hle:=nseg_le m ks hk;rw[w1,w2,w3];exact wrap_id _ (by omega) (by omega)
theorem smany_f(m ks:Nat)(hk:1≤ks)(hm:m≤100000)(hks:ks≤100000):stream_Many.f (m:Int) (ks:Int)=some (nseg m ks:Int):=by
 unfold stream_Many.f;rw[if_neg (by omega),many_nat m ks hk hm hks]
theorem cnt_bd(m ks i:Nat)(h:i*ks<m)(hk:1≤ks):1≤cnt m ks i∧cnt m ks i≤ks:=by unfold cnt;omega
theorem chunk_size(d:ByteArray)(f ks m i:Nat)(hd:d.size=m*f)(h:i*ks<m):(chunk d f ks m i).size=cnt m ks i*f:=by
 have h0:i*ks*f≤m*f:=Nat.mul_le_mul_right f (Nat.le_of_lt h)
 have hcnt:min (i*ks*f+ks*f) (m*f) - i*ks*f=cnt m ks i*f:=by
  unfold cnt;rw[←Nat.add_mul,Nat.mul_min_mul_right,←Nat.sub_mul]
  congr 1
  omega
 unfold chunk;rw[ByteArray.size_extract,hd,←hcnt];omega
theorem seg_at(k ch bi ks m i:Nat)(d:ByteArray)(hk:7000≤k)(hc:ch=1∨ch=2)(hb:bi=8∨bi=16)(hks:ks≤64)(h1:1≤ks)(hd:d.size=m*fsz ch bi)(h:i*ks<m):
  segment_Put.f k (chunk d (fsz ch bi) ks m i) (ch:Int) (bi:Int)=some (segOf ch bi (chunk d (fsz ch bi) ks m i),0)∧9≤(segOf ch bi (chunk d (fsz ch bi) ks m i)).size∧(segOf ch bi (chunk d (fsz ch bi) ks m i)).size≤9+ks*fsz ch bi∧segment_Get.f k (segOf ch bi (chunk d (fsz ch bi) ks m i)) (ch:Int) (bi:Int)=some (chunk d (fsz ch bi) ks m i,0):=by
 have hb2:=cnt_bd m ks i h h1;have hz:=chunk_size d (fsz ch bi) ks m i hd h;have hs:=segOf_f k ch bi (cnt m ks i) (chunk d (fsz ch bi) ks m i) hk hc hb hb2.1 (Nat.le_trans hb2.2 hks) hz;have hle:cnt m ks i*fsz ch bi≤ks*fsz ch bi:=Nat.mul_le_mul_right _ hb2.2;rw[hz] at hs;exact⟨hs.1,hs.2.1,Nat.le_trans hs.2.2.1 (Nat.add_le_add_left hle 9),hs.2.2.2⟩
theorem enc_step(k ks f a c M:Nat)(ch bi m:Int)(hd d tl s:ByteArray)(L:List ByteArray)(hM:d.size=M)(ha:a<M)(hc:ks*f=c)(hMb:M≤4096)(hcb:c≤4096)(hL:L.length≤4096)
  (hs:segment_Put.f k (d.extract a (min (a+c) M)) ch bi=some (s,0)):
  file_Encode.l0 (k+1) (ks:Int) (f:Int) (a:Int) ch bi hd d tl ch bi (ks:Int) m hd tl L=file_Encode.l0 k (ks:Int) (f:Int) ((a+c:Nat):Int) ch bi hd d tl ch bi (ks:Int) m hd tl (L++ [s]):=by
 have w1:wrap64 ((ks:Int)*(f:Int))=(c:Int):=by rw[←Int.natCast_mul,hc];exact wrap_id _ (by omega) (by omega)
 have w2:wrap64 ((a:Int)+(c:Int))=((a+c:Nat):Int):=wrap_id _ (by omega) (by omega);have w3:mn ((a+c:Nat):Int) (M:Int)=((min (a+c) M:Nat):Int):=by clear w1 w2 hs;unfold mn;split<;>omega
 have c1:(a:Int)<(M:Int):=Int.ofNat_lt.2 ha;have c2:(0:Int)≤(a:Int):=Int.natCast_nonneg _;have c3:(a:Int)≤((min (a+c) M:Nat):Int):=by clear w1 w2 w3 hs;omega
 have c4:((min (a+c) M:Nat):Int)≤(M:Int):=by clear w1 w2 w3 hs;omega
 have c5:L.length<8796093022208:=Nat.lt_of_le_of_lt hL (by decide);rw[file_Encode.l0,hM,w1,w2,w3,if_pos c1,if_pos c2,if_pos c3,if_pos c4,nC_,nC_,hs,bs_,if_pos c5]
theorem enc_end(k ks f a:Nat)(ch bi m:Int)(hd d tl:ByteArray)(L:List ByteArray)(r:ByteArray)(ha:d.size≤a)(hput:stream_Put.f ch bi (ks:Int) m hd tl L=some (r,0)):
  file_Encode.l0 (k+1) (ks:Int) (f:Int) (a:Int) ch bi hd d tl ch bi (ks:Int) m hd tl L=some (r,0):=by
 rw[file_Encode.l0,if_neg (by omega),hput,bs_];rfl
theorem encG_l0(k ch bi ks m:Nat)(d hd tl r:ByteArray)(hc:ch=1∨ch=2)(hb:bi=8∨bi=16)(hk:1≤ks)(hks:ks≤64)(hd0:d.size=m*fsz ch bi)(hd4:d.size≤4096)(hkk:7000≤k)
  (hput:stream_Put.f (ch:Int) (bi:Int) (ks:Int) (m:Int) hd tl (segsG ch bi ks m d (nseg m ks))=some (r,0)):
  ∀e i,i+e=nseg m ks→file_Encode.l0 (k+e+1) (ks:Int) ((fsz ch bi:Nat):Int) ((i*ks*fsz ch bi:Nat):Int) (ch:Int) (bi:Int) hd d tl (ch:Int) (bi:Int) (ks:Int) (m:Int) hd tl (segsG ch bi ks m d i)=some (r,0):=by
 have hf:=fsz_pos ch bi hc hb;have hcle:ks*fsz ch bi≤64*4:=Nat.mul_le_mul hks hf.2;have hn:=nseg_le m ks hk;have hmm:m≤m*fsz ch bi:=Nat.le_mul_of_pos_right m hf.1;intro e
 induction e with
 |zero=>
  intro i hi;obtain rfl:i=nseg m ks:=hi;exact enc_end k ks _ _ _ _ _ _ _ _ _ _ (by rw[hd0];exact Nat.mul_le_mul_right _ (nseg_all m ks hk)) hput
 |succ e ih=>
  intro i hi;have hlt:i*ks<m:=(nseg_lt m ks i hk).1 (by omega);have ha:i*ks*fsz ch bi<m*fsz ch bi:=Nat.mul_lt_mul_of_pos_right hlt hf.1;have hnext:i*ks*fsz ch bi+ks*fsz ch bi=(i+1)*ks*fsz ch bi:=by rw[Nat.add_mul,Nat.one_mul,Nat.add_mul]
  have hp:=(seg_at (k+e+1) ch bi ks m i d (Nat.le_trans hkk (by omega)) hc hb hks hk hd0 hlt).1;have hLl:(segsG ch bi ks m d i).length≤4096:=by rw[segsG_len];omega
  rw[show k+(e+1)+1=(k+e+1)+1 from rfl,enc_step (k+e+1) ks (fsz ch bi) _ (ks*fsz ch bi) (m*fsz ch bi) _ _ _ _ _ _ (segOf ch bi (chunk d (fsz ch bi) ks m i)) _ hd0 ha rfl (hd0▸hd4) (Nat.le_trans hcle (by decide)) hLl hp,hnext,←segsG_succ];exact ih (i+1) (by omega)
theorem tot_unif(l:List ByteArray)(B:Nat)(h:∀s∈l,s.size≤B):tot l≤l.length*B:=by
 induction l with
 |nil=>simp[tot]
 |cons s r ih=>
  have h1:=h s List.mem_cons_self;have h2:=ih (fun x hx=>h x (List.mem_cons_of_mem _ hx));have e:tot (s::r)=s.size+tot r:=rfl;rw[e,List.length_cons,Nat.add_mul,Nat.one_mul];omega
structure Par(ch bi ks m:Nat)(hd d tl:ByteArray):Prop where
 hc:ch=1∨ch=2
 hb:bi=8∨bi=16
 hk:1≤ks
 hks:ks≤64
 hz:d.size=m*fsz ch bi
 h4:hd.size+d.size+tl.size≤4096
namespace Par
variable {ch bi ks m:Nat} {hd d tl:ByteArray}
theorem d4(P:Par ch bi ks m hd d tl):d.size≤4096:=by have:=P.h4;omega
theorem f1(P:Par ch bi ks m hd d tl):1≤fsz ch bi∧fsz ch bi≤4:=fsz_pos ch bi P.hc P.hb
theorem m4(P:Par ch bi ks m hd d tl):m≤4096:=Nat.le_trans (Nat.le_mul_of_pos_right m P.f1.1) (P.hz▸P.d4)
end Par
noncomputable def eL(ch bi ks m:Nat)(d:ByteArray):List ByteArray:=segsG ch bi ks m d (nseg m ks)
noncomputable def eS(ch bi ks m:Nat)(hd d tl:ByteArray):ByteArray:=sput ch bi ks m hd tl (eL ch bi ks m d)
theorem eL_len(ch bi ks m:Nat)(d:ByteArray):(eL ch bi ks m d).length=nseg m ks:=segsG_len _ _ _ _ _ _
namespace Par
variable {ch bi ks m:Nat} {hd d tl:ByteArray}
theorem sz(P:Par ch bi ks m hd d tl):∀x∈eL ch bi ks m d,9≤x.size∧x.size≤9+ks*fsz ch bi:=by
 intro x hx;unfold eL segsG at hx;obtain⟨i,hi,rfl⟩:=List.mem_map.1 hx;have h:=seg_at 7000 ch bi ks m i d (Nat.le_refl _) P.hc P.hb P.hks P.hk P.hz ((nseg_lt m ks i P.hk).1 (List.mem_range.1 hi));exact⟨h.2.1,h.2.2.1⟩
end Par
theorem szb_le(x a:Nat)(h1:9≤x)(h2:x≤9+a)(h3:a≤64*4):9≤x∧x≤65535:=by omega
theorem esize_lem(a b c x y q t nf:Nat)(h:x+y≤4096)(a1:a≤2)(a2:b≤2)(a3:c≤2)(hq:q≤4096)(ht:t≤9*q+nf)(hnf:nf≤4096+256):7+a+b+c+x+y+2*q+4+t≤65536:=by omega
theorem stream_small(ch bi ks m:Nat)(hd tl:ByteArray)(L:List ByteArray)(hh:headOk (ch:Int) (bi:Int) (ks:Int) (m:Int) hd tl)(hs:hd.size+tl.size≤4096)(hl:L.length=nseg m ks)(hk:1≤ks)(hks:ks≤64)(hm:m≤4096)(hx:∀x∈L,9≤x.size∧x.size≤9+ks*fsz ch bi)(hf:fsz ch bi≤4)(hmf:m*fsz ch bi≤4096):
  stream_Put.f (ch:Int) (bi:Int) (ks:Int) (m:Int) hd tl L=some (sput ch bi ks m hd tl L,0)∧∃p1 p2 p3 p5 q,StrOk (sput ch bi ks m hd tl L) ch bi ks m hd tl L p1 p2 p3 p5 q:=by
 have hn:=nseg_le m ks hk;have hmany:stream_Many.f (m:Int) (ks:Int)=some (L.length:Int):=by rw[hl];exact smany_f m ks hk (Nat.le_trans hm (by decide)) (Nat.le_trans hks (by decide))
 have hkf:ks*fsz ch bi≤64*4:=Nat.mul_le_mul hks hf;have hall:∀x∈L,szB x=true:=fun x h=>dt_ (szb_le _ _ (hx x h).1 (hx x h).2 hkf)
 have a1:=vb_len m;have a2:=vb_len hd.size;have a3:=vb_len tl.size;rw[strOfNums_size] at a1 a2 a3;have ht:=tot_unif L (9+ks*fsz ch bi) (fun s h=>(hx s h).2);rw[hl] at ht;have hup:=nseg_up m ks hk
 have hnf:nseg m ks*(ks*fsz ch bi)≤4096+256:=by
  rw[←Nat.mul_assoc];have e1:nseg m ks*ks*fsz ch bi≤(m+ks)*fsz ch bi:=Nat.mul_le_mul_right _ (Nat.le_of_lt hup);rw[Nat.add_mul] at e1;exact Nat.le_trans e1 (Nat.add_le_add hmf hkf)
 have ht2:tot L≤9*nseg m ks+nseg m ks*(ks*fsz ch bi):=by
  rw[Nat.mul_add,Nat.mul_comm (nseg m ks) 9] at ht;exact ht
 have h5:=sput_size ch bi ks m hd tl L;rw[sputL_len,hl] at h5
 have h6:(sput ch bi ks m hd tl L).size≤65536:=by
  rw[h5];exact esize_lem _ _ _ _ _ _ _ _ hs a1 a2 a3 (Nat.le_trans hn hm) ht2 hnf
 refine⟨?_,sput_ok ch bi ks m hd tl L hh hmany hall h6⟩;unfold stream_Put.f;rw[if_pos ⟨hh,hmany,by rw[hl];exact Nat.le_trans hn hm,List.all_eq_true.2 hall⟩];rfl
theorem ekform(k n:Nat)(h:15000≤k)(hn:n≤4096):∃j,k=(j+n+1)+1∧7000≤j:=⟨k - n - 2,by omega,by omega⟩
theorem eksL(ks:Nat)(h1:1≤ks)(h2:ks≤64):¬((ks:Int)<1)∧¬(decide ((ks:Int)>64)=true):=by
 rw[decide_eq_true_iff];omega
theorem efs0(f:Nat)(h:1≤f):¬((f:Int)=0):=by omega
theorem ewm(m:Nat)(h:m≤4096):wrap64 (m:Int)=(m:Int):=wrap_id _ (by omega) (by omega)
theorem w_mulE(i ks m:Nat)(h:i*ks<m)(hm:m≤4096):wrap64 ((i:Int)*(ks:Int))=((i*ks:Nat):Int):=by
 rw[←Int.natCast_mul];exact wrap_id _ (by omega) (by omega)
theorem w_subE(i ks m:Nat)(h:i*ks<m)(hm:m≤4096):wrap64 ((m:Int) - ((i*ks:Nat):Int))=((m - i*ks:Nat):Int):=by
 obtain⟨z,hz⟩:∃z,i*ks=z:=⟨_,rfl⟩;rw[hz] at h ⊢;rw[wrap_id _ (by omega) (by omega)];omega
theorem mn_E(m ks i:Nat):mn (ks:Int) ((m - i*ks:Nat):Int)=(cnt m ks i:Int):=by
 unfold cnt;generalize m - i*ks=x;unfold mn
 split<;>omega
theorem w_mulF(c f:Nat)(h:c*f≤64*4):wrap64 ((c:Int)*(f:Int))=((c*f:Nat):Int):=by
 rw[←Int.natCast_mul];exact wrap_id _ (by omega) (by omega)
theorem e_enc(k ch bi ks m:Nat)(w hd d tl:ByteArray)(P:Par ch bi ks m hd d tl)(hkk:15000≤k)(hp:wave_Parse.f k w=some ((ch:Int),(bi:Int),hd,d,tl,0)):file_Encode.f k w (ks:Int)=some (eS ch bi ks m hd d tl,0):=by
 have hf:=P.f1;have EI:=P.m4;have h4:=P.h4
 have hh:headOk (ch:Int) (bi:Int) (ks:Int) (m:Int) hd tl:=by
  have h1:=P.hc;have h2:=P.hb;have h3:=P.hk;have h5:=P.hks;exact⟨by omega,by omega,by omega,by omega,by omega,by omega,by omega,by omega⟩
 have hput:=(stream_small ch bi ks m hd tl (eL ch bi ks m d) hh (by omega) (eL_len _ _ _ _ _) P.hk P.hks EI P.sz hf.2 (P.hz▸P.d4)).1;obtain⟨k,rfl,W9⟩:=ekform k (nseg m ks) hkk (Nat.le_trans (nseg_le m ks P.hk) EI);have e1:((d.size:Nat):Int) / ((fsz ch bi:Nat):Int)=(m:Int):=by rw[P.hz,←Int.natCast_ediv,Nat.mul_div_cancel _ hf.1]
 have c1:=(eksL ks P.hk P.hks).1;have c2:=(eksL ks P.hk P.hks).2;have c3:=efs0 _ hf.1;have w1:=ewm m EI;have hl:=encG_l0 k ch bi ks m d hd tl (eS ch bi ks m hd d tl) P.hc P.hb P.hk P.hks P.hz P.d4 W9 hput (nseg m ks) 0 (Nat.zero_add _);rw[Nat.zero_mul,Nat.zero_mul] at hl;unfold file_Encode.f;rw[hp,bs_];dsimp only;rw[if_pos rfl,if_neg c1,file_Encode.j0,if_neg c2,pframe_f ch bi P.hc P.hb,bs_,if_neg c3,e1,w1];exact hl
theorem Par.head{ch bi ks m:Nat}{hd d tl:ByteArray}(P:Par ch bi ks m hd d tl):headOk (ch:Int) (bi:Int) (ks:Int) (m:Int) hd tl:=by
 have h1:=P.hc;have h2:=P.hb;have h3:=P.hk;have h4:=P.h4;have h5:=P.hks;have h6:=P.m4;exact⟨by omega,by omega,by omega,by omega,by omega,by omega,by omega,by omega⟩
theorem Par.ok{ch bi ks m:Nat}{hd d tl:ByteArray}(P:Par ch bi ks m hd d tl):∃p1 p2 p3 p5 q,StrOk (eS ch bi ks m hd d tl) ch bi ks m hd tl (eL ch bi ks m d) p1 p2 p3 p5 q:=
 (stream_small ch bi ks m hd tl (eL ch bi ks m d) P.head (by have:=P.h4;omega) (eL_len _ _ _ _ _) P.hk P.hks P.m4 P.sz P.f1.2 (P.hz▸P.d4)).2
theorem data_any(ch bi ks m i k:Nat)(hd tl:ByteArray)(L:List ByteArray)(x s:ByteArray)(hc:ch=1∨ch=2)(hb:bi=8∨bi=16)(hk:1≤ks)(hks:ks≤64)(hm:m≤4096)(hi:i*ks<m)(hL:i<L.length)(hs:L.getD i ByteArray.empty=s)(hg:segment_Get.f k s (ch:Int) (bi:Int)=some (x,0)):
  file_whole_data.f k (ch:Int) (bi:Int) (ks:Int) (m:Int) hd tl L (i:Int)=some (if x.size=cnt m ks i*fsz ch bi then(x,true) else((⟨#[]⟩:ByteArray),false)):=by
 have hcb:=cnt_bd m ks i hi hk;have hf:=fsz_pos ch bi hc hb;have hcf:cnt m ks i*fsz ch bi≤64*4:=Nat.mul_le_mul (Nat.le_trans hcb.2 hks) hf.2;have hrd:rdOf ByteArray.empty L (i:Int)=s:=by unfold rdOf;rw[nC_];exact hs
 unfold file_whole_data.f file_whole_frames.f;rw[if_pos (Int.natCast_nonneg _),if_pos (Int.ofNat_lt.2 hL),hrd,hg,bs_];dsimp only;rw[if_pos rfl,w_mulE i ks m hi hm,w_subE i ks m hi hm,mn_E,bs_,pframe_f ch bi hc hb,bs_,w_mulF _ _ hcf]
 by_cases h:x.size=cnt m ks i*fsz ch bi
 ·rw[if_pos (congrArg _ h),if_pos h]
 ·rw[if_neg (fun e=>h (by omega)),if_neg h]
end Go.Proofs.YtfghldonnffldaaGreatDoor
namespace Go.Proofs.YtfghldonnffldaaGreatDoor
open Go.RowKit YtfghldonnffldaaGreatDoorW.PrintWords YtfghldonnffldaaGreatDoorW.PrintLast YtfghldonnffldaaGreatDoorW.PrintMore TBase
open UOne VTwo YFou ZFiv QSix ESev
theorem take0_calls(w0:World)(g:Nat)(w:World)(hg:RdAt g ⟨#[]⟩ 0 w)(hg0:w0.heap.size≤g)(hW:Below w0.heap.size w0 w):
  Calls Tryz.prog 42 #[.pointer (some ⟨g,0,none⟩),.int .i64 4] w fun e w'=>e= .returned (.string ⟨#[]⟩)∧RdKeep w0 g w w':=by
 have YG:Aside0 (w.heap[g]?=some (.cells #[.string ⟨#[]⟩,.int .i64 0,.bool false] 96 (0,0))):=⟨hg⟩;have YK:Aside0 (RdKeep w0 g w w):=⟨RdKeep.refl hW⟩;have z0:(ByteArray.mk #[]).size=0:=rfl;have wz:wrap64 0=0:=by decide+kernel
 clear hg hW
 go_enter Tryz.func42,Tryz.ntmps42
 go_wp2_with fail
 replace YG:=Z_ (blk_drew YG.out);replace YK:=Z_ (RdKeep.drew YK.out);refine start_ (n:=26) (S:=fun w'=>w'.heap[g]?=some (.cells #[.string ⟨#[]⟩,.int .i64 0,.bool false] 96 (0,0))) (ds:= [25]) #[false,false,false,false,false,false,false,false,false,false,false,false,false,false,false,false,false,false,false,false,false,false,false,false,false,false] (by kernel_rfl) rfl rfl YG.out (fun hHeld=>?_);refine with_tabW rdt.tab1 rdt.bits1 (fun HT_ HW_=>?_);generalize World.drew _=wk_ at YG YK hHeld ⊢;refine P_ 0 5 ?_;refine P_ 1 6 ?_;refine P_ 2 7 ?_;refine P_ 3 8 ?_;refine T_ 4 9 (y:=by rintro w' s0;have r0:=blk_cell s0 0;have r1:=blk_cell s0 1;have r2:=blk_cell s0 2;simp at r0 r1 r2;go_simp;with_reducible rfl) (h:=?_);refine P_ 5 10 ?_;refine P_ 6 11 ?_;refine P_ 7 12 ?_;refine P_ 8 13 ?_;refine P_ 9 14 ?_;refine P_ 10 15 ?_;refine P_ 11 16 ?_;refine P_ 12 17 ?_;refine P_ 13 18 ?_;refine P_ 16 21 ?_;refine P_ 17 22 ?_;refine P_ 18 23 ?_;refine T_ 14 19 (y:=by rintro w' s0;have r0:=blk_cell s0 0;have r1:=blk_cell s0 1;have r2:=blk_cell s0 2;simp at r0 r1 r2;go_simp;with_reducible rfl) (h:=?_);refine P_ 15 20 ?_;refine T_ 19 24 (y:=by rintro w' s0;have r0:=blk_cell s0 0;have r1:=blk_cell s0 1;have r2:=blk_cell s0 2;simp at r0 r1 r2;go_simp;with_reducible rfl) (h:=?_);refine P_ 20 25 ?_;refine P_ 21 26 ?_;refine P_ 22 27 ?_;refine P_ 23 28 ?_;refine P_ 24 29 ?_;have r0:=blk_cell YG.out 0;have r1:=blk_cell YG.out 1;have r2:=blk_cell YG.out 2;simp at r0 r1 r2;have rf:=blk_frozen YG.out;have rl:=blk_lt YG.out;refine last_ (i:=25) (N:=none) #[true,true,true,true,true,true,true,true,true,true,true,true,true,true,true,true,true,true,true,true,true,true,true,true,true,true] rfl rfl (one_of HT_.out (by kernel_rfl)) (by decide) (fun K hK=>?_);refine skip_ (w1:=?_) (by rfl) rfl ?_ ?_;rotate_left
 ·go_simp
  rfl
 refine hK.out _ _ ?_;clear hK K;refine done_ (done_of HT_.out (by kernel_rfl)) ?_;clear r0 r1 r2 rf rl;replace YG:=Z_ (blk_put YG.out 2 (.bool true) (cs':= #[.string ⟨#[]⟩,.int .i64 0,.bool true]) rfl);replace YK:=Z_ (RdKeep.set_ YK.out hg0 2 (.bool true));clear hHeld;generalize World.setCell _ _ _=wk_ at YG YK ⊢;have r0:=blk_cell YG.out 0;have r1:=blk_cell YG.out 1;have r2:=blk_cell YG.out 2;simp at r0 r1 r2;go_wp2;go_ret;exact⟨rfl,YK.out⟩
theorem sget0_calls(w:World):Calls Tryz.prog 20 #[.string ⟨#[]⟩] w fun e w'=>e= .returned (.tuple #[.agg #[.int .i64 0,.int .i64 0,.int .i64 0,.int .i64 0,.string ⟨#[]⟩,.string ⟨#[]⟩,.slice none 0 0],.int .i64 2300])∧Below w.heap.size w w':=by
 have lM:=Tryz.underlying49;have QK:=Tryz.underlying96;have z0:(ByteArray.mk #[]).size=0:=rfl;have Y2:Aside0 ((w.alloc (.cells #[.int .i64 0,.int .i64 0,.int .i64 0,.int .i64 0,.string ⟨#[]⟩,.string ⟨#[]⟩,.slice none 0 0] 49)).heap[w.heap.size]?=some (.cells #[.int .i64 0,.int .i64 0,.int .i64 0,.int .i64 0,.string ⟨#[]⟩,.string ⟨#[]⟩,.slice none 0 0] 49 (0,0))):=⟨blk_new w _⟩;have YW:Aside0 (Below w.heap.size w (w.alloc (.cells #[.int .i64 0,.int .i64 0,.int .i64 0,.int .i64 0,.string ⟨#[]⟩,.string ⟨#[]⟩,.slice none 0 0] 49))):=⟨below_alloc (Below.refl _ _) _⟩
 go_enter Tryz.func20,Tryz.ntmps20
 go_wp2_with (refine X_ 16 #[.string ⟨#[]⟩,.int .i64 0,.bool false] 96 ?_;intro g4 hg wk_ hbox hb;have rP:Aside0 (w.heap.size≠g4):=⟨by rw[hg];simp⟩;have rQ:Aside0 (w.heap.size≤g4):=⟨by rw[hg];simp⟩;replace Y2:=Z_ (blk_below Y2.out hb);replace YW:=Z_ (below_step YW.out hb);clear hb hg;have YR:Aside0 (RdAt g4 ⟨#[]⟩ 0 wk_):=⟨hbox⟩;clear hbox)
 refine(take0_calls w g4 _ YR.out rQ.out YW.out).mono ?_;rintro e wk_ ⟨rfl,hk⟩;replace Y2:=Z_ ((hk.same _ (blk_lt Y2.out) rP.out).trans Y2.out);replace YW:=Z_ hk.bel;clear YR hk
 go_wp2_with (first|((with_reducible refine gate_store (t:=49) (p:=2) rfl ?_);refine wpList_store_mid rfl 49 _ _ rfl w.heap.size 0 #[.int .i64 0,.int .i64 0,.int .i64 0,.int .i64 0,.string ⟨#[]⟩,.string ⟨#[]⟩,.slice none 0 0] rfl rfl (there_blk (vs:= [.int .i64 0,.int .i64 0,.int .i64 0,.int .i64 0,.string ⟨#[]⟩,.string ⟨#[]⟩,.slice none 0 0]) Y2.out 0 7 (by decide)) (by kernel_rfl) (by simp[Value.oneCell']) ?_;have nc_:=Z_ (setCells_all (vs:= [.int .i64 0,.int .i64 0,.int .i64 0,.int .i64 0,.string ⟨#[]⟩,.string ⟨#[]⟩,.slice none 0 0]) (old:= [.int .i64 0,.int .i64 0,.int .i64 0,.int .i64 0,.string ⟨#[]⟩,.string ⟨#[]⟩,.slice none 0 0]) Y2.out rfl);have bN:=Z_ (below_setCells YW.out (Nat.le_refl _) [.int .i64 0,.int .i64 0,.int .i64 0,.int .i64 0,.string ⟨#[]⟩,.string ⟨#[]⟩,.slice none 0 0] 0);clear Y2 YW;have Y2:=nc_;have YW:=bN;clear nc_ bN;generalize World.setCells _ _ _ _=wk_ at Y2 YW ⊢))
 refine bodyPost_ret (results_ct rfl _ _ w.heap.size 49 #[.int .i64 0,.int .i64 0,.int .i64 0,.int .i64 0,.string ⟨#[]⟩,.string ⟨#[]⟩,.slice none 0 0] (0,0) _ rfl Y2.out Tryz.underlying49 rfl (by kernel_rfl)) rfl ⟨rfl,YW.out⟩
theorem segPutA(k ch bi:Nat)(d:ByteArray)(hk:7000≤k)(hc:ch=1∨ch=2)(hb:bi=8∨bi=16):segment_Put.f k d (ch:Int) (bi:Int)=some ((⟨#[]⟩:ByteArray),2200)∨∃c,1≤c∧c≤64∧d.size=c*fsz ch bi:=by
 have hf:=fsz_pos ch bi hc hb;obtain⟨k,rfl⟩:∃j,k=(j+1)+1:=⟨k - 2,by omega⟩;have hno:segment_Put.j0 (k+1+1) d true (ch:Int) (bi:Int)=some ((⟨#[]⟩:ByteArray),2200):=by rw[segment_Put.j0,if_pos rfl]
 have w1:wrap64 (64*((fsz ch bi:Nat):Int))=((64*fsz ch bi:Nat):Int):=wrap_id _ (by omega) (by omega)
 by_cases hm:d.size%fsz ch bi=0
 ·obtain⟨c,hce⟩:∃c,d.size=c*fsz ch bi:=⟨d.size / fsz ch bi,(Nat.div_mul_cancel (Nat.dvd_of_mod_eq_zero hm)).symm⟩
  by_cases h4:d.size≤4096
  ·obtain⟨rows,hr,-⟩:=pgetB_f (k+1+1) ch bi c d (by clear w1;omega) hc hb hce h4
   by_cases h0:d.toList=([]:List UInt8)
   ·left
    unfold segment_Put.f;rw[hr,bs_];dsimp only;rw[if_pos rfl,if_pos h0];exact hno
   ·by_cases h64:(d.size:Int)>((64*fsz ch bi:Nat):Int)
    ·left
     unfold segment_Put.f;rw[hr,bs_];dsimp only;rw[if_pos rfl,if_neg h0,pframe_f ch bi hc hb,bs_,w1,dt_ h64];exact hno
    ·refine .inr ⟨c,?_,?_,hce⟩
     ·rcases Nat.eq_zero_or_pos c with rfl|hp
      ·exfalso;rw[Nat.zero_mul] at hce;apply h0;rw[ByteArray.toList_eq];exact List.length_eq_zero_iff.1 (by rw[data_length];exact hce)
      ·exact hp
     ·have Xa:c*fsz ch bi≤64*fsz ch bi:=by rw[←hce];clear w1;omega
      exact Nat.le_of_mul_le_mul_right Xa hf.1
  ·left
   have hp:pcm_Get.f (k+1+1) d (ch:Int) (bi:Int)=some (([]:List (List Int)),1900):=by
    unfold pcm_Get.f;rw[mayf ch bi hc hb,bs_,if_pos rfl,pframes_f ch bi hc hb,bs_,if_pos (dt_ hm),pcm_Get.j0,if_pos (by rw[decide_eq_true_iff];clear w1;omega)]
   unfold segment_Put.f;rw[hp,bs_];dsimp only;rw[if_neg (by decide)];exact hno
 ·left
  have hp:pcm_Get.f (k+1+1) d (ch:Int) (bi:Int)=some (([]:List (List Int)),1900):=by
   unfold pcm_Get.f;rw[mayf ch bi hc hb,bs_,if_pos rfl,pframes_f ch bi hc hb,bs_,if_neg (by rw[df_ hm];decide),pcm_Get.j0,if_pos rfl]
  unfold segment_Put.f;rw[hp,bs_];dsimp only;rw[if_neg (by decide)];exact hno
end Go.Proofs.YtfghldonnffldaaGreatDoor
namespace Go.Proofs.YtfghldonnffldaaGreatDoor
open Go.RowKit YtfghldonnffldaaGreatDoorW.PrintWords YtfghldonnffldaaGreatDoorW.PrintLast YtfghldonnffldaaGreatDoorW.PrintMore TBase
open UOne VTwo YFou ZFiv
end Go.Proofs.YtfghldonnffldaaGreatDoor
namespace Go.Proofs.YtfghldonnffldaaGreatDoor
open Go.RowKit YtfghldonnffldaaGreatDoorW.PrintWords YtfghldonnffldaaGreatDoorW.PrintLast YtfghldonnffldaaGreatDoorW.PrintMore TBase
open UOne VTwo YFou ZFiv QSix ESev
theorem num_calls(x:Int)(w:World):Calls Tryz.prog 12 #[.int .i64 x] w fun e w'=>e= .returned (.int .i64 x)∧Below w.heap.size w w':=by
 go_enter Tryz.func12,Tryz.ntmps12
 go_wp2;go_ret;exact⟨rfl,Below.refl _ _⟩
theorem size64(a:Int):∃x:Nat,1≤x∧x≤64∧wrap64 (1+(wrap64 (Int.tmod (IntKind.u64.wrap a) 64)))=(x:Int):=by
 have h0:0≤IntKind.u64.wrap a:=Int.emod_nonneg _ (by decide);have h1:=Int.tmod_nonneg (64:Int) h0;have h2:=Int.tmod_lt_of_pos (IntKind.u64.wrap a) (show(0:Int)<(64:Int) by decide);obtain⟨y,hy⟩:∃y,Int.tmod (IntKind.u64.wrap a) 64=y:=⟨_,rfl⟩;rw[hy] at h1 h2 ⊢;rw[wrap_id y (by omega) (by omega),wrap_id _ (by omega) (by omega)];exact⟨(1+y).toNat,by omega,by omega,by omega⟩
end Go.Proofs.YtfghldonnffldaaGreatDoor
namespace Go.Proofs.YtfghldonnffldaaGreatDoor
open Go.RowKit YtfghldonnffldaaGreatDoorW.PrintWords YtfghldonnffldaaGreatDoorW.PrintLast YtfghldonnffldaaGreatDoorW.PrintMore TBase
open UOne VTwo YFou ZFiv QSix ESev
attribute [local go_sem] max2_int min2_int max_two min_two
theorem mv_fmt(x y:Int)(d o:ByteArray)(a:Int)(w:World)(hT:Tabs w)(hF:descantref13_FormatMay.f x y=some false):
  Calls Tryz.prog 6 #[.agg #[.int .i64 x,.int .i64 y],.string d,.string o,.int .i64 a] w fun e w'=>e= .returned (.bool true)∧Below w.heap.size w w':=by
 have T0:=Z_ hT;have HF:=Lib.hid hF;have Y1:Aside0 ((w.alloc (.cells #[.int .i64 x,.int .i64 y] 23)).heap[w.heap.size]?=some (.cells #[.int .i64 x,.int .i64 y] 23 (0,0))):=⟨blk_new w _⟩;have YW:Aside0 (Below w.heap.size w (w.alloc (.cells #[.int .i64 x,.int .i64 y] 23))):=⟨below_alloc (Below.refl _ _) _⟩;clear hT hF
 go_enter Tryz.func6,Tryz.ntmps6
 go_wp2_with fail
 refine(awake_calls _ (T0.out.below YW.out)).mono ?_;rintro e wk_ ⟨rfl,hb⟩;replace Y1:=Z_ (blk_below Y1.out hb);replace YW:=Z_ (below_step YW.out hb);clear hb;have r0:=blk_cell Y1.out 0;have r1:=blk_cell Y1.out 1;simp at r0 r1
 go_wp2_with fail
 clear r0 r1;refine(descantref13_FormatMay.calls _ _ false _ HF.out).mono ?_;rintro e wk_ ⟨rfl,hb⟩;replace Y1:=Z_ (blk_below Y1.out hb);replace YW:=Z_ (below_step YW.out hb);clear hb;go_wp2;go_ret;exact⟨rfl,YW.out⟩
theorem mv_bad(ch bi:Nat)(d o:ByteArray)(a:Int)(ks:Nat)(w:World)(hT:Tabs w)(hF:descantref13_FormatMay.f (ch:Int) (bi:Int)=some true)(W:ByteArray)(hW:descanttop_wav.f 20 (ch:Int) (bi:Int) d=some W)(hI:wrap64 (1+(wrap64 (Int.tmod (IntKind.u64.wrap a) 64)))=(ks:Int))(hE:∀w1,Tabs w1→Calls Tryz.prog 10 #[.string W,.int .i64 (ks:Int)] w1 fun e w'=>e= .returned (.tuple #[.string ⟨#[]⟩,.int .i64 2400])∧Below w1.heap.size w1 w')(sx:ByteArray)(ix:Int)(hP:∀w1,Tabs w1→Calls Tryz.prog 21 #[.string o,.agg #[.int .i64 (ch:Int),.int .i64 (bi:Int)]] w1 fun e w'=>e= .returned (.tuple #[.string sx,.int .i64 ix])∧Below w1.heap.size w1 w'):
  Calls Tryz.prog 6 #[.agg #[.int .i64 (ch:Int),.int .i64 (bi:Int)],.string d,.string o,.int .i64 a] w fun e w'=>e= .returned (.bool true)∧Below w.heap.size w w':=by
 have T0:=Z_ hT;have HF:=Lib.hid hF;have Y1:Aside0 ((w.alloc (.cells #[.int .i64 (ch:Int),.int .i64 (bi:Int)] 23)).heap[w.heap.size]?=some (.cells #[.int .i64 (ch:Int),.int .i64 (bi:Int)] 23 (0,0))):=⟨blk_new w _⟩;have YW:Aside0 (Below w.heap.size w (w.alloc (.cells #[.int .i64 (ch:Int),.int .i64 (bi:Int)] 23))):=⟨below_alloc (Below.refl _ _) _⟩;have HW:=Lib.hid hW;have HI:=Lib.hid hI;have EN:=Z_ hE;have PU:=Z_ hP;have lM:=Tryz.underlying49;have fH:=Tryz.underlying23;clear hT hF hW hI hE hP
 go_enter Tryz.func6,Tryz.ntmps6
 go_wp2_with fail
 refine(awake_calls _ (T0.out.below YW.out)).mono ?_;rintro e wk_ ⟨rfl,hb⟩;replace Y1:=Z_ (blk_below Y1.out hb);replace YW:=Z_ (below_step YW.out hb);clear hb;have r0:=blk_cell Y1.out 0;have r1:=blk_cell Y1.out 1;simp at r0 r1
 go_wp2_with fail
 clear r0 r1;refine(descantref13_FormatMay.calls _ _ true _ HF.out).mono ?_;rintro e wk_ ⟨rfl,hb⟩;replace Y1:=Z_ (blk_below Y1.out hb);replace YW:=Z_ (below_step YW.out hb);clear hb;have r0:=blk_cell Y1.out 0;have r1:=blk_cell Y1.out 1;simp at r0 r1
 go_wp2_with fail
 clear r0 r1;refine(descanttop_wav.calls 20 ch bi d _ _ HW.out).mono ?_;rintro e wk_ ⟨rfl,hb⟩;replace Y1:=Z_ (blk_below Y1.out hb);replace YW:=Z_ (below_step YW.out hb);clear hb
 go_wp2_with fail
 (try simp only[i64_w]);rw[HI.out];refine(EN.out _ (T0.out.below YW.out)).mono ?_;rintro e wk_ ⟨rfl,hb⟩;replace Y1:=Z_ (blk_below Y1.out hb);replace YW:=Z_ (below_step YW.out hb);clear hb
 go_wp2_with fail
 refine(sget0_calls _).mono ?_;rintro e wk_ ⟨rfl,hb⟩;replace Y1:=Z_ (blk_below Y1.out hb);replace YW:=Z_ (below_step YW.out hb);clear hb
 go_wp2_with (first|(refine X_ 12 #[.int .i64 0,.int .i64 0,.int .i64 0,.int .i64 0,.string ⟨#[]⟩,.string ⟨#[]⟩,.slice none 0 0] 49 ?_;intro gt hg wk_ hbox hb;have HG_:=Z_ hg;have HB_:=Z_ hb;have YT:=Z_ hbox;clear hbox hb hg)|((with_reducible refine gate_store (t:=49) (p:=12) rfl ?_);refine wpList_store_mid rfl 49 _ _ rfl gt 0 #[.int .i64 0,.int .i64 0,.int .i64 0,.int .i64 0,.string ⟨#[]⟩,.string ⟨#[]⟩,.slice none 0 0] rfl rfl (there_blk (vs:= [.int .i64 0,.int .i64 0,.int .i64 0,.int .i64 0,.string ⟨#[]⟩,.string ⟨#[]⟩,.slice none 0 0]) YT.out 0 7 (by decide)) (by kernel_rfl) (by simp[Value.oneCell']) ?_;have nc_:=Z_ (setCells_all (vs:= [.int .i64 0,.int .i64 0,.int .i64 0,.int .i64 0,.string ⟨#[]⟩,.string ⟨#[]⟩,.slice none 0 0]) (old:= [.int .i64 0,.int .i64 0,.int .i64 0,.int .i64 0,.string ⟨#[]⟩,.string ⟨#[]⟩,.slice none 0 0]) YT.out rfl);have hb:=below_setCells HB_.out (Nat.le_of_eq HG_.out.symm) [.int .i64 0,.int .i64 0,.int .i64 0,.int .i64 0,.string ⟨#[]⟩,.string ⟨#[]⟩,.slice none 0 0] 0;replace Y1:=Z_ (blk_below Y1.out hb);replace YW:=Z_ (below_step YW.out hb);clear hb HB_ HG_ YT;have YT:=nc_;clear nc_;generalize World.setCells _ _ _ _=wk_ at Y1 YW YT ⊢;have r0:=blk_cell Y1.out 0;have r1:=blk_cell Y1.out 1;simp at r0 r1))
 clear r0 r1;refine(PU.out _ (T0.out.below YW.out)).mono ?_;rintro e wk_ ⟨rfl,hb⟩;replace Y1:=Z_ (blk_below Y1.out hb);replace YW:=Z_ (below_step YW.out hb);replace YT:=Z_ (blk_below YT.out hb);clear hb
 go_wp2_with fail
 refine(num_calls 2400 _).mono ?_;rintro e wk_ ⟨rfl,hb⟩;replace Y1:=Z_ (blk_below Y1.out hb);replace YW:=Z_ (below_step YW.out hb);clear hb
 go_wp2_with fail
 refine(num_calls 2400 _).mono ?_;rintro e wk_ ⟨rfl,hb⟩;replace Y1:=Z_ (blk_below Y1.out hb);replace YW:=Z_ (below_step YW.out hb);clear hb;go_wp2;go_ret;exact⟨rfl,YW.out⟩
theorem mv_none(ch bi:Nat)(d o:ByteArray)(a:Int)(ks:Nat)(w:World)(hT:Tabs w)(hF:descantref13_FormatMay.f (ch:Int) (bi:Int)=some true)(W:ByteArray)(hW:descanttop_wav.f 20 (ch:Int) (bi:Int) d=some W)(hI:wrap64 (1+(wrap64 (Int.tmod (IntKind.u64.wrap a) 64)))=(ks:Int))(E hd tl:ByteArray)(m:Nat)(l:List ByteArray)(p1 p2 p3 p5 q:Nat)(ho:StrOk E ch bi ks m hd tl l p1 p2 p3 p5 q)(hE:∀w1,Tabs w1→Calls Tryz.prog 10 #[.string W,.int .i64 (ks:Int)] w1 fun e w'=>e= .returned (.tuple #[.string E,.int .i64 0])∧Below w1.heap.size w1 w')(sx:ByteArray)(ix:Int)(hP:∀w1,Tabs w1→Calls Tryz.prog 21 #[.string o,.agg #[.int .i64 (ch:Int),.int .i64 (bi:Int)]] w1 fun e w'=>e= .returned (.tuple #[.string sx,.int .i64 ix])∧Below w1.heap.size w1 w')(hix:¬ix=0∨(ix=0∧l.length=0)):
  Calls Tryz.prog 6 #[.agg #[.int .i64 (ch:Int),.int .i64 (bi:Int)],.string d,.string o,.int .i64 a] w fun e w'=>e= .returned (.bool true)∧Below w.heap.size w w':=by
 have T0:=Z_ hT;have HF:=Lib.hid hF;have Y1:Aside0 ((w.alloc (.cells #[.int .i64 (ch:Int),.int .i64 (bi:Int)] 23)).heap[w.heap.size]?=some (.cells #[.int .i64 (ch:Int),.int .i64 (bi:Int)] 23 (0,0))):=⟨blk_new w _⟩;have YW:Aside0 (Below w.heap.size w (w.alloc (.cells #[.int .i64 (ch:Int),.int .i64 (bi:Int)] 23))):=⟨below_alloc (Below.refl _ _) _⟩;have HW:=Lib.hid hW;have HI:=Lib.hid hI;have EN:=Z_ hE;have PU:=Z_ hP;have lM:=Tryz.underlying49;have fH:=Tryz.underlying23;have HO:=Z_ ho;clear hT hF hW hI hE hP ho
 go_enter Tryz.func6,Tryz.ntmps6
 go_wp2_with fail
 refine(awake_calls _ (T0.out.below YW.out)).mono ?_;rintro e wk_ ⟨rfl,hb⟩;replace Y1:=Z_ (blk_below Y1.out hb);replace YW:=Z_ (below_step YW.out hb);clear hb;have r0:=blk_cell Y1.out 0;have r1:=blk_cell Y1.out 1;simp at r0 r1
 go_wp2_with fail
 clear r0 r1;refine(descantref13_FormatMay.calls _ _ true _ HF.out).mono ?_;rintro e wk_ ⟨rfl,hb⟩;replace Y1:=Z_ (blk_below Y1.out hb);replace YW:=Z_ (below_step YW.out hb);clear hb;have r0:=blk_cell Y1.out 0;have r1:=blk_cell Y1.out 1;simp at r0 r1
 go_wp2_with fail
 clear r0 r1;refine(descanttop_wav.calls 20 ch bi d _ _ HW.out).mono ?_;rintro e wk_ ⟨rfl,hb⟩;replace Y1:=Z_ (blk_below Y1.out hb);replace YW:=Z_ (below_step YW.out hb);clear hb
 go_wp2_with fail
 (try simp only[i64_w]);rw[HI.out];refine(EN.out _ (T0.out.below YW.out)).mono ?_;rintro e wk_ ⟨rfl,hb⟩;replace Y1:=Z_ (blk_below Y1.out hb);replace YW:=Z_ (below_step YW.out hb);clear hb
 go_wp2_with fail
 refine(sget_calls E ch bi ks m hd tl l p1 p2 p3 p5 q _ HO.out).mono ?_;rintro e wk_ ⟨v0,rfl,hr,hb⟩;obtain⟨As,cs_,he,hcs,_⟩:=Kd.R_reads hr;subst he;have HS:=Z_ (Kd.R_lower hr YW.out.size);replace Y1:=Z_ (blk_below Y1.out hb);replace YW:=Z_ (below_step YW.out hb);clear hr hb
 go_wp2_with (first|(refine X_ 12 #[.int .i64 0,.int .i64 0,.int .i64 0,.int .i64 0,.string ⟨#[]⟩,.string ⟨#[]⟩,.slice none 0 0] 49 ?_;intro gt hg wk_ hbox hb;have HG_:=Z_ hg;have HB_:=Z_ hb;have YT:=Z_ hbox;clear hbox hb hg)|((with_reducible refine gate_store (t:=49) (p:=12) rfl ?_);refine wpList_store_mid rfl 49 _ _ rfl gt 0 #[.int .i64 ch,.int .i64 bi,.int .i64 ks,.int .i64 m,.string hd,.string tl,.slice As l.length cs_] rfl rfl (there_blk (vs:= [.int .i64 0,.int .i64 0,.int .i64 0,.int .i64 0,.string ⟨#[]⟩,.string ⟨#[]⟩,.slice none 0 0]) YT.out 0 7 (by decide)) (by kernel_rfl) (by simp[Value.oneCell']) ?_;have nc_:=Z_ (setCells_all (vs:= [.int .i64 ch,.int .i64 bi,.int .i64 ks,.int .i64 m,.string hd,.string tl,.slice As l.length cs_]) (old:= [.int .i64 0,.int .i64 0,.int .i64 0,.int .i64 0,.string ⟨#[]⟩,.string ⟨#[]⟩,.slice none 0 0]) YT.out rfl);have hb:=below_setCells HB_.out (Nat.le_of_eq HG_.out.symm) [.int .i64 ch,.int .i64 bi,.int .i64 ks,.int .i64 m,.string hd,.string tl,.slice As l.length cs_] 0;replace Y1:=Z_ (blk_below Y1.out hb);replace YW:=Z_ (below_step YW.out hb);replace HS:=Z_ (Kd.R_below HS.out hb);clear hb HB_ HG_ YT;have YT:=nc_;clear nc_;generalize World.setCells _ _ _ _=wk_ at Y1 YW HS YT ⊢;have r0:=blk_cell Y1.out 0;have r1:=blk_cell Y1.out 1;simp at r0 r1))
 clear r0 r1;refine(PU.out _ (T0.out.below YW.out)).mono ?_;rintro e wk_ ⟨rfl,hb⟩;replace Y1:=Z_ (blk_below Y1.out hb);replace YW:=Z_ (below_step YW.out hb);replace HS:=Z_ (Kd.R_below HS.out hb);replace YT:=Z_ (blk_below YT.out hb);clear hb
 go_wp2_with fail
 refine(num_calls 0 _).mono ?_;rintro e wk_ ⟨rfl,hb⟩;replace Y1:=Z_ (blk_below Y1.out hb);replace YW:=Z_ (below_step YW.out hb);replace HS:=Z_ (Kd.R_below HS.out hb);replace YT:=Z_ (blk_below YT.out hb);clear hb
 go_wp2_with fail
 refine(num_calls 0 _).mono ?_;rintro e wk_ ⟨rfl,hb⟩;replace Y1:=Z_ (blk_below Y1.out hb);replace YW:=Z_ (below_step YW.out hb);replace HS:=Z_ (Kd.R_below HS.out hb);replace YT:=Z_ (blk_below YT.out hb);clear hb
 go_wp2_with fail
 refine(num_calls ix _).mono ?_;rintro e wk_ ⟨rfl,hb⟩;replace Y1:=Z_ (blk_below Y1.out hb);replace YW:=Z_ (below_step YW.out hb);replace HS:=Z_ (Kd.R_below HS.out hb);replace YT:=Z_ (blk_below YT.out hb);clear hb;have r6:=blk_cell YT.out 6;have r3:=blk_cell YT.out 3;simp at r6 r3
 rcases hix with hix|⟨rfl,hl0⟩
 ·go_wp2_with fail
  refine(num_calls 0 _).mono ?_;rintro e wk_ ⟨rfl,hb⟩;replace YW:=Z_ (below_step YW.out hb);clear hb
  go_wp2_with fail
  refine(num_calls 0 _).mono ?_;rintro e wk_ ⟨rfl,hb⟩;replace YW:=Z_ (below_step YW.out hb);clear hb;go_wp2;go_ret;exact⟨rfl,YW.out⟩
 ·have hl1:(l.length:Int)=0:=by omega
  go_wp2_with fail
  refine(num_calls 0 _).mono ?_;rintro e wk_ ⟨rfl,hb⟩;replace YW:=Z_ (below_step YW.out hb);clear hb
  go_wp2_with fail
  refine(num_calls 0 _).mono ?_;rintro e wk_ ⟨rfl,hb⟩;replace YW:=Z_ (below_step YW.out hb);clear hb;go_wp2;go_ret;exact⟨rfl,YW.out⟩
theorem mv_go(ch bi:Nat)(d o:ByteArray)(a:Int)(ks:Nat)(w:World)(hT:Tabs w)(hF:descantref13_FormatMay.f (ch:Int) (bi:Int)=some true)(W:ByteArray)(hW:descanttop_wav.f 20 (ch:Int) (bi:Int) d=some W)(hI:wrap64 (1+(wrap64 (Int.tmod (IntKind.u64.wrap a) 64)))=(ks:Int))(E hd tl:ByteArray)(m:Nat)(l:List ByteArray)(p1 p2 p3 p5 q:Nat)(ho:StrOk E ch bi ks m hd tl l p1 p2 p3 p5 q)(hE:∀w1,Tabs w1→Calls Tryz.prog 10 #[.string W,.int .i64 (ks:Int)] w1 fun e w'=>e= .returned (.tuple #[.string E,.int .i64 0])∧Below w1.heap.size w1 w')(sx:ByteArray)(hP:∀w1,Tabs w1→Calls Tryz.prog 21 #[.string o,.agg #[.int .i64 (ch:Int),.int .i64 (bi:Int)]] w1 fun e w'=>e= .returned (.tuple #[.string sx,.int .i64 0])∧Below w1.heap.size w1 w')(hl:0<l.length)(fs first z:Nat)(hfs:descantref13_FrameSize.f (ch:Int) (bi:Int)=some (fs:Int))(hfi:(ks≤m∧first=ks)∨(m<ks∧first=m))(hz:wrap64 ((first:Int)*(fs:Int))=(z:Int))(u t:ByteArray)(r:Int)
  (hQ:stream_Put.f (ch:Int) (bi:Int) (ks:Int) (m:Int) hd tl (l.set 0 sx)=some (u,0))
  (hR:∀w1,Tabs w1→Calls Tryz.prog 19 #[.string u,.int .i64 0,.int .i64 (first:Int)] w1 fun e w'=>e= .returned (.tuple #[.string t,.int .i64 r])∧Below w1.heap.size w1 w')
  (hcase:(¬(o.size:Int)=(z:Int)∧r=2401)∨((o.size:Int)=(z:Int)∧r=0∧o=t)):
  Calls Tryz.prog 6 #[.agg #[.int .i64 (ch:Int),.int .i64 (bi:Int)],.string d,.string o,.int .i64 a] w fun e w'=>e= .returned (.bool true)∧Below w.heap.size w w':=by
 have T0:=Z_ hT;have HF:=Lib.hid hF;have Y1:Aside0 ((w.alloc (.cells #[.int .i64 (ch:Int),.int .i64 (bi:Int)] 23)).heap[w.heap.size]?=some (.cells #[.int .i64 (ch:Int),.int .i64 (bi:Int)] 23 (0,0))):=⟨blk_new w _⟩;have YW:Aside0 (Below w.heap.size w (w.alloc (.cells #[.int .i64 (ch:Int),.int .i64 (bi:Int)] 23))):=⟨below_alloc (Below.refl _ _) _⟩;have HW:=Lib.hid hW;have HI:=Lib.hid hI;have EN:=Z_ hE;have PU:=Z_ hP;have lM:=Tryz.underlying49;have fH:=Tryz.underlying23;have HO:=Z_ ho;have HFS:=Lib.hid hfs;have HFI:=Lib.hid hfi;have HZ:=Lib.hid hz;have HQ:=Lib.hid hQ;have RA:=Z_ hR;have HCA:=Z_ hcase;clear hT hF hW hI hE hP ho hfs hfi hz hQ hR hcase;have hl1:¬(l.length:Int)=0:=by omega
 have hl2:(0:Int)<(l.length:Int):=by omega
 go_enter Tryz.func6,Tryz.ntmps6
 go_wp2_with fail
 refine(awake_calls _ (T0.out.below YW.out)).mono ?_;rintro e wk_ ⟨rfl,hb⟩;replace Y1:=Z_ (blk_below Y1.out hb);replace YW:=Z_ (below_step YW.out hb);clear hb;have r0:=blk_cell Y1.out 0;have r1:=blk_cell Y1.out 1;simp at r0 r1
 go_wp2_with fail
 clear r0 r1;refine(descantref13_FormatMay.calls _ _ true _ HF.out).mono ?_;rintro e wk_ ⟨rfl,hb⟩;replace Y1:=Z_ (blk_below Y1.out hb);replace YW:=Z_ (below_step YW.out hb);clear hb;have r0:=blk_cell Y1.out 0;have r1:=blk_cell Y1.out 1;simp at r0 r1
 go_wp2_with fail
 clear r0 r1;refine(descanttop_wav.calls 20 ch bi d _ _ HW.out).mono ?_;rintro e wk_ ⟨rfl,hb⟩;replace Y1:=Z_ (blk_below Y1.out hb);replace YW:=Z_ (below_step YW.out hb);clear hb
 go_wp2_with fail
 (try simp only[i64_w]);rw[HI.out];refine(EN.out _ (T0.out.below YW.out)).mono ?_;rintro e wk_ ⟨rfl,hb⟩;replace Y1:=Z_ (blk_below Y1.out hb);replace YW:=Z_ (below_step YW.out hb);clear hb
 go_wp2_with fail
 refine(sget_calls E ch bi ks m hd tl l p1 p2 p3 p5 q _ HO.out).mono ?_;rintro e wk_ ⟨v0,rfl,hr,hb⟩;obtain⟨As,cs_,he,hcs,_⟩:=Kd.R_reads hr;subst he;have HS:=Z_ (Kd.R_lower hr YW.out.size);replace Y1:=Z_ (blk_below Y1.out hb);replace YW:=Z_ (below_step YW.out hb);clear hr hb
 go_wp2_with (first|(refine X_ 12 #[.int .i64 0,.int .i64 0,.int .i64 0,.int .i64 0,.string ⟨#[]⟩,.string ⟨#[]⟩,.slice none 0 0] 49 ?_;intro gt hg wk_ hbox hb;have HG_:=Z_ hg;have HB_:=Z_ hb;have YT:=Z_ hbox;clear hbox hb hg)|((with_reducible refine gate_store (t:=49) (p:=12) rfl ?_);refine wpList_store_mid rfl 49 _ _ rfl gt 0 #[.int .i64 ch,.int .i64 bi,.int .i64 ks,.int .i64 m,.string hd,.string tl,.slice As l.length cs_] rfl rfl (there_blk (vs:= [.int .i64 0,.int .i64 0,.int .i64 0,.int .i64 0,.string ⟨#[]⟩,.string ⟨#[]⟩,.slice none 0 0]) YT.out 0 7 (by decide)) (by kernel_rfl) (by simp[Value.oneCell']) ?_;have nc_:=Z_ (setCells_all (vs:= [.int .i64 ch,.int .i64 bi,.int .i64 ks,.int .i64 m,.string hd,.string tl,.slice As l.length cs_]) (old:= [.int .i64 0,.int .i64 0,.int .i64 0,.int .i64 0,.string ⟨#[]⟩,.string ⟨#[]⟩,.slice none 0 0]) YT.out rfl);have hb:=below_setCells HB_.out (Nat.le_of_eq HG_.out.symm) [.int .i64 ch,.int .i64 bi,.int .i64 ks,.int .i64 m,.string hd,.string tl,.slice As l.length cs_] 0;replace Y1:=Z_ (blk_below Y1.out hb);replace YW:=Z_ (below_step YW.out hb);replace HS:=Z_ (Kd.R_below HS.out hb);clear hb HB_ HG_ YT;have YT:=nc_;clear nc_;generalize World.setCells _ _ _ _=wk_ at Y1 YW HS YT ⊢;have r0:=blk_cell Y1.out 0;have r1:=blk_cell Y1.out 1;simp at r0 r1))
 clear r0 r1;refine(PU.out _ (T0.out.below YW.out)).mono ?_;rintro e wk_ ⟨rfl,hb⟩;replace Y1:=Z_ (blk_below Y1.out hb);replace YW:=Z_ (below_step YW.out hb);replace HS:=Z_ (Kd.R_below HS.out hb);replace YT:=Z_ (blk_below YT.out hb);clear hb
 go_wp2_with fail
 refine(num_calls 0 _).mono ?_;rintro e wk_ ⟨rfl,hb⟩;replace Y1:=Z_ (blk_below Y1.out hb);replace YW:=Z_ (below_step YW.out hb);replace HS:=Z_ (Kd.R_below HS.out hb);replace YT:=Z_ (blk_below YT.out hb);clear hb
 go_wp2_with fail
 refine(num_calls 0 _).mono ?_;rintro e wk_ ⟨rfl,hb⟩;replace Y1:=Z_ (blk_below Y1.out hb);replace YW:=Z_ (below_step YW.out hb);replace HS:=Z_ (Kd.R_below HS.out hb);replace YT:=Z_ (blk_below YT.out hb);clear hb
 go_wp2_with fail
 refine(num_calls 0 _).mono ?_;rintro e wk_ ⟨rfl,hb⟩;replace Y1:=Z_ (blk_below Y1.out hb);replace YW:=Z_ (below_step YW.out hb);replace HS:=Z_ (Kd.R_below HS.out hb);replace YT:=Z_ (blk_below YT.out hb);clear hb;have r6:=blk_cell YT.out 6;have r3:=blk_cell YT.out 3;simp at r6 r3;have r0:=blk_cell Y1.out 0;have r1:=blk_cell Y1.out 1;simp at r0 r1
 go_wp2_with fail
 clear r0 r1;refine(descantref13_FrameSize.calls _ _ _ _ HFS.out).mono ?_;rintro e wk_ ⟨rfl,hb⟩;replace Y1:=Z_ (blk_below Y1.out hb);replace YW:=Z_ (below_step YW.out hb);replace HS:=Z_ (Kd.R_below HS.out hb);replace YT:=Z_ (blk_below YT.out hb);clear hb;clear r6 r3;have hfi:(ks≤m∧ks=first∧(ks:Int)≤m∧¬(m:Int)<ks)∨(m<ks∧m=first∧(m:Int)<ks∧¬(ks:Int)≤m):=by rcases HFI.out with ⟨u1,u2⟩|⟨u1,u2⟩<;>omega
 clear HFI
 rcases hfi with ⟨u1,rfl,u2,u3⟩|⟨u1,rfl,u2,u3⟩
 all_goals
  have r6:=blk_cell YT.out 6;have r3:=blk_cell YT.out 3;simp at r6 r3;obtain⟨gs,co_,eo_,gb_,gl_,cl_,HGs⟩:=Kd.R_form HS.out hl
  cases eo_
  obtain⟨hx0,hf0⟩:=Kd.R_celln ByteArray.empty HS.out 0 (Int.le_refl _) hl2;have GB:=Z_ gb_;have NT:=Z_ HGs;have HPg:=Kd.R_putg HS.out 0 sx;clear gb_ HGs;have ne1:gs≠w.heap.size:=fun e_=>Kd.R_ne HS.out Y1.out (by decide) (by first|exact congrArg some e_.symm|(simp[Value.ownBlock];exact e_.symm))
  have Xb:gs≠gt:=fun e_=>Kd.R_ne HS.out YT.out (by decide) (by first|exact congrArg some e_.symm|(simp[Value.ownBlock];exact e_.symm))
  (try simp only[show(0:Int).toNat=0 from rfl] at hx0 hf0);have hl3:=eq_true hl2
  go_wp2_with (first|((with_reducible refine gate_store (t:=9) (p:=87) rfl ?_);refine store_event (t:=9) (p:=87) (v:=?vo) (w1:=(wk_.setCell ⟨gs,(0:Int).toNat,none⟩ (.string sx))) ?hg ?ho ?hn ?hr ?_;(case ho=>rfl);(case hg=>rfl);(case hn=>rfl);(case hr=>first|(go_simp;done)|(go_simp;rfl));intro nX hw;have hg:wk_.grownBy nX (some gs):=(by rw[hw];exact HPg.2);have hp_:Kd.R Kd.string 9 nX w.heap.size _ (.slice (some ⟨gs,0,none⟩) l.length cs_) (l.set (0:Int).toNat sx):=(by rw[hw];exact HPg.1);replace HS:=Z_ hp_;replace YW:=Z_ (show Below w.heap.size w nX by rw[hw];exact below_set YW.out GB.out);replace YT:=Z_ (blk_grown YT.out hg (fun e_=>Xb (Option.some.inj e_).symm));clear HPg hg hp_ hw Y1 r6 r3 hx0 hf0)|((with_reducible refine gate_dst (N:=89) rfl ?_);refine wpList_load_mid rfl 49 _ rfl gt 0 rfl [.int .i64 ch,.int .i64 bi,.int .i64 ks,.int .i64 m,.string hd,.string tl,.slice (some ⟨gs,0,none⟩) l.length cs_] _ (range_all YT.out) Tryz.underlying49 rfl (by kernel_rfl) ?_))
  have HC:=(Kd.R_reads' HS.out).2;have SP:=stream_Put.calls ch bi ks m hd tl (some ⟨gs,0,none⟩) cs_ (l.set 0 sx) u 0 _ HC.2 (by rw[List.length_set];exact HC.1) HQ.out;rw[List.length_set] at SP;refine SP.mono ?_;rintro e wk_ ⟨rfl,hb⟩;clear SP HC YT HS;replace YW:=Z_ (below_step YW.out hb);clear hb
  go_wp2_with fail
  refine(RA.out _ (T0.out.below YW.out)).mono ?_;rintro e wk_ ⟨rfl,hb⟩;replace YW:=Z_ (below_step YW.out hb);clear hb
  rcases HCA.out with ⟨h1,rfl⟩|⟨h1,rfl,rfl⟩
  ·have h1n:¬o.size=z:=by omega
   have hz:=HZ.out
   go_wp2_with fail
   refine(num_calls 0 _).mono ?_;rintro e wk_ ⟨rfl,hb⟩;replace YW:=Z_ (below_step YW.out hb);clear hb
   go_wp2_with fail
   refine(num_calls 2401 _).mono ?_;rintro e wk_ ⟨rfl,hb⟩;replace YW:=Z_ (below_step YW.out hb);clear hb;go_wp2;go_ret;exact⟨rfl,YW.out⟩
  ·have h1n:o.size=z:=by omega
   have hz:=HZ.out
   go_wp2_with fail
   refine(num_calls 0 _).mono ?_;rintro e wk_ ⟨rfl,hb⟩;replace YW:=Z_ (below_step YW.out hb);clear hb
   go_wp2_with fail
   refine(num_calls 0 _).mono ?_;rintro e wk_ ⟨rfl,hb⟩;replace YW:=Z_ (below_step YW.out hb);clear hb;go_wp2;go_ret;exact⟨rfl,YW.out⟩
theorem mvW_par(ch bi ks:Nat)(d:ByteArray)(hc:ch=1∨ch=2)(hb:bi=8∨bi=16)(hk:1≤ks)(hks:ks≤64)(h1:d.size%fsz ch bi=0)(h2:(wavB ch bi d).size≤4096):Par ch bi ks (d.size / fsz ch bi) ((wavB ch bi d).extract 0 44) d ((wavB ch bi d).extract (44+d.size) (wavB ch bi d).size):=by
 have hz:=wavB_size ch bi d;refine⟨hc,hb,hk,hks,(Nat.div_mul_cancel (Nat.dvd_of_mod_eq_zero h1)).symm,?_⟩;rw[ByteArray.size_extract,ByteArray.size_extract];omega
theorem fmtMay(x y:Int):∃t,descantref13_FormatMay.f x y=some t∧(t=true→∃ch bi:Nat,x=(ch:Int)∧y=(bi:Int)∧(ch=1∨ch=2)∧(bi=8∨bi=16)):=by
 by_cases h1:x=1
 ·subst h1;refine⟨if y=8 then true else(y==16),?_,fun h=>?_⟩
  ·show(if y=8 then some true else some (y==16))=_
   split<;>rfl
  ·refine⟨1,y.toNat,rfl,?_,.inl rfl,?_⟩<;>(split at h<;>first|omega|(rw[beq_iff_eq] at h;omega))
 ·by_cases h2:x=2
  ·subst h2;refine⟨if y=8 then true else(y==16),?_,fun h=>?_⟩
   ·show(if y=8 then some true else some (y==16))=_
    split<;>rfl
   ·refine⟨2,y.toNat,rfl,?_,.inr rfl,?_⟩<;>(split at h<;>first|omega|(rw[beq_iff_eq] at h;omega))
  ·refine⟨false,?_,fun h=>by cases h⟩;unfold descantref13_FormatMay.f descantref13_upTo.f
   by_cases h3:x≥1
   ·rw[if_pos h3,bs_,if_neg (by rw[decide_eq_true_iff];omega)]
   ·rw[if_neg h3,bs_,if_neg (by decide)]
theorem wav_k(k ch bi:Nat)(d:ByteArray)(hc:ch=1∨ch=2)(hb:bi=8∨bi=16)(hd:d.size≤140737488351232):descanttop_wav.f 20 (ch:Int) (bi:Int) d=some (wavB ch bi d):=wav_f 20 ch bi d hc hb (Nat.le_trans hd (by decide)) (by decide)
theorem tot_set(L:List ByteArray)(x:ByteArray){A:Nat}(h0:0<L.length)(hs:∀y∈L,9≤y.size∧y.size≤9+A)(hx:x.size≤9+64*4):tot (L.set 0 x)≤L.length*(9+A)+(9+64*4):=by
 cases L with
 |nil=>exact absurd h0 (by decide)
 |cons y r=>
  have h1:=tot_unif r (9+A) (fun z hz=>(hs z (List.mem_cons_of_mem _ hz)).2);have e:tot ((y::r).set 0 x)=x.size+tot r:=rfl;rw[e,List.length_cons,Nat.add_mul,Nat.one_mul];omega
theorem first_seg(L:List ByteArray)(x:ByteArray)(h0:0<L.length):tot (((L.set 0 x).drop 0).take (1 - 0))=x.size:=by
 cases L with
 |nil=>exact absurd h0 (by decide)
 |cons y r=>exact Nat.add_zero _
theorem flat_first(L:List ByteArray)(x:ByteArray)(h0:0<L.length):(⟨(flat (((L.set 0 x).drop 0).take 1)).toArray⟩:ByteArray)=x:=by
 cases L with
 |nil=>exact absurd h0 (by decide)
 |cons y r=>
  have e:flat ((((y::r).set 0 x).drop 0).take 1)=x.data.toList++ []:=rfl;rw[e,List.append_nil,Array.toArray_toList]
theorem wsize_lem(a b c x y q t nf:Nat)(h:x+y≤4096)(a1:a≤2)(a2:b≤2)(a3:c≤2)(hq:q≤4096)(ht:t≤9*q+nf+(9+64*4))(hnf:nf≤4096+256):7+a+b+c+x+y+2*q+4+t≤65536:=by omega
theorem stream_wide(ch bi ks m:Nat)(hd tl:ByteArray)(L:List ByteArray)(hh:headOk (ch:Int) (bi:Int) (ks:Int) (m:Int) hd tl)(hs:hd.size+tl.size≤4096)(hl:L.length=nseg m ks)(hk:1≤ks)(hks:ks≤64)(hm:m≤4096)(hx:∀x∈L,9≤x.size∧x.size≤9+64*4)(ht:tot L≤nseg m ks*(9+ks*fsz ch bi)+(9+64*4))(hf:fsz ch bi≤4)(hmf:m*fsz ch bi≤4096):
  stream_Put.f (ch:Int) (bi:Int) (ks:Int) (m:Int) hd tl L=some (sput ch bi ks m hd tl L,0)∧∃p1 p2 p3 p5 q,StrOk (sput ch bi ks m hd tl L) ch bi ks m hd tl L p1 p2 p3 p5 q:=by
 have hn:=nseg_le m ks hk;have hmany:stream_Many.f (m:Int) (ks:Int)=some (L.length:Int):=by rw[hl];exact smany_f m ks hk (Nat.le_trans hm (by decide)) (Nat.le_trans hks (by decide))
 have hall:∀x∈L,szB x=true:=fun x h=>dt_ (szb_le _ _ (hx x h).1 (hx x h).2 (Nat.le_refl _))
 have a1:=vb_len m;have a2:=vb_len hd.size;have a3:=vb_len tl.size;rw[strOfNums_size] at a1 a2 a3;have hup:=nseg_up m ks hk
 have hnf:nseg m ks*(ks*fsz ch bi)≤4096+256:=by
  rw[←Nat.mul_assoc];have e1:nseg m ks*ks*fsz ch bi≤(m+ks)*fsz ch bi:=Nat.mul_le_mul_right _ (Nat.le_of_lt hup);rw[Nat.add_mul] at e1;exact Nat.le_trans e1 (Nat.add_le_add hmf (Nat.mul_le_mul hks hf))
 have ht2:tot L≤9*nseg m ks+nseg m ks*(ks*fsz ch bi)+(9+64*4):=by
  rw[Nat.mul_add,Nat.mul_comm (nseg m ks) 9] at ht;exact ht
 have h5:=sput_size ch bi ks m hd tl L;rw[sputL_len,hl] at h5
 have h6:(sput ch bi ks m hd tl L).size≤65536:=by
  rw[h5];exact wsize_lem _ _ _ _ _ _ _ _ hs a1 a2 a3 (Nat.le_trans hn hm) ht2 hnf
 refine⟨?_,sput_ok ch bi ks m hd tl L hh hmany hall h6⟩;unfold stream_Put.f;rw[if_pos ⟨hh,hmany,by rw[hl];exact Nat.le_trans hn hm,List.all_eq_true.2 hall⟩];rfl
theorem set_get0(l:List ByteArray)(x:ByteArray)(h:0<l.length):(l.set 0 x).getD 0 ByteArray.empty=x:=by
 rw[gD_,List.getElem?_set,if_pos rfl,if_pos h];rfl
theorem mv_first(ks m:Nat)(h1:1≤ks)(h2:ks≤64)(hm:0<m):∃first,((ks≤m∧first=ks)∨(m<ks∧first=m))∧1≤first∧first≤64∧first≤m∧first≤ks∧cnt m ks 0=first:=by
 refine⟨min ks m,by omega,by omega,by omega,by omega,by omega,?_⟩;unfold cnt;rw[Nat.zero_mul,Nat.sub_zero]
theorem one_seg(first ks:Nat)(h1:1≤first)(h2:first≤ks):nseg first ks=1:=by
 unfold nseg;have:first+ks - 1<2*ks:=by omega
 exact Nat.div_eq_of_lt_le (by omega) (by omega)
theorem le265(x a b:Nat)(h1:x≤9+a)(h2:a≤b):x≤9+b:=by omega
theorem tot_fit(n a:Nat)(t:Nat)(hn:n≤4096)(ha:a≤64*4)(h:t≤n*(9+a)+(9+64*4)):t≤140737488355328:=by
 have h1:n*(9+a)≤4096*(9+64*4):=Nat.mul_le_mul hn (Nat.add_le_add_left ha 9);omega
theorem mv_range(ch bi ks m c first:Nat)(hd d tl o s:ByteArray)(P:Par ch bi ks m hd d tl)(c2:c≤64)(c3:o.size=c*fsz ch bi)(hs2:9≤s.size)(hs3:s.size≤9+o.size)(hs4:segment_Get.f 16000 s (ch:Int) (bi:Int)=some (o,0))(L:List ByteArray)(hl0:0<L.length)(hln:L.length=nseg m ks)(hLsz:∀x∈L,9≤x.size∧x.size≤9+ks*fsz ch bi)(f1:1≤first)(f2:first≤m)(f3:first≤ks)(hcnt:cnt m ks 0=first):
  ∃u t r,stream_Put.f (ch:Int) (bi:Int) (ks:Int) (m:Int) hd tl (L.set 0 s)=some (u,0)∧(∀w1,Tabs w1→Calls Tryz.prog 19 #[.string u,.int .i64 0,.int .i64 (first:Int)] w1 fun e w'=>e= .returned (.tuple #[.string t,.int .i64 r])∧Below w1.heap.size w1 w')∧
   ((¬o.size=first*fsz ch bi∧r=2401)∨(o.size=first*fsz ch bi∧r=0∧t=o)):=by
 have hf:=P.f1;have i1:=P.hk;have i2:=P.hks;have EI:=P.m4;have UI:ks*fsz ch bi≤64*4:=Nat.mul_le_mul i2 hf.2;have hc8:c*fsz ch bi≤64*4:=Nat.mul_le_mul c2 hf.2;have UJ:o.size≤64*4:=by rw[c3];exact hc8
 have UK:s.size≤9+64*4:=le265 _ _ _ hs3 UJ;have Xc:nseg m ks≤4096:=Nat.le_trans (nseg_le m ks i1) EI;have hm0:0*ks<m:=by rw[Nat.zero_mul];exact Nat.lt_of_lt_of_le f1 f2
 have hls:(L.set 0 s).length=nseg m ks:=by rw[List.length_set,hln]
 have hl1:0<(L.set 0 s).length:=by rw[List.length_set];exact hl0
 have hall:∀x∈L.set 0 s,9≤x.size∧x.size≤9+64*4:=by
  intro x hx
  rcases List.mem_or_eq_of_mem_set hx with h|h
  ·exact⟨(hLsz x h).1,le265 _ _ _ (hLsz x h).2 UI⟩
  ·subst h;exact⟨hs2,UK⟩
 have ht:=tot_set L s hl0 hLsz UK;rw[hln] at ht;obtain⟨hQ,v1,v2,v3,v5,vq,hu⟩:=stream_wide ch bi ks m hd tl (L.set 0 s) P.head (by have:=P.h4;omega) hls i1 i2 EI hall ht hf.2 (P.hz▸P.d4);have hdat:=data_any ch bi ks m 0 16000 hd tl (L.set 0 s) o s P.hc P.hb i1 i2 EI hm0 hl1 (set_get0 L s hl0) hs4;rw[hcnt] at hdat
 by_cases hoz:o.size=first*fsz ch bi
 ·rw[if_pos hoz] at hdat;have hn1:=one_seg first ks f1 f3
  have h9:=tot_set L o hl0 hLsz (Nat.le_trans UJ (by decide));rw[hln] at h9;have htt:=tot_fit _ _ _ Xc UI h9;have hfs:=first_seg L o hl0;refine⟨_,o,0,hQ,fun w1 hw=>?_,.inr ⟨hoz,rfl,rfl⟩⟩
  have hR:=range_calls 16000 _ ch bi ks m hd tl (L.set 0 s) (L.set 0 o) v1 v2 v3 v5 vq 0 first 0 1 (fsz ch bi) w1 hw hu f1 f2 (Nat.zero_div ks) (fun i=>by rw[←hn1];exact nseg_lt first ks i i1) hl1 (by decide) (fun i _ hi=>by
    obtain rfl:i=0:=by omega
    rw[set_get0 L o hl0]
    exact hdat) (by rw[List.length_set,List.length_set]) htt (pframe_f ch bi P.hc P.hb) hf.2 (by
    rw[Nat.zero_mul,Nat.sub_zero,hfs,hoz]
    exact Nat.le_refl _)
  simp only[Nat.zero_mul,Nat.sub_zero] at hR;rw[flat_first L o hl0,←hoz,ByteArray.extract_zero_size] at hR;exact hR
 ·rw[if_neg hoz] at hdat;exact⟨_,_,2401,hQ,fun w1 hw=>rangeF_calls 16000 _ ch bi ks m hd tl (L.set 0 s) v1 v2 v3 v5 vq first _ w1 hw hu f1 f2 hl1 hdat,.inl ⟨hoz,rfl⟩⟩
theorem topMoved_call(x y:Int)(d o:ByteArray)(a:Int)(w:World)(hT:Tabs w)(h1:d.size≤140737488351232)(h2:o.size≤140737488351232):Calls Tryz.prog 6 #[.agg #[.int .i64 x,.int .i64 y],.string d,.string o,.int .i64 a] w fun e w'=>e= .returned (.bool true)∧Below w.heap.size w w':=by
 obtain⟨t,ht,hfm⟩:=fmtMay x y
 cases t with
 |false=>exact mv_fmt x y d o a w hT ht
 |true=>
  obtain⟨ch,bi,rfl,rfl,hc,hb⟩:=hfm rfl;obtain⟨ks,i1,i2,hi⟩:=size64 a;have hW:=wav_k 20 ch bi d hc hb h1;have hf:=fsz_pos ch bi hc hb
  have hP:∃sx ix,segment_Put.f 16000 o (ch:Int) (bi:Int)=some (sx,ix):=by
   rcases segPutA 16000 ch bi o (by decide) hc hb with h|⟨c,c1,c2,c3⟩
   ·exact⟨_,_,h⟩
   ·exact⟨_,_,(segOf_f 16000 ch bi c o (by decide) hc hb c1 c2 c3).1⟩
  by_cases hok:d.size%fsz ch bi=0∧(wavB ch bi d).size≤4096
  ·have P:=mvW_par ch bi ks d hc hb i1 i2 hok.1 hok.2;have hat:=wavB_at ch bi d;rw[←wavB_size] at hat;have hp:=parse_go 16000 (by decide) hat hok.2 hc hb;rw[if_pos hok.1] at hp;have hE:=e_enc 16000 ch bi ks _ _ _ _ _ P (by decide) hp;obtain⟨p1,p2,p3,p5,q,ho⟩:=P.ok;have hEn:=fun w1 (hw:Tabs w1)=>file_Encode.calls 16000 (wavB ch bi d) ks _ _ w1 hE hw
   generalize (wavB ch bi d).extract 0 44=hd at P hp hE ho hEn;generalize (wavB ch bi d).extract (44+d.size) (wavB ch bi d).size=tl at P hp hE ho hEn;obtain⟨m,hm⟩:∃m,d.size / fsz ch bi=m:=⟨_,rfl⟩;rw[hm] at P ho hEn
   rcases segPutA 16000 ch bi o (by decide) hc hb with h|⟨c,c1,c2,c3⟩
   ·exact mv_none ch bi d o a ks w hT ht _ hW hi _ hd tl m _ p1 p2 p3 p5 q ho hEn _ _ (fun w1 hw=>segment_Put.calls 16000 o ch bi _ _ w1 h hw) (.inl (by decide))
   ·obtain⟨hs1,hs2,hs3,hs4⟩:=segOf_f 16000 ch bi c o (by decide) hc hb c1 c2 c3;have hPn:=fun w1 (hw:Tabs w1)=>segment_Put.calls 16000 o ch bi _ _ w1 hs1 hw
    rcases Nat.eq_zero_or_pos (eL ch bi ks m d).length with hl0|hl0
    ·exact mv_none ch bi d o a ks w hT ht _ hW hi _ hd tl m _ p1 p2 p3 p5 q ho hEn _ _ hPn (.inr ⟨rfl,hl0⟩)
    ·have hln:=eL_len ch bi ks m d
     have hm1:0<m:=by
      have:=(nseg_lt m ks 0 i1).1 (by omega);omega
     obtain⟨first,hmn,f1,f64,f2,f3,hcnt⟩:=mv_first ks m i1 i2 hm1;have hff:first*fsz ch bi≤64*4:=Nat.mul_le_mul f64 hf.2
     have hfs:descantref13_FrameSize.f (ch:Int) (bi:Int)=some ((fsz ch bi:Nat):Int):=pframe_f ch bi hc hb;obtain⟨u,t,r,hQ,hR,hcase⟩:=mv_range ch bi ks m c first hd d tl o _ P c2 c3 hs2 hs3 hs4 (eL ch bi ks m d) hl0 hln P.sz f1 f2 f3 hcnt
     exact mv_go ch bi d o a ks w hT ht _ hW hi _ hd tl m _ p1 p2 p3 p5 q ho hEn _ hPn hl0 _ first (first*fsz ch bi) hfs hmn (w_mulF first (fsz ch bi) hff) u t r hQ hR (by
      rcases hcase with ⟨g1,g2⟩|⟨g1,g2⟩
      ·exact .inl ⟨fun e=>g1 (Int.ofNat.inj e),g2⟩
      ·exact .inr ⟨congrArg _ g1,g2.1,g2.2.symm⟩)
  ·obtain⟨sx,ix,hsp⟩:=hP;refine mv_bad ch bi d o a ks w hT ht _ hW hi (fun w1 hw=>?_) sx ix (fun w1 hw=>segment_Put.calls 16000 o ch bi _ _ w1 hsp hw);refine file_Encode.calls 16000 (wavB ch bi d) ks _ _ w1 ?_ hw
   have hp:wave_Parse.f 16000 (wavB ch bi d)=some (0,0,(⟨#[]⟩:ByteArray),(⟨#[]⟩:ByteArray),(⟨#[]⟩:ByteArray),2100):=by
    rcases Nat.lt_or_ge 4096 (wavB ch bi d).size with h4|h4
    ·exact parse_big 16000 (by decide) _ h4
    ·have hat:=wavB_at ch bi d;rw[←wavB_size] at hat;have hp:=parse_go 16000 (by decide) hat h4 hc hb;rw[if_neg (fun h5=>hok ⟨h5,h4⟩)] at hp;exact hp
   unfold file_Encode.f;rw[hp,bs_];dsimp only;rw[if_neg (by decide),file_Encode.j0,if_pos rfl]
end Go.Proofs.YtfghldonnffldaaGreatDoor
namespace Go.Proofs.YtfghldonnffldaaGreatDoor
open Go.RowKit YtfghldonnffldaaGreatDoorW.PrintWords YtfghldonnffldaaGreatDoorW.PrintLast YtfghldonnffldaaGreatDoorW.PrintMore TBase
open Go.RowKit
theorem gDeb:Tryz.prog.globalNamed "math/bits.deBruijn64tab" =some 2:=by kernel_rfl
theorem gDebT:(Tryz.prog.globals[2]?).map (·.type)=some 225:=by kernel_rfl
theorem gStr:Tryz.prog.globalNamed "descant/stretch.table" =some 3:=by kernel_rfl
theorem gStrT:(Tryz.prog.globals[3]?).map (·.type)=some 228:=by kernel_rfl
theorem cells225:Tryz.prog.cellsOf 225=64:=by kernel_rfl
theorem cells228:Tryz.prog.cellsOf 228=33:=by kernel_rfl
theorem cells5_:Tryz.prog.cellsOf 5=1:=by kernel_rfl
theorem cells3_:Tryz.prog.cellsOf 3=1:=by kernel_rfl
def laidL:List (String×DataW Unit):= [("math/bits.deBruijn32tab",Rows.laid_math_bits_deBruijn32tab),("math/bits.deBruijn64tab",Rows.laid_math_bits_deBruijn64tab),("descant/stretch.table",Rows.laid_descant_stretch_table)]
theorem laidTabs{W:World}(h0:laidMetH Tryz.prog laidL W):Tabs W:=by
 have h:laidMet Tryz.prog laidL W:=h0;have h1:=laidMet.tail h;have h2:=laidMet.tail h1;have t1:Lib.TabIs Tryz.prog W "math/bits.deBruijn64tab" .u8 Sq.deb:=Lib.tabIs_of_head gDeb gDebT Tryz.underlying225 Tryz.underlying5 cells5_ cells225 h1;have t2:Lib.TabIs Tryz.prog W "descant/stretch.table" .i64 Sq.tab:=Lib.tabIs_of_head gStr gStrT Tryz.underlying228 Tryz.underlying3 cells3_ cells228 h2;exact⟨fun j hj=>t2.cell gStr j hj,fun j hj=>t1.cell gDeb j hj⟩
def dataCells:DataW Unit→Array Value
 | .agg l=>(l.map fun| .lit (.int k z)=>Value.int k z|_=>Value.bool false).toArray
 |_=> #[]
def layCells(cs:Array Value):Obj→Obj
 | .cells _ t frozen=> .cells cs t frozen
 |o=>o
noncomputable def laidWorld(os:Os):World:=
 { World.holding Tryz.prog os ⟨#[],#[],[]⟩ with heap:=(((World.holding Tryz.prog os ⟨#[],#[],[]⟩).heap.modify 1 (layCells (dataCells Rows.laid_math_bits_deBruijn32tab))).modify 2 (layCells (dataCells Rows.laid_math_bits_deBruijn64tab))).modify 3 (layCells (dataCells Rows.laid_descant_stretch_table)) }
end Go.Proofs.YtfghldonnffldaaGreatDoor
namespace Go.Proofs.YtfghldonnffldaaGreatDoor.topMoved
open Go.ChangeShapes Go.WideShapes Go.ChangeAt Go.RowKit Go.Joins
open Go.ChangeMaps (open_string shut_string)
theorem own:ownKnob Tryz.prog.godebug=none:=by kernel_rfl
theorem laidOut:laidOutB Tryz.prog=true:=by kernel_rfl
theorem two{α:Type}(l:List α)(h:l.length=2):∃a b,l= [a,b]:=by
 rcases l with _|⟨a,_|⟨b,l⟩⟩<;>simp at h
 subst h;exact⟨a,b,rfl⟩
theorem opened{H:Type}{enc:TypeId×Value→H}{W:World}{b0 b1:Nat}{r:Reach}{spare:Nat→Bool}{held:Bool}{v:Value}{d:DataW H}{p:List MemPlace}(hv:Value.okWide Tryz.prog W r b0 23 v)(h:DataW.Trod enc Tryz.prog W b1 spare held 23 v d p):
  ∃(x y:Int),v= .agg #[.int .i64 x,.int .i64 y]:=by
 obtain⟨cs,rfl,hsz⟩:=okWide_struct Tryz.underlying23 hv;have h5:cs.toList.length=2:=by rw[Array.length_toList];exact hsz.trans (by kernel_rfl)
 obtain⟨c0,c1,hl⟩:=two _ h5;obtain⟨fuel,hf⟩:=h;obtain⟨xs,n,_,_,_,hlen,hg⟩:=DataW.trod_struct Tryz.underlying23 hf;obtain⟨y0,y1,rfl⟩:=two xs hlen;have k3:Tryz.prog.cellsOf 3=1:=by kernel_rfl
 have g0:=hg 0 _ rfl;have g1:=hg 1 _ rfl;simp[Value.cells,hl,k3] at g0 g1;obtain⟨a0,e0,_,_⟩:=DataW.trod_int Tryz.underlying3 g0;obtain⟨a1,e1,_,_⟩:=DataW.trod_int Tryz.underlying3 g1;simp at e0 e1;subst e0 e1;refine⟨a0,a1,?_⟩
 congr 1
 exact Array.ext' hl
theorem laid_met(os:Os):laidMet Tryz.prog Rows.topMovedRow.laid ((laidWorld os).forCall (fun _ _=>0) ⟨#[],#[.agg #[.int .i64 0,.int .i64 0],.string ByteArray.empty,.string ByteArray.empty,.int .i64 0],[]⟩).memory:=
 laidMet_of_run' 8 (by kernel_rfl) (by kernel_rfl)
theorem reads(os:Os){H:Type}(enc:TypeId×Value→H):∃dgp,DataW.whole enc Tryz.prog ((laidWorld os).forCall (fun _ _=>0) ⟨#[],#[.agg #[.int .i64 0,.int .i64 0],.string ByteArray.empty,.string ByteArray.empty,.int .i64 0],[]⟩).memory Tryz.f6.params.toList (OpenSpec.ofChange Rows.topMovedSpec).vars false (#[.agg #[.int .i64 0,.int .i64 0],.string ByteArray.empty,.string ByteArray.empty,.int .i64 0]:Array Value).toList 8=some ([.agg [.lit (.int .i64 0),.lit (.int .i64 0)],.lit (.string []),.lit (.string []),.lit (.int .i64 0)],[],dgp):=
 ⟨[],by kernel_rfl⟩
theorem lifted(os:Os)(started:os.Started)(H:Type)(enc:TypeId×Value→H)(F:Stop.Interp):
  ReturnsInHanded {} Tryz.checked os 6 .any ((OpenSpec.ofChange Rows.topMovedSpec).preRow enc Tryz.prog Tryz.f6 Rows.topMovedRow.domain false Rows.topMovedRow.laid) (((OpenSpec.ofChange Rows.topMovedSpec).at F).post enc Tryz.prog Tryz.f6 false true false false):=by
 obtain⟨places,hx⟩:=reads os enc
 refine returnsInHanded_of_row (C:=Tryz.checked) (s:=OpenSpec.ofChange Rows.topMovedSpec) own started (by kernel_rfl) Tryz.func6
  (witness_row_at (enc:=enc) (C:=Tryz.checked) false (laidWorld os) #[.agg #[.int .i64 0,.int .i64 0],.string ByteArray.empty,.string ByteArray.empty,.int .i64 0] rfl (by kernel_rfl) (by kernel_rfl) (by kernel_rfl)
   (OpenSpec.preRow_of_cond 8 hx (by kernel_rfl) (fun k hk=>by cases hk) (by kernel_rfl) (laid_met os))) ?_
 intro W base args ds gs before hval0 hW hcnd _ hsz0 hL _ _;have hsz:(DataW.weightsEach Tryz.prog (Tryz.f6.params.toList++Rows.topMovedSpec.plain.varTypes Tryz.prog) (ds++gs)).all (· ≤reachBytes)=true:=hsz0;have hval:∀(j:Nat) t v,Tryz.f6.params[j]?=some t→args[j]?=some v→Value.okWide Tryz.prog W .any base t v:=hval0;have hW':=hW;obtain⟨p,q,UL,hV,rfl,hfz,hnd⟩:=hW;have hA:DataW.TrodAll enc Tryz.prog W 0 (fun _=>true) true Tryz.f6.params.toList args.toList ds p:=UL;rw[Tryz.params6] at hA hval hsz;obtain⟨v0,Xw,d0,ds0,p0,q0,hargs,rfl,rfl,h0,r0⟩:=trodAll_cons hA;obtain⟨v1,vs1,d1,ds1,p1,q1,rfl,rfl,rfl,h1,r1⟩:=trodAll_cons r0;obtain⟨v2,vs2,d2,Xx,p2,q2,rfl,rfl,rfl,h2,r2⟩:=trodAll_cons r1;obtain⟨v3,vs3,d3,ds3,p3,q3,rfl,rfl,rfl,h3,r3⟩:=trodAll_cons r2;obtain⟨rfl,rfl,rfl⟩:=trodAll_nil r3;obtain rfl:args= #[v0,v1,v2,v3]:=by cases args;simp_all
 obtain⟨rfl,rfl⟩:=trodVars_none hV;have k0:=h0;have Xd:∀x∈p0,x.block<W.heap.size:=by obtain⟨m,hm⟩:=k0;exact DataW.trod_lt m _ _ _ hm
 obtain⟨x0,y0,Xe⟩:=opened (hval 0 23 v0 rfl rfl) h0;subst Xe;obtain⟨a1,rfl,rfl,rfl,y1⟩:=open_string Tryz.underlying9 (hval 1 9 v1 rfl rfl) h1
 have w1:a1.size≤140737488351232:=by
  have z:=sized_string hsz (j:=1) (t:=9) rfl rfl;rw[Array.length_toList] at z;exact z
 obtain⟨a2,rfl,rfl,rfl,y2⟩:=open_string Tryz.underlying9 (hval 2 9 v2 rfl rfl) h2
 have w2:a2.size≤140737488351232:=by
  have z:=sized_string hsz (j:=2) (t:=9) rfl rfl;rw[Array.length_toList] at z;exact z
 obtain⟨a3,rfl,rfl,rfl,w3⟩:=open_int Tryz.underlying3 (hval 3 3 v3 rfl rfl) h3;clear UL hval0 hsz0 hsz;refine(topMoved_call x0 y0 a1 a2 a3 W (laidTabs hL) w1 w2).mono fun e W' ⟨he,bel⟩=>?_
 subst he;exact⟨_,rfl,_,_,_,[],_,[],hW',trodAll_mk1 (shut_bool Tryz.underlying4 _),(trodAll_cons_mk (Below.trod laidOut (by kernel_rfl) (of_decide_eq_true (by kernel_rfl)) k0 bel Xd) (trodAll_cons_mk (shut_string Tryz.underlying9 y1) (trodAll_cons_mk (shut_string Tryz.underlying9 y2) (trodAll_cons_mk (shut_int Tryz.underlying3 w3) trodAll_mk0)))),rfl,bel.frame _,fun h=>by cases h⟩
theorem over:Rows.TopMovedSaid:=
 OpenClaim.holds_of_cond 6 Tryz.f6 rfl rfl rfl rfl rfl rfl rfl ⟨rfl,rfl,rfl,rfl,rfl⟩ rfl rfl rfl rfl rfl (by kernel_rfl) Tryz.func6 (by kernel_rfl)
  (of_decide_eq_true (by kernel_rfl)) (by unfold Func.isWrapper;first|(rw[if_pos (by decide+kernel)];kernel_rfl)|(rw[if_neg (by decide+kernel)];exact⟨rfl,rfl⟩))
  (fun os started H enc _ F=>by rw[OpenClaim.pre_eq_preRow];exact lifted os started H enc F)
theorem plain(f:FuncId)(fn:Func)(hf:Tryz.pinned.checked.prog.funcNamed "descant/descanttop.TopMoved" =some f)(hfn:Tryz.pinned.checked.prog.funcs[f]?=some fn):
  false=Tryz.pinned.checked.prog.looks []∧∀(j:Nat) t,fn.params[j]?=some t→Tryz.pinned.checked.prog.wantsStandIn t=false:=by
 obtain rfl:f=6:=Option.some.inj ((show Tryz.prog.funcNamed "descant/descanttop.TopMoved" =some 6 by kernel_rfl).symm.trans hf) |>.symm
 obtain rfl:fn=Tryz.f6:=(Option.some.inj (Tryz.func6.symm.trans hfn)).symm;refine⟨by kernel_rfl,fun j t ht=>?_⟩;rw[Tryz.params6] at ht;have hm:=Array.mem_of_getElem? ht;simp at hm
 rcases hm with rfl|rfl|rfl
 ·exact(show Tryz.prog.wantsStandIn 23=false by kernel_rfl)
 ·exact(show Tryz.prog.wantsStandIn 9=false by kernel_rfl)
 ·exact(show Tryz.prog.wantsStandIn 3=false by kernel_rfl)
theorem card:Rows.TopMovedCardSaid:=
 Claim7.holds_tied_plain_at .later [] _ _ _ _ over (fun _ h=>by cases h) (by kernel_rfl) (fun _ h=>by cases h) topMoved_row_tie rfl ⟨rfl,rfl⟩ (by kernel_rfl) rfl plain (by kernel_rfl)
#print axioms card
end Go.Proofs.YtfghldonnffldaaGreatDoor.topMoved
namespace Go.Proofs.YtfghldonnffldaaGreatDoor
theorem topMoved_holds:Rows.TopMovedCardSaid:=topMoved.card
end Go.Proofs.YtfghldonnffldaaGreatDoor
