/- Lemmas for the law on the console: the parts CnA,CnF,CnH. -/
import Derived.Test.YtpiehlfffjhoaaaGreatDoorQ16
namespace Go.Proofs.YtpiehlfffjhoaaaGreatDoor
open Go.RowKit Go.Proofs.Tryz
set_option maxRecDepth 100000
set_option maxHeartbeats 2000000
theorem lZ(sep:ByteArray)(h1:1<=sep.size)(sv:Nat):∀ (k:Nat) (s:ByteArray),Lib.countB s sep<=k->Lib.splitB sep sv k s=Lib.splitB sep sv (Lib.countB s sep) s
 | 0,s,h=>by rw [Nat.le_zero.1 h]
 | k + 1,s,h=>by
   rcases Lib.indexB_cases s sep with hix | ⟨i,hix,_⟩
   ·rw [Lib.splitB_miss _ _ _ _ hix,Lib.splitB_miss _ _ _ _ hix]
   · have hc:=Lib.countB_hit s sep i h1 hix;obtain ⟨m,hm⟩:∃ m,Lib.countB s sep=m + 1:=⟨Lib.countB s sep - 1,by omega⟩
     rw [hm,Lib.splitB_hit _ _ _ _ i hix,Lib.splitB_hit _ _ _ _ i hix,lZ sep h1 sv k _ (by omega)];rw [show Lib.countB (s.extract (i + sep.size) s.size) sep=m by omega]
theorem mz(sep:ByteArray)(h1:1<=sep.size)(sv:Nat):∀ (k:Nat) (s:ByteArray),k<=Lib.countB s sep->(Lib.splitB sep sv k s).length=k + 1
 | 0,_,_=>rfl
 | k + 1,s,h=>by
   rcases Lib.indexB_cases s sep with hix | ⟨i,hix,_⟩
   ·rw [Lib.countB_miss s sep hix] at h;omega
   ·have hc:=Lib.countB_hit s sep i h1 hix;rw [Lib.splitB_hit _ _ _ _ i hix,List.length_cons,mz sep h1 sv k _ (by omega)]
def sH(s:ByteArray):List ByteArray:=Lib.splitB ⟨#[47]⟩ 0 (min 5 (s.size + 1) - 1) s
theorem aq(s:ByteArray):((sH s).length=4 ↔ (zl 47 s).length=4)/\((zl 47 s).length=4->sH s=zl 47 s)/\(sH s).length<=5:=by
 have hl:=nE 47 s;have hle:=Lib.countB_le (⟨#[47]⟩:ByteArray) (Nat.le_refl 1) s.size s (Nat.le_refl _);have key:Lib.countB s ⟨#[47]⟩<=min 5 (s.size + 1) - 1->sH s=zl 47 s:=fun h=>by
  unfold sH;rw [lZ (⟨#[47]⟩:ByteArray) (Nat.le_refl 1) 0 _ s h,lY]
 by_cases h:Lib.countB s ⟨#[47]⟩<=min 5 (s.size + 1) - 1
 ·rw [key h];exact ⟨Iff.rfl,fun _=>rfl,by rw [hl];omega⟩
 ·have h2:(sH s).length=min 5 (s.size + 1) - 1 + 1:=mz (⟨#[47]⟩:ByteArray) (Nat.le_refl 1) 0 _ s (by omega);rw [h2,hl];exact ⟨by omega,by omega,by omega⟩
theorem cf(s:ByteArray)(hs:s.size<=4000000000)(w:World)(hT:Tabs w):Calls prog 193 #[.string s,.string ⟨#[47]⟩,.int .i64 5] w fun e w'=>∃ c:Nat,e=.returned (.slice (some ⟨w.heap.size,0,none⟩) (sH s).length c)/\Below w.heap.size w w'/\((sH s).length=4->Arr w' (some ⟨w.heap.size,0,none⟩) ((sH s).map Value.string)):=by
 obtain ⟨m,hm⟩:=hT.len;have h:=Tryz.strings_SplitN s ⟨#[47]⟩ 5 m w (by omega) hm (Nat.le_refl 1) (by omega) (by omega);refine h.mono ?_;rintro e w' ⟨rfl,rfl⟩;refine ⟨_,rfl,zc (Below.refl _ _) _,fun _=>?_⟩;intro _;refine ⟨_,rfl,by simp,fun j u hu=>?_⟩;have hadd:(⟨w.heap.size,0,none⟩:Addr).add j=⟨w.heap.size,j,none⟩:=by unfold Addr.add;split <;> simp_all
 rw [hadd,(Blk.new w 9 _).cell j];change (List.map Value.string (sH s) ++ List.replicate _ (Value.string ByteArray.empty)).toArray[j]?=some u;have h2:=(List.getElem?_eq_some_iff.1 hu).1;have h3:(List.map Value.string (sH s) ++ List.replicate (min 5 (s.size + 1) - (Lib.splitB ⟨#[47]⟩ 0 (min 5 (s.size + 1) - 1) s).length) (Value.string ByteArray.empty))[j]?=some u:=by rw [List.getElem?_append_left h2];exact hu
 simpa using h3
def oG(L:List ByteArray):List Int:=L.map zq
def uv(L:List ByteArray):Bool:=L.all okB
def zbS(s:ByteArray)(w:World)(e:Ending)(w':World):Prop:=∃ (A:Option Addr) (m c:Nat) (ok:Bool),e=.returned (.tuple #[.slice A m c,.bool ok])/\ok=(decide ((zl 47 s).length=4) && uv (zl 47 s))/\(ok=true->m=4/\Arr w' A (zd zp (oG (zl 47 s))))/\Below w.heap.size w w'
theorem qM:(prog.info? 2).map (fun i=>(i.zero,i.size,i.bytes))=some (some (.int .i64 0),1,8):=by kernel_rfl
theorem fy{L:List ByteArray}{j:Nat}{y:ByteArray}(h:L[j]?=some y)(hn:okB y=false):uv L=false:=by
 unfold uv;rw [List.all_eq_false];exact ⟨y,List.mem_of_getElem? h,by simp [hn]⟩
theorem mZ{L:List ByteArray}{j:Nat}{y:ByteArray}(h:L[j]?=some y)(ht:uv (L.take j)=true)(hy:okB y=true):uv (L.take (j + 1))=true:=by
 unfold uv at *;rw [yJ h,List.all_append,ht];simp [hy]
theorem mj{L:List ByteArray}{j:Nat}{y:ByteArray}(h:L[j]?=some y):zd zp (oG (L.take (j + 1)))=zd zp (oG (L.take j)) ++ #[Value.int .i64 (zq y)].toList:=by
 unfold oG;rw [yJ h];simp [zd,zp]
theorem kB(s:ByteArray)(hs:s.size<=4194304)(w:World)(hT:Tabs w):Calls prog 126 #[.string s,.string ⟨#[47]⟩,.int .i64 4] w (zbS s w):=by
 obtain ⟨i0,hi0,hz0,hz1,hz2⟩:=info_parts (P:=prog) (e:=2) (z:=.int .i64 0) (size:=1) (bytes:=8) qM;have HT:=qH hT;have hp:=aq s;have HSP:=qH (cf s (by omega) w hT);clear hT;have hyz:Hid (∀ y ∈ zl 47 s,y.size<=s.size):=qH (fun y hy=>wU (c:=47) hy);obtain ⟨P5,hP5⟩:=zN (sH s);obtain ⟨L,hL⟩:=zN (zl 47 s);unfold zbS;rw [<-hP5,<-hL] at hp;rw [<-hP5] at HSP;rw [<-hL] at hyz |-;clear hP5 hL;obtain ⟨h4,h5,h6⟩:=hp;have H4:=qH h4;have H5:=qH h5;clear h4 h5;obtain ⟨m,hm⟩:=zN P5.length;rw [<-hm] at H4 HSP h6;clear hm;go_in;go_wp2_with fail;refine HSP.out.mono ?_;rintro e W1 ⟨c,rfl,hv,hA⟩;have HA:=qH hA;obtain ⟨g,hg⟩:=zN w.heap.size;rw [<-hg] at HA |-;clear hA hg;by_cases hm4:m=4
 case neg=>
  have hne:((m:Int) != 4)=true:=by rw [bne_iff_ne];omega
  have hf:=qH (show (decide (L.length=4) && uv L)=false by rw [decide_eq_false (fun h=>hm4 (H4.out.2 h))];rfl);go_wp2;go_returns;exact ⟨_,_,_,false,rfl,hf.out.symm,(fun h=>Bool.noConfusion h),hv⟩
 subst hm4;have hL4:=H4.out.1 rfl;have HL4:=qH hL4;have HAL:Hid (Arr W1 (some ⟨g,0,none⟩) (zd zt L)):=qH (by
  have h:=HA.out rfl;rw [H5.out hL4] at h;rw [xo];exact h)
 clear HA H5 H4 hL4;have hO0:=zI W1 W1.heap.size 2 1 (Nat.le_refl _);go_wp2_with fail;have hv1:=zc (Below.refl W1.heap.size W1) (.cells #[] 2)
 go_loopw [9,26] (fun v i wr=>∃ (j:Nat) (A':Option Addr) (c':Nat),i=.int .i64 j/\v=.slice A' j c'/\j<=4/\Hid (uv (L.take j)=true)/\Hid (wr.ownsRow W1.heap.size 2 1 (.slice A' j c') j (zd zp (oG (L.take j))))/\Below W1.heap.size W1 wr) (fun _ i _=>4 - (intOf i).toNat)
 case atStart=>exact ⟨0,_,_,rfl,rfl,by omega,qH rfl,qH hO0,hv1⟩
 case round=>
  clear hO0 hv1;obtain ⟨j,A',c',rfl,rfl,hj,HB,HO,hb⟩:=hrel;have hi0':(0:Int)<=(j:Int):=by omega
  by_cases hlt:j < 4
  · have hi1:(j:Int) < 4:=by omega
    obtain ⟨y,hy⟩:=zx (xs:=L) (k:=j) (by rw [HL4.out];exact hlt);obtain ⟨bd,hbd,hbb,d0⟩:=zh (HAL.out.below hb) hy;injection hbd with hbd;subst hbd;rw [Addr.add_lit,Nat.zero_add] at d0;have hys:=hyz.out y (List.mem_of_getElem? hy);have HY:=qH hy;have HRD:=fun w h=>xO y (by omega) w h;change ∀ w,Tabs w->Calls prog 33 #[.string y] w (RetT #[.int .i64 (zq y),.bool (okB y)] w) at HRD;obtain ⟨q,hq⟩:=zN (zq y);rw [<-hq] at HRD;have HQ:=qH hq;have HZ:=qH HRD;clear hy hq HRD;go_wp2_with fail;refine qS (HZ.out _ (HT.out.below (za hv hb))) fun W2 hb2=>?_;replace HO:=qH (ze HO.out hb2);replace hb:=za hb hb2;clear hb2 HZ d0;cases ho:okB y
    case false=>
     have hf:=qH (show (decide (L.length=4) && uv L)=false by rw [fy HY.out ho,Bool.and_false]);clear ho;go_wp2;go_returns;exact ⟨_,_,_,false,rfl,hf.out.symm,(fun h=>Bool.noConfusion h),za hv hb⟩
    have HB2:=qH (mZ HY.out HB.out ho);clear ho;go_wp2_with (at_builtin;refine xI W2 #[.int .i64 q] rfl _ _ 58 2 rfl i0 _ 1 8 underlying58 hi0 hz0 hz1 hz2 rfl (by omega) W1.heap.size (.slice A' j c') j _ rfl rfl HO.out rfl (by simp [Value.oneCell']) (by unfold maxLen;omega) (by omega) hb.size ?_;intro A2 c2 w2 hown2 hg3)
    have hr:=zn HO.out;exact ⟨⟨j + 1,A2,c2,by go_num,rfl,by omega,HB2,qH (by rw [mj HY.out,<-HQ.out];exact hown2),zi hb hg3 hr⟩,by simp [intOf];omega⟩
  · obtain rfl:j=4:=by omega
    have htk:L.take 4=L:=List.take_of_length_le (by rw [HL4.out];exact Nat.le_refl _);rw [htk] at HB HO;have hf:=qH (show (decide (L.length=4) && uv L)=true by rw [HL4.out,HB.out];rfl);go_wp2;go_returns;exact ⟨_,_,_,true,rfl,hf.out.symm,fun _=>⟨rfl,Arr.own HO.out⟩,za hv hb⟩
theorem zQ{w:World}{g:Nat}{cs:Array Value}{a:Addr}{v:Value}(h:w.cell? a=some v)(hne:a.block≠g):(World.setRow w.drew g cs).cell? a=some v:=by
 rw [cell_setRow_other _ _ _ _ hne];exact h
def zFo:Foot:=⟨0,0,0,0⟩
def sh(o:Option Foot):Array Value:=#[.agg #[.int .i64 (o.getD zFo).length,.int .i64 (o.getD zFo).b,.int .i64 (o.getD zFo).i,.int .i64 (o.getD zFo).h],.bool o.isSome]
theorem zaQ(A:Option Addr)(a b c d:Int)(k:Nat)(w:World)(hA:Arr w A (zd zp [a,b,c,d])):Calls prog 26 #[.slice A 4 k] w (Ret (.agg #[.int .i64 a,.int .i64 b,.int .i64 c,.int .i64 d]) w):=by
 obtain ⟨W,hW⟩:=zN (w.alloc (Obj.cells cG 27));obtain ⟨g,hg⟩:=zN w.heap.size;have hv:Below w.heap.size w W:=by rw [hW];exact zc (Below.refl _ _) _
 have HB:Hid (Blk W g 27 cG):=qH (by rw [hW,hg];exact Blk.new _ _ _);have hgw:w.heap.size<=g:=by omega
 have HW:=qH hW;have HG:=qH hg;have hA1:=hA.below hv;obtain ⟨ad,rfl,hab,_⟩:=yn hA (k:=0) (x:=a) rfl;obtain ⟨_,e0,_,c0⟩:=yn hA1 (k:=0) (x:=a) rfl;obtain ⟨_,e1,_,c1⟩:=yn hA1 (k:=1) (x:=b) rfl;obtain ⟨_,e2,_,c2⟩:=yn hA1 (k:=2) (x:=c) rfl;obtain ⟨_,e3,_,c3⟩:=yn hA1 (k:=3) (x:=d) rfl;injection e0 with e0;injection e1 with e1;injection e2 with e2;injection e3 with e3;subst e0 e1 e2 e3;replace c0:W.cell? ad=some (.int .i64 a):=c0;replace c1:=yq c1;replace c2:=yq c2;replace c3:=yq c3;have hne:ad.block≠g:=by omega
 have HBD:=qH (HB.out.below (Below.refl W.heap.size W).drew);clear hA hA1 hW hg hab;go_in;go_upto_region 1 with fail;rw [<-HW.out,<-HG.out];clear HW HG;refine zH (fun w'=>World.cell? w' ad=some (.int .i64 a)/\World.cell? w' ⟨ad.block,ad.off + 1,none⟩=some (.int .i64 b)/\World.cell? w' ⟨ad.block,ad.off + 2,none⟩=some (.int .i64 c)/\World.cell? w' ⟨ad.block,ad.off + 3,none⟩=some (.int .i64 d)) ?_ (fun hHeld=>?_)
 ·exact ⟨c0,c1,c2,c3⟩
 refine zU 0 3 ?_;refine zU 1 4 ?_;refine zT 2 5 rfl (fun w hSw=>by
  obtain ⟨x0,x1,x2,x3⟩:=hSw;go_simp;try with_reducible rfl) ?_
 refine zU 3 6 ?_;refine zU 4 7 ?_;refine zT 5 8 rfl (fun w hSw=>by
  obtain ⟨x0,x1,x2,x3⟩:=hSw;go_simp;try with_reducible rfl) ?_
 refine zU 6 9 ?_;refine zU 7 10 ?_;refine zT 8 11 rfl (fun w hSw=>by
  obtain ⟨x0,x1,x2,x3⟩:=hSw;go_simp;try with_reducible rfl) ?_
 refine zU 9 12 ?_;refine zU 10 13 ?_;refine zT 11 14 rfl (fun w hSw=>by
  obtain ⟨x0,x1,x2,x3⟩:=hSw;go_simp;try with_reducible rfl) ?_
 refine zU 12 15 ?_;refine zR 13 none rfl (fun K hK=>?_)
 skip
 go_split_ands;refine wp_store_row 27 _ _ rfl g #[.int .i64 a,.int .i64 b,.int .i64 c,.int .i64 d] rfl rfl 27 cG HBD.out (by kernel_rfl) rfl (by simp [Value.oneCell']) ?_;refine hK.out _ _ ?_ (fun hHeld=>?_)
 ·(try dsimp only);go_split_ands;exact ⟨zQ c0 hne,zQ c1 hne,zQ c2 hne,zQ c3 hne⟩
 clear hK K;try simp only [Act.put]
 refine zD ?_;clear hHeld;go_wp2_with fail;try simp only [Exit.inBlock,Exit.then]
 refine bodyPost_ret (results_cell_row (P:=prog) rfl _ _ g 27 #[Value.int .i64 a,Value.int .i64 b,Value.int .i64 c,Value.int .i64 d] (0,0) _ rfl ?_ underlying27 rfl (by kernel_rfl)) rfl ?_
 ·exact setRow_heap _ _ _ _ _ _ HBD.out
 ·exact Ret.mk rfl (zG hv.drew hgw _)
theorem zct(A:Option Addr)(a b c d:Int)(k:Nat)(w:World)(hA:Arr w A (zd zp [a,b,c,d])):Calls prog 235 #[.slice A 4 k] w (Ret (.agg #[.int .i64 a,.int .i64 b,.int .i64 c,.int .i64 d]) w):=by
 obtain ⟨W,hW⟩:=zN (w.alloc (Obj.cells cG 27));obtain ⟨g,hg⟩:=zN w.heap.size;have hv:Below w.heap.size w W:=by rw [hW];exact zc (Below.refl _ _) _
 have HB:Hid (Blk W g 27 cG):=qH (by rw [hW,hg];exact Blk.new _ _ _);have hgw:w.heap.size<=g:=by omega
 have HW:=qH hW;have HG:=qH hg;have hA1:=hA.below hv;obtain ⟨ad,rfl,hab,_⟩:=yn hA (k:=0) (x:=a) rfl;obtain ⟨_,e0,_,c0⟩:=yn hA1 (k:=0) (x:=a) rfl;obtain ⟨_,e1,_,c1⟩:=yn hA1 (k:=1) (x:=b) rfl;obtain ⟨_,e2,_,c2⟩:=yn hA1 (k:=2) (x:=c) rfl;obtain ⟨_,e3,_,c3⟩:=yn hA1 (k:=3) (x:=d) rfl;injection e0 with e0;injection e1 with e1;injection e2 with e2;injection e3 with e3;subst e0 e1 e2 e3;replace c0:W.cell? ad=some (.int .i64 a):=c0;replace c1:=yq c1;replace c2:=yq c2;replace c3:=yq c3;have hne:ad.block≠g:=by omega
 have HBD:=qH (HB.out.below (Below.refl W.heap.size W).drew);clear hA hA1 hW hg hab;go_in;go_upto_region 1 with fail;rw [<-HW.out,<-HG.out];clear HW HG;refine zH (fun w'=>World.cell? w' ad=some (.int .i64 a)/\World.cell? w' ⟨ad.block,ad.off + 1,none⟩=some (.int .i64 b)/\World.cell? w' ⟨ad.block,ad.off + 2,none⟩=some (.int .i64 c)/\World.cell? w' ⟨ad.block,ad.off + 3,none⟩=some (.int .i64 d)) ?_ (fun hHeld=>?_)
 ·exact ⟨c0,c1,c2,c3⟩
 refine zU 0 3 ?_;refine zU 1 4 ?_;refine zT 2 5 rfl (fun w hSw=>by
  obtain ⟨x0,x1,x2,x3⟩:=hSw;go_simp;try with_reducible rfl) ?_
 refine zU 3 6 ?_;refine zU 4 7 ?_;refine zT 5 8 rfl (fun w hSw=>by
  obtain ⟨x0,x1,x2,x3⟩:=hSw;go_simp;try with_reducible rfl) ?_
 refine zU 6 9 ?_;refine zU 7 10 ?_;refine zT 8 11 rfl (fun w hSw=>by
  obtain ⟨x0,x1,x2,x3⟩:=hSw;go_simp;try with_reducible rfl) ?_
 refine zU 9 12 ?_;refine zU 10 13 ?_;refine zT 11 14 rfl (fun w hSw=>by
  obtain ⟨x0,x1,x2,x3⟩:=hSw;go_simp;try with_reducible rfl) ?_
 refine zU 12 15 ?_;refine zR 13 none rfl (fun K hK=>?_)
 skip
 go_split_ands;refine wp_store_row 27 _ _ rfl g #[.int .i64 a,.int .i64 b,.int .i64 c,.int .i64 d] rfl rfl 27 cG HBD.out (by kernel_rfl) rfl (by simp [Value.oneCell']) ?_;refine hK.out _ _ ?_ (fun hHeld=>?_)
 ·(try dsimp only);go_split_ands;exact ⟨zQ c0 hne,zQ c1 hne,zQ c2 hne,zQ c3 hne⟩
 clear hK K;try simp only [Act.put]
 refine zD ?_;clear hHeld;go_wp2_with fail;try simp only [Exit.inBlock,Exit.then]
 refine bodyPost_ret (results_cell_row (P:=prog) rfl _ _ g 27 #[Value.int .i64 a,Value.int .i64 b,Value.int .i64 c,Value.int .i64 d] (0,0) _ rfl ?_ underlying27 rfl (by kernel_rfl)) rfl ?_
 ·exact setRow_heap _ _ _ _ _ _ HBD.out
 ·exact Ret.mk rfl (zG hv.drew hgw _)
def ep(L:List Int)(c:Int)(w:World)(e:Ending)(w':World):Prop:=∃ (A:Option Addr) (m k:Nat),e=.returned (.tuple #[.slice A m k,.int .i64 c])/\L.length=m/\Arr w' A (zd zp L)/\Below w.heap.size w w'
def em(L:List Int)(w:World)(e:Ending)(w':World):Prop:=∃ (A:Option Addr) (m k:Nat),e=.returned (.slice A m k)/\L.length=m/\Arr w' A (zd zp L)/\Below w.heap.size w w'
theorem fY{s i k o:Int}(h:(shB s && (shB i && (shB k && shB o)))=false):xy s i k o=([],2):=by unfold xy;rw [if_neg (by rw [h];simp)]
theorem mq{s i k o:Int}(h:(shB s && (shB i && (shB k && shB o)))=true){a b c:Int}(ha:a=min s i)(hb:b=min (s - a) k)(hc:c=min (s - a - b) o)(ht:a + b + c < s):xy s i k o=([],10):=by
 unfold xy;rw [if_pos h,<-ha,<-hb,<-hc,if_pos ht]
theorem fZ{s i k o:Int}(h:(shB s && (shB i && (shB k && shB o)))=true){a b c:Int}(ha:a=min s i)(hb:b=min (s - a) k)(hc:c=min (s - a - b) o)(ht:¬ a + b + c < s):xy s i k o=([a,b + c,c],0):=by
 unfold xy;rw [if_pos h,<-ha,<-hb,<-hc,if_neg ht]
theorem vR(w:World)(t:TypeId)(C:Array Value):Arr (w.alloc (.cells C t)) (some ⟨w.heap.size,0,none⟩) C.toList:=vY (Blk.new w t C)
theorem er(s i k o:Int)(w:World):Calls prog 84 #[.int .i64 s,.int .i64 i,.int .i64 k,.int .i64 o] w (ep (xy s i k o).1 (xy s i k o).2 w):=by
 have H0:=@fY s i k o;have H1:=fun h a b c=>@mq s i k o h a b c;have H2:=fun h a b c=>@fZ s i k o h a b c;obtain ⟨R,hR⟩:=zN (xy s i k o);rw [<-hR] at H0 H1 H2 |-;clear hR;replace H0:=qH H0;replace H1:=qH H1;replace H2:=qH H2;have HO:=qH (fun g w h=>oj (some ⟨g,0,none⟩) [s,i,k,o] 4 4 0 400 (qH rfl) (by omega) w h);have hall:([s,i,k,o].all fun k=>inB k 0 400)=(shB s && (shB i && (shB k && shB o))):=by simp [shB]
 rw [hall] at HO;obtain ⟨B,hB⟩:=zN (shB s && (shB i && (shB k && shB o)));rw [<-hB] at HO H0;have HB:=qH hB.symm;clear hB hall;obtain ⟨g,hg⟩:=zN w.heap.size;have hv:=zc (Below.refl w.heap.size w) (.cells #[Value.int .i64 s,Value.int .i64 i,Value.int .i64 k,Value.int .i64 o] 2);go_in;go_wp2_with fail;refine qS (HO.out _ _ (vR w 2 #[Value.int .i64 s,Value.int .i64 i,Value.int .i64 k,Value.int .i64 o])) fun W hb1=>?_;replace hv:=za hv hb1;clear hb1 HO hg g;cases B
 ·have HR:=qH (H0.out rfl);go_wp2;go_returns;exact ⟨none,0,0,by rw [HR.out];rfl,by rw [HR.out];rfl,by rw [HR.out];exact Arr.nil _ _,hv⟩
 have hbd:(0<=s/\s<=400)/\(0<=i/\i<=400)/\(0<=k/\k<=400)/\(0<=o/\o<=400):=by
  have h:=HB.out;simp [shB,inB] at h;omega
 obtain ⟨⟨s0,s1⟩,⟨i0,i1⟩,⟨k0,k1⟩,⟨o0,o1⟩⟩:=hbd;obtain ⟨a,ha⟩:=zN (min s i);obtain ⟨b,hb⟩:=zN (min (s - a) k);obtain ⟨c,hc⟩:=zN (min (s - a - b) o);have a0:0<=a:=by omega
 have a1:a<=400:=by omega
 have b0:0<=b:=by omega
 have b1:b<=400:=by omega
 have c0:0<=c:=by omega
 have c1:c<=400:=by omega
 have as0:a<=s:=by omega
 have abs0:a + b<=s:=by omega
 have HA:=qH ha;have HBB:=qH hb;have HC:=qH hc;have ha':min s i=a:=ha.symm;have hb':min (s - a) k=b:=hb.symm;have hc':min (s - a - b) o=c:=hc.symm;clear ha hb hc;by_cases ht:a + b + c < s
 ·have HR:=qH (H1.out HB.out _ _ _ HA.out HBB.out HC.out (by omega));clear HA HBB HC;go_wp2;go_returns;exact ⟨none,0,0,by rw [HR.out];rfl,by rw [HR.out];rfl,by rw [HR.out];exact Arr.nil _ _,hv⟩
 ·have HR:=qH (H2.out HB.out _ _ _ HA.out HBB.out HC.out (by omega));clear HA HBB HC;go_wp2;go_returns;exact ⟨_,3,3,by rw [HR.out];rfl,by rw [HR.out];rfl,by rw [HR.out];exact vR _ _ _,zc hv _⟩
theorem sQ(n:Int)(w:World):Calls prog 238 #[.int .i64 n] w (RetQ (.bool (shB n)) w):=by
 go_in;go_wp2_with fail;refine (xJ _ _ _ _).mono ?_;rintro e w' ⟨rfl,rfl⟩;go_wp2;go_returns;exact RetQ.mk rfl
theorem gH(s i k o:Int)(w:World):Calls prog 177 #[.int .i64 s,.int .i64 i,.int .i64 k,.int .i64 o] w (ep (xy s i k o).1 (xy s i k o).2 w):=by
 have H0:=@fY s i k o;have H1:=fun h a b c=>@mq s i k o h a b c;have H2:=fun h a b c=>@fZ s i k o h a b c;obtain ⟨R,hR⟩:=zN (xy s i k o);rw [<-hR] at H0 H1 H2 |-;clear hR;replace H0:=qH H0;replace H1:=qH H1;replace H2:=qH H2;have HS0:=qH (fun w=>sQ s w);have HS1:=qH (fun w=>sQ i w);have HS2:=qH (fun w=>sQ k w);have HS3:=qH (fun w=>sQ o w);have HM1:=qH (fun x y w=>qW x y w);have HB0:=qH (show (shB s && (shB i && (shB k && shB o)))=(shB s && (shB i && (shB k && shB o))) from rfl);obtain ⟨q0,hq0⟩:=zN (shB s);obtain ⟨q1,hq1⟩:=zN (shB i);obtain ⟨q2,hq2⟩:=zN (shB k);obtain ⟨q3,hq3⟩:=zN (shB o);rw [<-hq0] at HS0;rw [<-hq1] at HS1;rw [<-hq2] at HS2;rw [<-hq3] at HS3;have HB1:=qH (show (shB s && (shB i && (shB k && shB o)))=(q0 && (q1 && (q2 && q3))) by rw [hq0,hq1,hq2,hq3]);clear hq0 hq1 hq2 hq3 HB0;go_in;cases q0
 case false=>
  have HR:=qH (H0.out HB1.out);go_wp2_with fail;refine qR (HS0.out _) ?_;go_wp2;go_returns;exact ⟨none,0,0,by rw [HR.out];rfl,by rw [HR.out];rfl,by rw [HR.out];exact Arr.nil _ _,Below.refl _ _⟩
 cases q1
 case false=>
  have HR:=qH (H0.out HB1.out);go_wp2_with fail;refine qR (HS0.out _) ?_;go_wp2_with fail;refine qR (HS1.out _) ?_;go_wp2;go_returns;exact ⟨none,0,0,by rw [HR.out];rfl,by rw [HR.out];rfl,by rw [HR.out];exact Arr.nil _ _,Below.refl _ _⟩
 cases q2
 case false=>
  have HR:=qH (H0.out HB1.out);go_wp2_with fail;refine qR (HS0.out _) ?_;go_wp2_with fail;refine qR (HS1.out _) ?_;go_wp2_with fail;refine qR (HS2.out _) ?_;go_wp2;go_returns;exact ⟨none,0,0,by rw [HR.out];rfl,by rw [HR.out];rfl,by rw [HR.out];exact Arr.nil _ _,Below.refl _ _⟩
 cases q3
 case false=>
  have HR:=qH (H0.out HB1.out);go_wp2_with fail;refine qR (HS0.out _) ?_;go_wp2_with fail;refine qR (HS1.out _) ?_;go_wp2_with fail;refine qR (HS2.out _) ?_;go_wp2_with fail;refine qR (HS3.out _) ?_;go_wp2;go_returns;exact ⟨none,0,0,by rw [HR.out];rfl,by rw [HR.out];rfl,by rw [HR.out];exact Arr.nil _ _,Below.refl _ _⟩
 have HB:=qH (HB1.out:(shB s && (shB i && (shB k && shB o)))=true);have hbd:(0<=s/\s<=400)/\(0<=i/\i<=400)/\(0<=k/\k<=400)/\(0<=o/\o<=400):=by
  have h:=HB.out;simp [shB,inB] at h;omega
 obtain ⟨⟨s0,s1⟩,⟨i0,i1⟩,⟨k0,k1⟩,⟨o0,o1⟩⟩:=hbd;obtain ⟨a,ha⟩:=zN (min s i);obtain ⟨b,hb⟩:=zN (min (s - a) k);obtain ⟨c,hc⟩:=zN (min (s - a - b) o);have a0:0<=a:=by omega
 have a1:a<=400:=by omega
 have b0:0<=b:=by omega
 have b1:b<=400:=by omega
 have c0:0<=c:=by omega
 have c1:c<=400:=by omega
 have as0:a<=s:=by omega
 have abs0:a + b<=s:=by omega
 have HA:=qH ha;have HBB:=qH hb;have HC:=qH hc;have HM:=qH (fun w=>qW s i w);have HN:=qH (fun w=>qW (s - a) k w);have HP:=qH (fun w=>qW (s - a - b) o w);rw [<-ha] at HM;rw [<-hb] at HN;rw [<-hc] at HP;clear ha hb hc;go_wp2_with fail;refine qR (HS0.out _) ?_;go_wp2_with fail;refine qR (HS1.out _) ?_;go_wp2_with fail;refine qR (HS2.out _) ?_;go_wp2_with fail;refine qR (HS3.out _) ?_;go_wp2_with fail;refine qR (HM.out _) ?_;go_wp2_with fail;refine qR (HN.out _) ?_;go_wp2_with fail;refine qR (HP.out _) ?_;by_cases ht:a + b + c < s
 ·have HR:=qH (H1.out HB.out _ _ _ HA.out HBB.out HC.out (by omega));clear HA HBB HC;go_wp2;go_returns;exact ⟨none,0,0,by rw [HR.out];rfl,by rw [HR.out];rfl,by rw [HR.out];exact Arr.nil _ _,(Below.refl _ _)⟩
 ·have HR:=qH (H2.out HB.out _ _ _ HA.out HBB.out HC.out (by omega));clear HA HBB HC;go_wp2;go_returns;exact ⟨_,3,3,by rw [HR.out];rfl,by rw [HR.out];rfl,by rw [HR.out];exact vR _ _ _,zc (Below.refl _ _) _⟩
def se(k:Int):Int:=if 0 < wJ k then wJ k else -1
theorem jF(k:Int):0<=wJ k/\wJ k<=300:=by
 unfold wJ
 repeat' split
 all_goals omega
theorem lj(k a:Int):xi k a=(decide (0 < wJ k) && (decide (a≠0) && inB a (-wJ k) (wJ k))):=rfl
theorem cy(k a:Int):xi k a=(decide (a≠0) && inB a (-se k) (se k)):=by
 rw [lj];unfold se;by_cases h:0 < wJ k
 ·rw [decide_eq_true h,if_pos h,Bool.true_and]
 ·rw [decide_eq_false h,if_neg h,Bool.false_and];symm;rw [Bool.and_eq_false_iff];right;rw [bB];omega
theorem jE(k:Int)(w:World):Calls prog 258 #[.int .i64 k] w (RetQ (.int .i64 (wJ k)) w):=by
 by_cases h1:k=1
 ·subst h1;go_in;go_wp2;go_returns;exact RetQ.mk rfl
 by_cases h2:k=2
 ·subst h2;go_in;go_wp2;go_returns;exact RetQ.mk rfl
 by_cases h3:k=3
 ·subst h3;go_in;go_wp2;go_returns;exact RetQ.mk rfl
 by_cases h4:k=4
 ·subst h4;go_in;go_wp2;go_returns;exact RetQ.mk rfl
 by_cases h5:k=5
 ·subst h5;go_in;go_wp2;go_returns;exact RetQ.mk rfl
 have HM:=qH (show wJ k=0 by unfold wJ;simp [h1,h2,h3,h4,h5]);have g1:(k == 1)=false:=by rw [beq_eq_false_iff_ne];exact h1
 have g2:(k == 2)=false:=by rw [beq_eq_false_iff_ne];exact h2
 have g3:(k == 3)=false:=by rw [beq_eq_false_iff_ne];exact h3
 have g4:(k == 4)=false:=by rw [beq_eq_false_iff_ne];exact h4
 have g5:(k == 5)=false:=by rw [beq_eq_false_iff_ne];exact h5
 clear h1 h2 h3 h4 h5;go_in;go_wp2;go_returns;exact RetQ.mk (vi HM.out.symm)
theorem bR(k:Int)(w:World):Calls prog 268 #[.int .i64 k] w (RetQ (.int .i64 (se k)) w):=by
 by_cases h1:k=1
 ·subst h1;go_in;go_wp2;go_returns;exact RetQ.mk rfl
 by_cases h2:k=2
 ·subst h2;go_in;go_wp2;go_returns;exact RetQ.mk rfl
 by_cases h3:k=3
 ·subst h3;go_in;go_wp2;go_returns;exact RetQ.mk rfl
 by_cases h4:k=4
 ·subst h4;go_in;go_wp2;go_returns;exact RetQ.mk rfl
 by_cases h5:k=5
 ·subst h5;go_in;go_wp2;go_returns;exact RetQ.mk rfl
 have HM:=qH (show se k=(-1) by unfold se wJ;simp [h1,h2,h3,h4,h5]);have g1:(k == 1)=false:=by rw [beq_eq_false_iff_ne];exact h1
 have g2:(k == 2)=false:=by rw [beq_eq_false_iff_ne];exact h2
 have g3:(k == 3)=false:=by rw [beq_eq_false_iff_ne];exact h3
 have g4:(k == 4)=false:=by rw [beq_eq_false_iff_ne];exact h4
 have g5:(k == 5)=false:=by rw [beq_eq_false_iff_ne];exact h5
 clear h1 h2 h3 h4 h5;go_in;go_wp2;go_returns;exact RetQ.mk (vi HM.out.symm)
theorem pz(k a:Int)(w:World):Calls prog 203 #[.agg #[.int .i64 k,.int .i64 a]] w (Ret (.bool (xi k a)) w):=by
 have HP:=lj k a;have HM:=fun w=>jE k w;have hbd:=jF k;have hms:-1<=wJ k/\wJ k<=300:=by omega
 obtain ⟨m,hm⟩:=zN (wJ k);rw [<-hm] at HP HM hms;have HI:=fun w=>xv a (-m) m w;obtain ⟨b,hb⟩:=zN (inB a (-m) m);rw [<-hb] at HP HI;have HPP:=qH HP;have HMM:=qH HM;have HII:=qH HI;have hneg:IntKind.i64.wrap (-m) = -m:=IntWalk.i64_in _ (by omega);clear hm hb HP HM HI hbd;obtain ⟨W,hW⟩:=zN (w.alloc (Obj.cells #[.int .i64 k,.int .i64 a] 126));obtain ⟨g,hg⟩:=zN w.heap.size;have hv:Below w.heap.size w W:=by rw [hW];exact zc (Below.refl _ _) _
 have hB:Blk W g 126 #[.int .i64 k,.int .i64 a]:=by rw [hW,hg];exact Blk.new _ _ _
 have k0:=yc0 hB;have k1:=yc1 hB;have HW:=qH hW;have HG:=qH hg;clear hW hg hB;go_in;go_upto_region 1 with fail;rw [<-HW.out,<-HG.out];clear HW HG;go_wp2_with fail;refine qR (HMM.out _) ?_;by_cases h0:0 < m
 case neg=>
  have g0:decide (0 < m)=false:=decide_eq_false h0;rw [g0] at HPP;clear h0;go_wp2;go_returns;exact Ret.mk (vb (by rw [HPP.out];rfl)) hv
 have g0:decide (0 < m)=true:=decide_eq_true h0;by_cases h1:a=0
 case pos=>
  have hz:(a != 0)=false:=by rw [h1];rfl
  have HZ:=qH (show xi k a=false by rw [HPP.out];simp [h1]);clear h1;go_wp2;go_returns;exact Ret.mk (vb HZ.out.symm) hv
 have hz:(a != 0)=true:=by rw [bne_iff_ne];exact h1
 have HZ:=qH (show xi k a=b by rw [HPP.out,decide_eq_true h1];rw [g0];simp);clear h1;go_wp2_with fail;refine qR (HII.out _) ?_;go_wp2;go_returns;exact Ret.mk (vb HZ.out.symm) hv
theorem ny(k a:Int)(w:World):Calls prog 224 #[.agg #[.int .i64 k,.int .i64 a]] w (Ret (.bool (xi k a)) w):=by
 have HP:=cy k a;have HM:=fun w=>bR k w;have hbd:=jF k;have hms:-1<=se k/\se k<=300:=by unfold se;try (split <;> omega);try omega
 obtain ⟨m,hm⟩:=zN (se k);rw [<-hm] at HP HM hms;have HI:=fun w=>xJ a (-m) m w;obtain ⟨b,hb⟩:=zN (inB a (-m) m);rw [<-hb] at HP HI;have HPP:=qH HP;have HMM:=qH HM;have HII:=qH HI;have hneg:IntKind.i64.wrap (-m) = -m:=IntWalk.i64_in _ (by omega);clear hm hb HP HM HI hbd;obtain ⟨W,hW⟩:=zN (w.alloc (Obj.cells #[.int .i64 k,.int .i64 a] 126));obtain ⟨g,hg⟩:=zN w.heap.size;have hv:Below w.heap.size w W:=by rw [hW];exact zc (Below.refl _ _) _
 have hB:Blk W g 126 #[.int .i64 k,.int .i64 a]:=by rw [hW,hg];exact Blk.new _ _ _
 have k0:=yc0 hB;have k1:=yc1 hB;have HW:=qH hW;have HG:=qH hg;clear hW hg hB;go_in;go_upto_region 1 with fail;rw [<-HW.out,<-HG.out];clear HW HG;go_wp2_with fail;refine qR (HMM.out _) ?_;by_cases h1:a=0
 case pos=>
  have hz:(a != 0)=false:=by rw [h1];rfl
  have HZ:=qH (show xi k a=false by rw [HPP.out];simp [h1]);clear h1;go_wp2;go_returns;exact Ret.mk (vb HZ.out.symm) hv
 have hz:(a != 0)=true:=by rw [bne_iff_ne];exact h1
 have HZ:=qH (show xi k a=b by rw [HPP.out,decide_eq_true h1];simp);clear h1;go_wp2_with fail;refine qR (HII.out _) ?_;go_wp2;go_returns;exact Ret.mk (vb HZ.out.symm) hv
theorem mY(k a:Int)(w:World):Calls prog 205 #[.agg #[.int .i64 k,.int .i64 a]] w (Ret (.bool (!xi k a)) w):=by
 have hB:Blk (w.alloc (Obj.cells #[.int .i64 k,.int .i64 a] 126)) w.heap.size 126 #[Value.int .i64 k,Value.int .i64 a]:=Blk.new _ _ _;have k0:=hB.cell 0;have k1:=hB.cell 1;dsimp at k0 k1;clear hB;go_in;go_wp2_with fail;refine qS (pz k a _) fun W hb=>?_;go_wp2;go_returns;exact Ret.mk rfl (za (zc (Below.refl _ _) _) hb)
theorem dj(k a:Int)(g:Nat)(w:World)(hB:Blk w g 126 #[.int .i64 k,.int .i64 a]) :
 Calls prog 259 #[.slice (some ⟨g,0,none⟩) 1 1,.func (.func 205) #[] #[]] w (Ret (.int .i64 (if xi k a=true then -1 else 0)) w):=by
 have HB:=qH hB;have HC:=fun w=>mY k a w;obtain ⟨b,hb⟩:=zN (xi k a);rw [<-hb] at HC |-;have HCC:=qH HC;clear hb HC hB;obtain ⟨r,hr⟩:=zN (if b=true then (-1:Int) else 0);rw [<-hr];have HR:=qH hr;clear hr;go_in;go_wp2_with fail
 go_loopw [8] (fun i wr=>∃ j:Nat,j<=1/\i=.int .i64 j/\Hid (j=1->b=true)/\Below w.heap.size w wr) (fun i _=>1 - (intOf i).toNat)
 case atStart=>exact ⟨0,by omega,rfl,qH (by omega),Below.refl _ _⟩
 case round=>
  obtain ⟨j,hj,rfl,HJ,hv⟩:=hrel;by_cases h0:j=0
  · subst h0;have HBB:=HB.out.below hv;have k0:=yc0 HBB;have k1:=yc1 HBB;go_wp2_with fail;refine qS (HCC.out _) fun W hb=>?_;cases b
    ·go_wp2;go_returns;exact Ret.mk (vi (by rw [HR.out];rfl)) (za hv hb)
    ·go_wp2_with fail;exact ⟨⟨1,by omega,by go_num,qH (by simp),za hv hb⟩,by simp [intOf]⟩
  · obtain rfl:j=1:=by omega
    obtain rfl:=HJ.out rfl;go_wp2;go_returns;exact Ret.mk (vi (by rw [HR.out];rfl)) hv
theorem nK(k a:Int)(g:Nat)(w:World)(hB:Blk w g 126 #[.int .i64 k,.int .i64 a]) :
 Calls prog 135 #[.slice (some ⟨g,0,none⟩) 1 1] w (Ret (.bool (xi k a)) w):=by
 have HI:=qH (fun w h=>dj k a g w h);have HB:=qH hB;have HCF:Hid (∀ w,Blk w g 126 #[.int .i64 k,.int .i64 a]->Calls prog 204 #[.slice (some ⟨g,0,none⟩) 1 1,.func (.func 205) #[] #[]] w (Ret (.bool (!xi k a)) w)):=qH (by
  intro w h;go_in;go_wp2_with fail;refine qS (HI.out _ h) fun W hb=>?_;cases hc:xi k a
  ·go_wp2;go_returns;exact Ret.mk (vb (by simp [hc])) hb
  ·go_wp2;go_returns;exact Ret.mk (vb (by simp [hc])) hb)
 go_in;go_wp2_with fail;refine qS (HCF.out _ HB.out) fun W hb=>?_;go_wp2;go_returns;exact Ret.mk (vb (by simp)) hb
theorem za9(k a:Int)(g:Nat)(w:World)(hB:Blk w g 126 #[.int .i64 k,.int .i64 a]) :
 Calls prog 226 #[.slice (some ⟨g,0,none⟩) 1 1] w (Ret (.bool (xi k a)) w):=by
 have HB:=qH hB;have HC:=fun w=>ny k a w;obtain ⟨b,hb⟩:=zN (xi k a);rw [<-hb] at HC |-;have HCC:=qH HC;clear hb HC hB;go_in;go_wp2_with fail
 go_loopw [3] (fun i wr=>∃ j:Nat,j<=1/\i=.int .i64 j/\Hid (j=1->b=true)/\Below w.heap.size w wr) (fun i _=>1 - (intOf i).toNat)
 case atStart=>exact ⟨0,by omega,rfl,qH (by omega),Below.refl _ _⟩
 case round=>
  obtain ⟨j,hj,rfl,HJ,hv⟩:=hrel;by_cases h0:j=0
  · subst h0;have HBB:=HB.out.below hv;have k0:=yc0 HBB;have k1:=yc1 HBB;go_wp2_with fail;refine qS (HCC.out _) fun W hb=>?_;cases b
    ·go_wp2;go_returns;exact Ret.mk rfl (za hv hb)
    ·go_wp2_with fail;exact ⟨⟨1,by omega,by go_num,qH (by simp),za hv hb⟩,by simp [intOf]⟩
  · obtain rfl:j=1:=by omega
    obtain rfl:=HJ.out rfl;go_wp2;go_returns;exact Ret.mk rfl hv
end Go.Proofs.YtpiehlfffjhoaaaGreatDoor
