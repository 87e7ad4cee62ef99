/- Lemmas for the law on the console: the parts CnA,CnH,CnB. -/
import Derived.Test.YtpiehlfffjhoaaaGreatDoorQ1
import Derived.Test.YtpiehlfffjhoaaaGreatDoorQ0
import Derived.Test.YtpiehlfffjhoaaaGreatDoorQ12
import Derived.Test.YtpiehlfffjhoaaaGreatDoorQ9
import Derived.Test.YtpiehlfffjhoaaaGreatDoorQ3
import Derived.Test.YtpiehlfffjhoaaaGreatDoorQ2
import Derived.Laws.Rows
import Derived.Laws.Tables
import Derived.BigRegion
import Derived.Deep.CutBlock
import Derived.Test.YtpiehlfffjhoaaaGreatDoorQ13
namespace Go.Proofs.YtpiehlfffjhoaaaGreatDoor
open Go.RowKit
set_option maxRecDepth 100000
set_option maxHeartbeats 4000000
theorem lw (sep:ByteArray) (h1:1≤sep.size) (sv:Nat):∀ (k:Nat) (s:ByteArray),Lib.countB s sep≤k→Lib.splitB sep sv k s=Lib.splitB sep sv (Lib.countB s sep) s
 | 0,s,h=>by rw [Nat.le_zero.1 h]
 | k + 1,s,h=>by
   rcases Lib.indexB_cases s sep with hix | ⟨i,hix,_⟩
   · rw [Lib.splitB_miss _ _ _ _ hix,Lib.splitB_miss _ _ _ _ hix]
   · have hc:=Lib.countB_hit s sep i h1 hix;obtain ⟨m,hm⟩:∃ m,Lib.countB s sep=m + 1:=⟨Lib.countB s sep - 1,by omega⟩
     rw [hm,Lib.splitB_hit _ _ _ _ i hix,Lib.splitB_hit _ _ _ _ i hix,lw sep h1 sv k _ (by omega)];rw [show Lib.countB (s.extract (i + sep.size) s.size) sep=m by omega]
theorem nU (sep:ByteArray) (h1:1≤sep.size) (sv:Nat):∀ (k:Nat) (s:ByteArray),k≤Lib.countB s sep→(Lib.splitB sep sv k s).length=k + 1
 | 0,_,_=>rfl
 | k + 1,s,h=>by
   rcases Lib.indexB_cases s sep with hix | ⟨i,hix,_⟩
   · rw [Lib.countB_miss s sep hix] at h;omega
   · have hc:=Lib.countB_hit s sep i h1 hix;rw [Lib.splitB_hit _ _ _ _ i hix,List.length_cons,nU sep h1 sv k _ (by omega)]
def sw (s:ByteArray):List ByteArray:=Lib.splitB ⟨#[47]⟩ 0 (min 5 (s.size + 1) - 1) s
theorem cA (s:ByteArray):((sw s).length=4 ↔ (zi 47 s).length=4)∧((zi 47 s).length=4→sw s=zi 47 s)∧(sw s).length≤5:=by
 have hl:=oX 47 s;have hle:=Lib.countB_le (⟨#[47]⟩:ByteArray) (Nat.le_refl 1) s.size s (Nat.le_refl _);have key:Lib.countB s ⟨#[47]⟩≤min 5 (s.size + 1) - 1→sw s=zi 47 s:=fun h=>by
  unfold sw;rw [lw (⟨#[47]⟩:ByteArray) (Nat.le_refl 1) 0 _ s h,lv]
 by_cases h:Lib.countB s ⟨#[47]⟩≤min 5 (s.size + 1) - 1
 · rw [key h];exact ⟨Iff.rfl,fun _=>rfl,by rw [hl];omega⟩
 · have h2:(sw s).length=min 5 (s.size + 1) - 1 + 1:=nU (⟨#[47]⟩:ByteArray) (Nat.le_refl 1) 0 _ s (by omega);rw [h2,hl];exact ⟨by omega,by omega,by omega⟩
theorem eK (s:ByteArray) (hs:s.size≤4000000000) (w:World) (hT:Tabs w):Calls Tryz.prog 193 #[.string s,.string ⟨#[47]⟩,.int .i64 5] w fun e w'=>∃ c:Nat,e=.returned (.slice (some ⟨w.heap.size,0,none⟩) (sw s).length c)∧Below w.heap.size w w'∧((sw s).length=4→Arr w' (some ⟨w.heap.size,0,none⟩) ((sw s).map Value.string)):=by
 obtain ⟨m,hm⟩:=hT.len;have h:=Tryz.strings_SplitN s ⟨#[47]⟩ 5 m w (by omega) hm (Nat.le_refl 1) (by omega) (by omega);refine h.mono ?_;rintro e w' ⟨rfl,rfl⟩;refine ⟨_,rfl,zc (Below.refl _ _) _,fun _=>?_⟩;intro _;refine ⟨_,rfl,by simp,fun j u hu=>?_⟩;have hadd:(⟨w.heap.size,0,none⟩:Addr).add j=⟨w.heap.size,j,none⟩:=by unfold Addr.add;split <;> simp_all
 rw [hadd,(Blk.new w 9 _).cell j];change (List.map Value.string (sw s) ++ List.replicate _ (Value.string ByteArray.empty)).toArray[j]?=some u;have h2:=(List.getElem?_eq_some_iff.1 hu).1;have h3:(List.map Value.string (sw s) ++ List.replicate (min 5 (s.size + 1) - (Lib.splitB ⟨#[47]⟩ 0 (min 5 (s.size + 1) - 1) s).length) (Value.string ByteArray.empty))[j]?=some u:=by rw [List.getElem?_append_left h2];exact hu
 simpa using h3
def pV (L:List ByteArray):List Int:=L.map zq
def ui (L:List ByteArray):Bool:=L.all okB
def zaD (s:ByteArray) (w:World) (e:Ending) (w':World):Prop:=∃ (A:Option Addr) (m c:Nat) (ok:Bool),e=.returned (.tuple #[.slice A m c,.bool ok])∧ok=(decide ((zi 47 s).length=4) && ui (zi 47 s))∧(ok=true→m=4∧Arr w' A (zd zp (pV (zi 47 s))))∧Below w.heap.size w w'
theorem qp:(Tryz.prog.info? 2).map (fun i=>(i.zero,i.size,i.bytes))=some (some (.int .i64 0),1,8):=by kernel_rfl
theorem jW {L:List ByteArray} {j:Nat} {y:ByteArray} (h:L[j]?=some y) (hn:okB y=false):ui L=false:=by
 unfold ui;rw [List.all_eq_false];exact ⟨y,List.mem_of_getElem? h,by simp [hn]⟩
theorem mC {L:List ByteArray} {j:Nat} {y:ByteArray} (h:L[j]?=some y) (ht:ui (L.take j)=true) (hy:okB y=true):ui (L.take (j + 1))=true:=by
 unfold ui at *;rw [yD h,List.all_append,ht];simp [hy]
theorem nI {L:List ByteArray} {j:Nat} {y:ByteArray} (h:L[j]?=some y):zd zp (pV (L.take (j + 1)))=zd zp (pV (L.take j)) ++ #[Value.int .i64 (zq y)].toList:=by
 unfold pV;rw [yD h];simp [zd,zp]
theorem lI (s:ByteArray) (hs:s.size≤4194304) (w:World) (hT:Tabs w):Calls Tryz.prog 126 #[.string s,.string ⟨#[47]⟩,.int .i64 4] w (zaD s w):=by
 obtain ⟨i0,hi0,hz0,hz1,hz2⟩:=info_parts (P:=Tryz.prog) (e:=2) (z:=.int .i64 0) (size:=1) (bytes:=8) qp;have HT:=qH hT;have hp:=cA s;have HSP:=qH (eK s (by omega) w hT);clear hT;have hyz:Hid (∀ y ∈ zi 47 s,y.size≤s.size):=qH (fun y hy=>wj (c:=47) hy);obtain ⟨P5,hP5⟩:=zN (sw s);obtain ⟨L,hL⟩:=zN (zi 47 s);unfold zaD;rw [←hP5,←hL] at hp;rw [←hP5] at HSP;rw [←hL] at hyz ⊢;clear hP5 hL;obtain ⟨h4,h5,h6⟩:=hp;have H4:=qH h4;have H5:=qH h5;clear h4 h5;obtain ⟨m,hm⟩:=zN P5.length;rw [←hm] at H4 HSP h6;clear hm;go_enter Tryz.func126,Tryz.ntmps126;go_wp2_with fail;refine HSP.out.mono ?_;rintro e W1 ⟨c,rfl,hv,hA⟩;have HA:=qH hA;obtain ⟨g,hg⟩:=zN w.heap.size;rw [←hg] at HA ⊢;clear hA hg;by_cases hm4:m=4
 case neg=>
  have hne:((m:Int) != 4)=true:=by rw [bne_iff_ne];omega
  have hf:=qH (show (decide (L.length=4) && ui L)=false by rw [decide_eq_false (fun h=>hm4 (H4.out.2 h))];rfl);go_wp2_with fail;go_returns;exact ⟨_,_,_,false,rfl,hf.out.symm,(fun h=>Bool.noConfusion h),hv⟩
 subst hm4;have hL4:=H4.out.1 rfl;have HL4:=qH hL4;have HAL:Hid (Arr W1 (some ⟨g,0,none⟩) (zd zn L)):=qH (by
  have h:=HA.out rfl;rw [H5.out hL4] at h;rw [yH];exact h)
 clear HA H5 H4 hL4;have hO0:=zG W1 W1.heap.size 2 1 (Nat.le_refl _);go_wp2_with fail;have hv1:=zc (Below.refl W1.heap.size W1) (.cells #[] 2)
 go_loopw [9,26] (fun v i wr=>∃ (j:Nat) (A':Option Addr) (c':Nat),i=.int .i64 j∧v=.slice A' j c'∧j≤4∧Hid (ui (L.take j)=true)∧Hid (wr.ownsRow W1.heap.size 2 1 (.slice A' j c') j (zd zp (pV (L.take j))))∧Below W1.heap.size W1 wr) (fun _ i _=>4 - (intOf i).toNat)
 case atStart=>exact ⟨0,_,_,rfl,rfl,by omega,qH rfl,qH hO0,hv1⟩
 case round=>
  clear hO0 hv1;obtain ⟨j,A',c',rfl,rfl,hj,HB,HO,hb⟩:=hrel;have hi0':(0:Int)≤(j:Int):=by omega
  by_cases hlt:j < 4
  · have hi1:(j:Int) < 4:=by omega
    obtain ⟨y,hy⟩:=zx (xs:=L) (k:=j) (by rw [HL4.out];exact hlt);obtain ⟨bd,hbd,hbb,d0⟩:=zj (HAL.out.below hb) hy;injection hbd with hbd;subst hbd;rw [Addr.add_lit,Nat.zero_add] at d0;have hys:=hyz.out y (List.mem_of_getElem? hy);have HY:=qH hy;have HRD:=fun w h=>xO y (by omega) w h;change ∀ w,Tabs w→Calls Tryz.prog 33 #[.string y] w (RetT #[.int .i64 (zq y),.bool (okB y)] w) at HRD;obtain ⟨q,hq⟩:=zN (zq y);rw [←hq] at HRD;have HQ:=qH hq;have HZ:=qH HRD;clear hy hq HRD;go_wp2_with fail;refine qS (HZ.out _ (HT.out.below (za hv hb))) fun W2 hb2=>?_;replace HO:=qH (ze HO.out hb2);replace hb:=za hb hb2;clear hb2 HZ d0;cases ho:okB y
    case false=>
     have hf:=qH (show (decide (L.length=4) && ui L)=false by rw [jW HY.out ho,Bool.and_false]);clear ho;go_wp2_with fail;go_returns;exact ⟨_,_,_,false,rfl,hf.out.symm,(fun h=>Bool.noConfusion h),za hv hb⟩
    have HB2:=qH (mC HY.out HB.out ho);clear ho;go_wp2_with (at_builtin;refine xp W2 #[.int .i64 q] rfl _ _ 58 2 rfl i0 _ 1 8 Tryz.underlying58 hi0 hz0 hz1 hz2 rfl (by omega) W1.heap.size (.slice A' j c') j _ rfl rfl HO.out rfl (by simp [Value.oneCell']) (by unfold maxLen;omega) (by omega) hb.size ?_;intro A2 c2 w2 hown2 hg3)
    have hr:=zl HO.out;exact ⟨⟨j + 1,A2,c2,by go_num,rfl,by omega,HB2,qH (by rw [nI HY.out,←HQ.out];exact hown2),zh hb hg3 hr⟩,by simp [intOf];omega⟩
  · obtain rfl:j=4:=by omega
    have htk:L.take 4=L:=List.take_of_length_le (by rw [HL4.out];exact Nat.le_refl _);rw [htk] at HB HO;have hf:=qH (show (decide (L.length=4) && ui L)=true by rw [HL4.out,HB.out];rfl);go_wp2_with fail;go_returns;exact ⟨_,_,_,true,rfl,hf.out.symm,fun _=>⟨rfl,Arr.own HO.out⟩,za hv hb⟩
theorem zP {w:World} {g:Nat} {cs:Array Value} {a:Addr} {v:Value} (h:w.cell? a=some v) (hne:a.block≠g):(World.setRow w.drew g cs).cell? a=some v:=by
 rw [cell_setRow_other _ _ _ _ hne];exact h
def zFo:Foot:=⟨0,0,0,0⟩
def tP (o:Option Foot):Array Value:=#[.agg #[.int .i64 (o.getD zFo).length,.int .i64 (o.getD zFo).b,.int .i64 (o.getD zFo).i,.int .i64 (o.getD zFo).h],.bool o.isSome]
theorem au (A:Option Addr) (a b c d:Int) (k:Nat) (w:World) (hA:Arr w A (zd zp [a,b,c,d])):Calls Tryz.prog 26 #[.slice A 4 k] w (Ret (.agg #[.int .i64 a,.int .i64 b,.int .i64 c,.int .i64 d]) w):=by
 obtain ⟨W,hW⟩:=zN (w.alloc (Obj.cells cG 27));obtain ⟨g,hg⟩:=zN w.heap.size;have hv:Below w.heap.size w W:=by rw [hW];exact zc (Below.refl _ _) _
 have HB:Hid (Blk W g 27 cG):=qH (by rw [hW,hg];exact Blk.new _ _ _);have hgw:w.heap.size≤g:=by omega
 have HW:=qH hW;have HG:=qH hg;have hA1:=hA.below hv;obtain ⟨ad,rfl,hab,_⟩:=yn hA (k:=0) (x:=a) rfl;obtain ⟨_,e0,_,c0⟩:=yn hA1 (k:=0) (x:=a) rfl;obtain ⟨_,e1,_,c1⟩:=yn hA1 (k:=1) (x:=b) rfl;obtain ⟨_,e2,_,c2⟩:=yn hA1 (k:=2) (x:=c) rfl;obtain ⟨_,e3,_,c3⟩:=yn hA1 (k:=3) (x:=d) rfl;injection e0 with e0;injection e1 with e1;injection e2 with e2;injection e3 with e3;subst e0 e1 e2 e3;replace c0:W.cell? ad=some (.int .i64 a):=c0;replace c1:W.cell? ⟨ad.block,ad.off + 1,none⟩=some (.int .i64 b):=c1;replace c2:W.cell? ⟨ad.block,ad.off + 2,none⟩=some (.int .i64 c):=c2;replace c3:W.cell? ⟨ad.block,ad.off + 3,none⟩=some (.int .i64 d):=c3;have hne:ad.block≠g:=by omega
 have HBD:=qH (HB.out.below (Below.refl W.heap.size W).drew);clear hA hA1 hW hg hab;go_enter Tryz.func26,Tryz.ntmps26;go_upto_region 1 with fail;rw [←HW.out,←HG.out];clear HW HG;refine zH (fun w'=>World.cell? w' ad=some (.int .i64 a)∧World.cell? w' ⟨ad.block,ad.off + 1,none⟩=some (.int .i64 b)∧World.cell? w' ⟨ad.block,ad.off + 2,none⟩=some (.int .i64 c)∧World.cell? w' ⟨ad.block,ad.off + 3,none⟩=some (.int .i64 d)) ?_ (fun hHeld=>?_)
 · exact ⟨c0,c1,c2,c3⟩
 refine zU 0 3 ?_;refine zU 1 4 ?_;refine zT 2 5 rfl (fun w hSw=>by
  obtain ⟨x0,x1,x2,x3⟩:=hSw;go_simp;try with_reducible rfl) ?_
 refine zU 3 6 ?_;refine zU 4 7 ?_;refine zT 5 8 rfl (fun w hSw=>by
  obtain ⟨x0,x1,x2,x3⟩:=hSw;go_simp;try with_reducible rfl) ?_
 refine zU 6 9 ?_;refine zU 7 10 ?_;refine zT 8 11 rfl (fun w hSw=>by
  obtain ⟨x0,x1,x2,x3⟩:=hSw;go_simp;try with_reducible rfl) ?_
 refine zU 9 12 ?_;refine zU 10 13 ?_;refine zT 11 14 rfl (fun w hSw=>by
  obtain ⟨x0,x1,x2,x3⟩:=hSw;go_simp;try with_reducible rfl) ?_
 refine zU 12 15 ?_;refine zR 13 none rfl (fun K hK=>?_)
 skip
 go_split_ands;refine wp_store_row 27 _ _ rfl g #[.int .i64 a,.int .i64 b,.int .i64 c,.int .i64 d] rfl rfl 27 cG HBD.out (by kernel_rfl) rfl (by simp [Value.oneCell']) ?_;refine hK.out _ _ ?_ (fun hHeld=>?_)
 · (try dsimp only);go_split_ands;exact ⟨zP c0 hne,zP c1 hne,zP c2 hne,zP c3 hne⟩
 clear hK K;try simp only [Act.put]
 refine zD ?_;clear hHeld;go_wp2_with fail;try simp only [Exit.inBlock,Exit.then]
 refine bodyPost_ret (results_cell_row (P:=Tryz.prog) rfl _ _ g 27 #[Value.int .i64 a,Value.int .i64 b,Value.int .i64 c,Value.int .i64 d] (0,0) _ rfl ?_ Tryz.underlying27 rfl (by kernel_rfl)) rfl ?_
 · exact setRow_heap _ _ _ _ _ _ HBD.out
 · exact Ret.mk rfl (zF hv.drew hgw _)
theorem zbf (A:Option Addr) (a b c d:Int) (k:Nat) (w:World) (hA:Arr w A (zd zp [a,b,c,d])):Calls Tryz.prog 235 #[.slice A 4 k] w (Ret (.agg #[.int .i64 a,.int .i64 b,.int .i64 c,.int .i64 d]) w):=by
 obtain ⟨W,hW⟩:=zN (w.alloc (Obj.cells cG 27));obtain ⟨g,hg⟩:=zN w.heap.size;have hv:Below w.heap.size w W:=by rw [hW];exact zc (Below.refl _ _) _
 have HB:Hid (Blk W g 27 cG):=qH (by rw [hW,hg];exact Blk.new _ _ _);have hgw:w.heap.size≤g:=by omega
 have HW:=qH hW;have HG:=qH hg;have hA1:=hA.below hv;obtain ⟨ad,rfl,hab,_⟩:=yn hA (k:=0) (x:=a) rfl;obtain ⟨_,e0,_,c0⟩:=yn hA1 (k:=0) (x:=a) rfl;obtain ⟨_,e1,_,c1⟩:=yn hA1 (k:=1) (x:=b) rfl;obtain ⟨_,e2,_,c2⟩:=yn hA1 (k:=2) (x:=c) rfl;obtain ⟨_,e3,_,c3⟩:=yn hA1 (k:=3) (x:=d) rfl;injection e0 with e0;injection e1 with e1;injection e2 with e2;injection e3 with e3;subst e0 e1 e2 e3;replace c0:W.cell? ad=some (.int .i64 a):=c0;replace c1:W.cell? ⟨ad.block,ad.off + 1,none⟩=some (.int .i64 b):=c1;replace c2:W.cell? ⟨ad.block,ad.off + 2,none⟩=some (.int .i64 c):=c2;replace c3:W.cell? ⟨ad.block,ad.off + 3,none⟩=some (.int .i64 d):=c3;have hne:ad.block≠g:=by omega
 have HBD:=qH (HB.out.below (Below.refl W.heap.size W).drew);clear hA hA1 hW hg hab;go_enter Tryz.func235,Tryz.ntmps235;go_upto_region 1 with fail;rw [←HW.out,←HG.out];clear HW HG;refine zH (fun w'=>World.cell? w' ad=some (.int .i64 a)∧World.cell? w' ⟨ad.block,ad.off + 1,none⟩=some (.int .i64 b)∧World.cell? w' ⟨ad.block,ad.off + 2,none⟩=some (.int .i64 c)∧World.cell? w' ⟨ad.block,ad.off + 3,none⟩=some (.int .i64 d)) ?_ (fun hHeld=>?_)
 · exact ⟨c0,c1,c2,c3⟩
 refine zU 0 3 ?_;refine zU 1 4 ?_;refine zT 2 5 rfl (fun w hSw=>by
  obtain ⟨x0,x1,x2,x3⟩:=hSw;go_simp;try with_reducible rfl) ?_
 refine zU 3 6 ?_;refine zU 4 7 ?_;refine zT 5 8 rfl (fun w hSw=>by
  obtain ⟨x0,x1,x2,x3⟩:=hSw;go_simp;try with_reducible rfl) ?_
 refine zU 6 9 ?_;refine zU 7 10 ?_;refine zT 8 11 rfl (fun w hSw=>by
  obtain ⟨x0,x1,x2,x3⟩:=hSw;go_simp;try with_reducible rfl) ?_
 refine zU 9 12 ?_;refine zU 10 13 ?_;refine zT 11 14 rfl (fun w hSw=>by
  obtain ⟨x0,x1,x2,x3⟩:=hSw;go_simp;try with_reducible rfl) ?_
 refine zU 12 15 ?_;refine zR 13 none rfl (fun K hK=>?_)
 skip
 go_split_ands;refine wp_store_row 27 _ _ rfl g #[.int .i64 a,.int .i64 b,.int .i64 c,.int .i64 d] rfl rfl 27 cG HBD.out (by kernel_rfl) rfl (by simp [Value.oneCell']) ?_;refine hK.out _ _ ?_ (fun hHeld=>?_)
 · (try dsimp only);go_split_ands;exact ⟨zP c0 hne,zP c1 hne,zP c2 hne,zP c3 hne⟩
 clear hK K;try simp only [Act.put]
 refine zD ?_;clear hHeld;go_wp2_with fail;try simp only [Exit.inBlock,Exit.then]
 refine bodyPost_ret (results_cell_row (P:=Tryz.prog) rfl _ _ g 27 #[Value.int .i64 a,Value.int .i64 b,Value.int .i64 c,Value.int .i64 d] (0,0) _ rfl ?_ Tryz.underlying27 rfl (by kernel_rfl)) rfl ?_
 · exact setRow_heap _ _ _ _ _ _ HBD.out
 · exact Ret.mk rfl (zF hv.drew hgw _)
def tN (k:Int):Int:=if 0 < wF k then wF k else -1
theorem kS (k:Int):0≤wF k∧wF k≤300:=by
 unfold wF
 repeat' split
 all_goals omega
theorem mF (k a:Int):xg k a=(decide (0 < wF k) && (decide (a≠0) && inB a (-wF k) (wF k))):=rfl
theorem eT (k a:Int):xg k a=(decide (a≠0) && inB a (-tN k) (tN k)):=by
 rw [mF];unfold tN;by_cases h:0 < wF k
 · rw [decide_eq_true h,if_pos h,Bool.true_and]
 · rw [decide_eq_false h,if_neg h,Bool.false_and];symm;rw [Bool.and_eq_false_iff];right;rw [dE];omega
theorem kR (k:Int) (w:World):Calls Tryz.prog 258 #[.int .i64 k] w (RetQ (.int .i64 (wF k)) w):=by
 by_cases h1:k=1
 · subst h1;go_enter Tryz.func258,Tryz.ntmps258;go_wp2_with fail;go_returns;exact RetQ.mk rfl
 by_cases h2:k=2
 · subst h2;go_enter Tryz.func258,Tryz.ntmps258;go_wp2_with fail;go_returns;exact RetQ.mk rfl
 by_cases h3:k=3
 · subst h3;go_enter Tryz.func258,Tryz.ntmps258;go_wp2_with fail;go_returns;exact RetQ.mk rfl
 by_cases h4:k=4
 · subst h4;go_enter Tryz.func258,Tryz.ntmps258;go_wp2_with fail;go_returns;exact RetQ.mk rfl
 by_cases h5:k=5
 · subst h5;go_enter Tryz.func258,Tryz.ntmps258;go_wp2_with fail;go_returns;exact RetQ.mk rfl
 have HM:=qH (show wF k=0 by unfold wF;simp [h1,h2,h3,h4,h5]);have g1:(k == 1)=false:=by rw [beq_eq_false_iff_ne];exact h1
 have g2:(k == 2)=false:=by rw [beq_eq_false_iff_ne];exact h2
 have g3:(k == 3)=false:=by rw [beq_eq_false_iff_ne];exact h3
 have g4:(k == 4)=false:=by rw [beq_eq_false_iff_ne];exact h4
 have g5:(k == 5)=false:=by rw [beq_eq_false_iff_ne];exact h5
 clear h1 h2 h3 h4 h5;go_enter Tryz.func258,Tryz.ntmps258;go_wp2_with fail;go_returns;exact RetQ.mk (vi HM.out.symm)
theorem dY (k:Int) (w:World):Calls Tryz.prog 268 #[.int .i64 k] w (RetQ (.int .i64 (tN k)) w):=by
 by_cases h1:k=1
 · subst h1;go_enter Tryz.func268,Tryz.ntmps268;go_wp2_with fail;go_returns;exact RetQ.mk rfl
 by_cases h2:k=2
 · subst h2;go_enter Tryz.func268,Tryz.ntmps268;go_wp2_with fail;go_returns;exact RetQ.mk rfl
 by_cases h3:k=3
 · subst h3;go_enter Tryz.func268,Tryz.ntmps268;go_wp2_with fail;go_returns;exact RetQ.mk rfl
 by_cases h4:k=4
 · subst h4;go_enter Tryz.func268,Tryz.ntmps268;go_wp2_with fail;go_returns;exact RetQ.mk rfl
 by_cases h5:k=5
 · subst h5;go_enter Tryz.func268,Tryz.ntmps268;go_wp2_with fail;go_returns;exact RetQ.mk rfl
 have HM:=qH (show tN k=(-1) by unfold tN wF;simp [h1,h2,h3,h4,h5]);have g1:(k == 1)=false:=by rw [beq_eq_false_iff_ne];exact h1
 have g2:(k == 2)=false:=by rw [beq_eq_false_iff_ne];exact h2
 have g3:(k == 3)=false:=by rw [beq_eq_false_iff_ne];exact h3
 have g4:(k == 4)=false:=by rw [beq_eq_false_iff_ne];exact h4
 have g5:(k == 5)=false:=by rw [beq_eq_false_iff_ne];exact h5
 clear h1 h2 h3 h4 h5;go_enter Tryz.func268,Tryz.ntmps268;go_wp2_with fail;go_returns;exact RetQ.mk (vi HM.out.symm)
theorem qV (k a:Int) (w:World):Calls Tryz.prog 203 #[.agg #[.int .i64 k,.int .i64 a]] w (Ret (.bool (xg k a)) w):=by
 have HP:=mF k a;have HM:=fun w=>kR k w;have hbd:=kS k;have hms:-1≤wF k∧wF k≤300:=by omega
 obtain ⟨m,hm⟩:=zN (wF k);rw [←hm] at HP HM hms;have HI:=fun w=>xu a (-m) m w;obtain ⟨b,hb⟩:=zN (inB a (-m) m);rw [←hb] at HP HI;have HPP:=qH HP;have HMM:=qH HM;have HII:=qH HI;have hneg:IntKind.i64.wrap (-m) = -m:=IntWalk.i64_in _ (by omega);clear hm hb HP HM HI hbd;obtain ⟨W,hW⟩:=zN (w.alloc (Obj.cells #[.int .i64 k,.int .i64 a] 126));obtain ⟨g,hg⟩:=zN w.heap.size;have hv:Below w.heap.size w W:=by rw [hW];exact zc (Below.refl _ _) _
 have hB:Blk W g 126 #[.int .i64 k,.int .i64 a]:=by rw [hW,hg];exact Blk.new _ _ _
 have k0:W.cell? ⟨g,0,none⟩=some (.int .i64 k):=hB.cell 0;have k1:W.cell? ⟨g,1,none⟩=some (.int .i64 a):=hB.cell 1;have HW:=qH hW;have HG:=qH hg;clear hW hg hB;go_enter Tryz.func203,Tryz.ntmps203;go_upto_region 1 with fail;rw [←HW.out,←HG.out];clear HW HG;go_wp2_with fail;refine qR (HMM.out _) ?_;by_cases h0:0 < m
 case neg=>
  have g0:decide (0 < m)=false:=decide_eq_false h0;rw [g0] at HPP;clear h0;go_wp2_with fail;go_returns;exact Ret.mk (vb (by rw [HPP.out];rfl)) hv
 have g0:decide (0 < m)=true:=decide_eq_true h0;by_cases h1:a=0
 case pos=>
  have hz:(a != 0)=false:=by rw [h1];rfl
  have HZ:=qH (show xg k a=false by rw [HPP.out];simp [h1]);clear h1;go_wp2_with fail;go_returns;exact Ret.mk (vb HZ.out.symm) hv
 have hz:(a != 0)=true:=by rw [bne_iff_ne];exact h1
 have HZ:=qH (show xg k a=b by rw [HPP.out,decide_eq_true h1];rw [g0];simp);clear h1;go_wp2_with fail;refine qR (HII.out _) ?_;go_wp2_with fail;go_returns;exact Ret.mk (vb HZ.out.symm) hv
theorem oQ (k a:Int) (w:World):Calls Tryz.prog 224 #[.agg #[.int .i64 k,.int .i64 a]] w (Ret (.bool (xg k a)) w):=by
 have HP:=eT k a;have HM:=fun w=>dY k w;have hbd:=kS k;have hms:-1≤tN k∧tN k≤300:=by unfold tN;try (split <;> omega);try omega
 obtain ⟨m,hm⟩:=zN (tN k);rw [←hm] at HP HM hms;have HI:=fun w=>xJ a (-m) m w;obtain ⟨b,hb⟩:=zN (inB a (-m) m);rw [←hb] at HP HI;have HPP:=qH HP;have HMM:=qH HM;have HII:=qH HI;have hneg:IntKind.i64.wrap (-m) = -m:=IntWalk.i64_in _ (by omega);clear hm hb HP HM HI hbd;obtain ⟨W,hW⟩:=zN (w.alloc (Obj.cells #[.int .i64 k,.int .i64 a] 126));obtain ⟨g,hg⟩:=zN w.heap.size;have hv:Below w.heap.size w W:=by rw [hW];exact zc (Below.refl _ _) _
 have hB:Blk W g 126 #[.int .i64 k,.int .i64 a]:=by rw [hW,hg];exact Blk.new _ _ _
 have k0:W.cell? ⟨g,0,none⟩=some (.int .i64 k):=hB.cell 0;have k1:W.cell? ⟨g,1,none⟩=some (.int .i64 a):=hB.cell 1;have HW:=qH hW;have HG:=qH hg;clear hW hg hB;go_enter Tryz.func224,Tryz.ntmps224;go_upto_region 1 with fail;rw [←HW.out,←HG.out];clear HW HG;go_wp2_with fail;refine qR (HMM.out _) ?_;by_cases h1:a=0
 case pos=>
  have hz:(a != 0)=false:=by rw [h1];rfl
  have HZ:=qH (show xg k a=false by rw [HPP.out];simp [h1]);clear h1;go_wp2_with fail;go_returns;exact Ret.mk (vb HZ.out.symm) hv
 have hz:(a != 0)=true:=by rw [bne_iff_ne];exact h1
 have HZ:=qH (show xg k a=b by rw [HPP.out,decide_eq_true h1];simp);clear h1;go_wp2_with fail;refine qR (HII.out _) ?_;go_wp2_with fail;go_returns;exact Ret.mk (vb HZ.out.symm) hv
theorem mB (k a:Int) (w:World):Calls Tryz.prog 205 #[.agg #[.int .i64 k,.int .i64 a]] w (Ret (.bool (!xg k a)) w):=by
 have hB:Blk (w.alloc (Obj.cells #[.int .i64 k,.int .i64 a] 126)) w.heap.size 126 #[Value.int .i64 k,Value.int .i64 a]:=Blk.new _ _ _;have k0:=hB.cell 0;have k1:=hB.cell 1;dsimp at k0 k1;clear hB;go_enter Tryz.func205,Tryz.ntmps205;go_wp2_with fail;refine qS (qV k a _) fun W hb=>?_;go_wp2_with fail;go_returns;exact Ret.mk rfl (za (zc (Below.refl _ _) _) hb)
theorem fN (k a:Int) (g:Nat) (w:World) (hB:Blk w g 126 #[.int .i64 k,.int .i64 a]) :
 Calls Tryz.prog 259 #[.slice (some ⟨g,0,none⟩) 1 1,.func (.func 205) #[] #[]] w (Ret (.int .i64 (if xg k a=true then -1 else 0)) w):=by
 have HB:=qH hB;have HC:=fun w=>mB k a w;obtain ⟨b,hb⟩:=zN (xg k a);rw [←hb] at HC ⊢;have HCC:=qH HC;clear hb HC hB;obtain ⟨r,hr⟩:=zN (if b=true then (-1:Int) else 0);rw [←hr];have HR:=qH hr;clear hr;go_enter Tryz.func259,Tryz.ntmps259;go_wp2_with fail
 go_loopw [8] (fun i wr=>∃ j:Nat,j≤1∧i=.int .i64 j∧Hid (j=1→b=true)∧Below w.heap.size w wr) (fun i _=>1 - (intOf i).toNat)
 case atStart=>exact ⟨0,by omega,rfl,qH (by omega),Below.refl _ _⟩
 case round=>
  obtain ⟨j,hj,rfl,HJ,hv⟩:=hrel;by_cases h0:j=0
  · subst h0;have HBB:=HB.out.below hv;have k0:wr.cell? ⟨g,0,none⟩=some (.int .i64 k):=HBB.cell 0;have k1:wr.cell? ⟨g,1,none⟩=some (.int .i64 a):=HBB.cell 1;go_wp2_with fail;refine qS (HCC.out _) fun W hb=>?_;cases b
    · go_wp2_with fail;go_returns;exact Ret.mk (vi (by rw [HR.out];rfl)) (za hv hb)
    · go_wp2_with fail;exact ⟨⟨1,by omega,by go_num,qH (by simp),za hv hb⟩,by simp [intOf]⟩
  · obtain rfl:j=1:=by omega
    obtain rfl:=HJ.out rfl;go_wp2_with fail;go_returns;exact Ret.mk (vi (by rw [HR.out];rfl)) hv
theorem nf (k a:Int) (g:Nat) (w:World) (hB:Blk w g 126 #[.int .i64 k,.int .i64 a]) :
 Calls Tryz.prog 135 #[.slice (some ⟨g,0,none⟩) 1 1] w (Ret (.bool (xg k a)) w):=by
 have HI:=qH (fun w h=>fN k a g w h);have HB:=qH hB;have HCF:Hid (∀ w,Blk w g 126 #[.int .i64 k,.int .i64 a]→Calls Tryz.prog 204 #[.slice (some ⟨g,0,none⟩) 1 1,.func (.func 205) #[] #[]] w (Ret (.bool (!xg k a)) w)):=qH (by
  intro w h;go_enter Tryz.func204,Tryz.ntmps204;go_wp2_with fail;refine qS (HI.out _ h) fun W hb=>?_;cases hc:xg k a
  · go_wp2_with fail;go_returns;exact Ret.mk (vb (by simp [hc])) hb
  · go_wp2_with fail;go_returns;exact Ret.mk (vb (by simp [hc])) hb)
 go_enter Tryz.func135,Tryz.ntmps135;go_wp2_with fail;refine qS (HCF.out _ HB.out) fun W hb=>?_;go_wp2_with fail;go_returns;exact Ret.mk (vb (by simp)) hb
theorem aN (k a:Int) (g:Nat) (w:World) (hB:Blk w g 126 #[.int .i64 k,.int .i64 a]) :
 Calls Tryz.prog 226 #[.slice (some ⟨g,0,none⟩) 1 1] w (Ret (.bool (xg k a)) w):=by
 have HB:=qH hB;have HC:=fun w=>oQ k a w;obtain ⟨b,hb⟩:=zN (xg k a);rw [←hb] at HC ⊢;have HCC:=qH HC;clear hb HC hB;go_enter Tryz.func226,Tryz.ntmps226;go_wp2_with fail
 go_loopw [3] (fun i wr=>∃ j:Nat,j≤1∧i=.int .i64 j∧Hid (j=1→b=true)∧Below w.heap.size w wr) (fun i _=>1 - (intOf i).toNat)
 case atStart=>exact ⟨0,by omega,rfl,qH (by omega),Below.refl _ _⟩
 case round=>
  obtain ⟨j,hj,rfl,HJ,hv⟩:=hrel;by_cases h0:j=0
  · subst h0;have HBB:=HB.out.below hv;have k0:wr.cell? ⟨g,0,none⟩=some (.int .i64 k):=HBB.cell 0;have k1:wr.cell? ⟨g,1,none⟩=some (.int .i64 a):=HBB.cell 1;go_wp2_with fail;refine qS (HCC.out _) fun W hb=>?_;cases b
    · go_wp2_with fail;go_returns;exact Ret.mk rfl (za hv hb)
    · go_wp2_with fail;exact ⟨⟨1,by omega,by go_num,qH (by simp),za hv hb⟩,by simp [intOf]⟩
  · obtain rfl:j=1:=by omega
    obtain rfl:=HJ.out rfl;go_wp2_with fail;go_returns;exact Ret.mk rfl hv
theorem yB {x:Last} (h:zy x=true):x.name.size≤12:=by
 have h2:=(yP h).1;simp only [zo,sG,Bool.and_eq_true,decide_eq_true_eq,zv] at h2;omega
theorem mX {x:Last} (h:zy x=true):(xS x).size≤140:=by
 obtain ⟨_,hf,p0,p1⟩:=yP h;have s1:=yB h;have s2:=vD hf;have s3:=xd (v:=x.p) (by omega) (by omega);have z1:(⟨#[32]⟩:ByteArray).size=1:=rfl;have z2:(⟨#[32,112,105,116,99,104,32]⟩:ByteArray).size=7:=rfl;unfold xS;simp only [zu,z1,z2];omega
theorem om (f:Foot) (w:World) (hT:Tabs w):Calls Tryz.prog 37 #[.agg #[.int .i64 f.length,.int .i64 f.b,.int .i64 f.i,.int .i64 f.h]] w (Ret (.string (ftB f)) w):=by
 cases hf:yo f
 case true=>
  rw [hZ hf];exact rY f (qH hf) w hT
 rw [dB hf];have HV:=fun w=>uk f w;rw [hf] at HV;replace HV:=qH HV;obtain ⟨W,hW⟩:=zN (w.alloc (Obj.cells (cF f) 27));obtain ⟨g,hg⟩:=zN w.heap.size;have hv:Below w.heap.size w W:=by rw [hW];exact zc (Below.refl _ _) _
 have hB:Hid (Blk W g 27 (cF f)):=qH (by rw [hW,hg];exact Blk.new _ _ _);have HW:=qH hW;have HG:=qH hg;clear hW hg hf;obtain ⟨k0,k1,k2,k3⟩:=qC4 hB.out;go_enter Tryz.func37,Tryz.ntmps37;go_upto_region 1 with fail;rw [←HW.out,←HG.out];clear HW HG;go_wp2_with fail;refine qS (HV.out _) fun W1 hb=>?_;replace hv:=za hv hb;go_wp2_with fail;go_returns;exact Ret.mk rfl hv
theorem mT (x:Last) (HX:Hid (zy x=true)) (w:World):Calls Tryz.prog 160 #[.agg #[.string x.name,.int .i64 x.length,.int .i64 x.b,.int .i64 x.i,.int .i64 x.h,.int .i64 x.p]] w (Ret (.string (xS x)) w):=by
 have D1:=fun w=>rB x w;have D2:=fun w=>pq x.foot (qH (yP HX.out).2.1) w;have D3:=fun w=>xf x.p (by have:=yP HX.out;omega) (by have:=yP HX.out;omega) w;unfold Last.foot at D2;change ∀ w,Calls Tryz.prog 169 #[.agg #[.int .i64 x.length,.int .i64 x.b,.int .i64 x.i,.int .i64 x.h]] w (Ret (.string (yZ x.foot)) w) at D2;obtain ⟨hnm,hf,p0,p1⟩:=yP HX.out;have y0:=yB HX.out;have y1:=vD hf;have y2:=xd (v:=x.p) (by omega) (by omega);have hP:xS x=((((x.name ++ (⟨#[32]⟩:ByteArray)) ++ yZ x.foot) ++ (⟨#[32,112,105,116,99,104,32]⟩:ByteArray)) ++ zm x.p):=rfl;have l1:(⟨#[32]⟩:ByteArray).size=1:=rfl;have l2:(⟨#[32,112,105,116,99,104,32]⟩:ByteArray).size=7:=rfl;obtain ⟨d1,e1⟩:=zN (yZ x.foot);obtain ⟨d2,e2⟩:=zN (zm x.p);rw [←e1] at D2 y1 hP;rw [←e2] at D3 y2 hP;replace D1:=qH D1;replace D2:=qH D2;replace D3:=qH D3;have a0:=fun (w:World)=>run_string_add_sum (P:=Tryz.prog) w x.name (⟨#[32]⟩:ByteArray) (by omega);have a1:=fun (w:World)=>run_string_add_sum (P:=Tryz.prog) w (x.name ++ (⟨#[32]⟩:ByteArray)) d1 (by simp only [zu];omega);have a2:=fun (w:World)=>run_string_add_sum (P:=Tryz.prog) w ((x.name ++ (⟨#[32]⟩:ByteArray)) ++ d1) (⟨#[32,112,105,116,99,104,32]⟩:ByteArray) (by simp only [zu];omega);have a3:=fun (w:World)=>run_string_add_sum (P:=Tryz.prog) w (((x.name ++ (⟨#[32]⟩:ByteArray)) ++ d1) ++ (⟨#[32,112,105,116,99,104,32]⟩:ByteArray)) d2 (by simp only [zu];omega);have HP:=qH hP;clear hP e1 e2 y0 y1 y2 l1 l2 hf hnm p0 p1;obtain ⟨W,hW⟩:=zN (w.alloc (Obj.cells (cL x) 100));obtain ⟨g,hg⟩:=zN w.heap.size;have hv:Below w.heap.size w W:=by rw [hW];exact zc (Below.refl _ _) _
 have hB:Hid (Blk W g 100 (cL x)):=qH (by rw [hW,hg];exact Blk.new _ _ _);have HW:=qH hW;have HG:=qH hg;clear hW hg;obtain ⟨k0,k1,k2,k3,k4,k5⟩:=qC6 hB.out;go_enter Tryz.func160,Tryz.ntmps160;go_upto_region 1 with fail;rw [←HW.out,←HG.out];clear HW HG hB;refine zH (fun w'=>Below W.heap.size W w'∧True) ?_ (fun hHeld=>?_)
 · exact ⟨(Below.refl _ _).drew,trivial⟩
 have hd9:=hHeld.1;refine zU 0 3 ?_;refine zT 1 4 rfl (fun w hSw=>by
  have x_k0:=zb hSw.1 k0;go_simp;try with_reducible rfl) ?_
 refine zU 2 5 ?_;refine zT 3 6 rfl (fun w hSw=>by
  have x_k0:=zb hSw.1 k0;have x_k1:=zb hSw.1 k1;have x_k2:=zb hSw.1 k2;have x_k3:=zb hSw.1 k3;have x_k4:=zb hSw.1 k4;have x_k5:=zb hSw.1 k5;go_simp;try with_reducible rfl) ?_
 refine zU 8 11 ?_;refine zT 9 12 rfl (fun w hSw=>by
  have x_k5:=zb hSw.1 k5;go_simp;try with_reducible rfl) ?_
 refine zR 4 (some 7) rfl (fun K hK=>?_);go_simp;go_split_ands;refine qS (D1.out _) fun V1 hb9=>?_;replace hd9:=za hd9 hb9;clear hb9;go_wp2_with fail;refine zK hK ⟨hd9,trivial⟩ (fun hHeld=>?_);clear hK K;refine zR 5 (some 8) rfl (fun K hK=>?_);go_simp;go_split_ands;refine qS (D2.out _) fun V2 hb9=>?_;replace hd9:=za hd9 hb9;clear hb9;go_wp2_with fail;refine zK hK ⟨hd9,trivial⟩ (fun hHeld=>?_);clear hK K;refine zU 6 9 ?_;refine zU 7 10 ?_;refine zR 10 (some 13) rfl (fun K hK=>?_);go_simp;go_split_ands;refine qS (D3.out _) fun V3 hb9=>?_;replace hd9:=za hd9 hb9;clear hb9;go_wp2_with fail;refine zK hK ⟨hd9,trivial⟩ (fun hHeld=>?_);clear hK K;refine zU 11 14 ?_;refine zU 12 2 ?_;refine zD ?_;clear hHeld;replace hv:=za hv hd9;go_wp2_with fail;go_returns;exact Ret.mk (vs HP.out.symm) hv
theorem rZ (x:Last) (hs:x.name.size≤9223372036854775807) (w:World) (hT:Tabs w):Calls Tryz.prog 73 #[.agg #[.string x.name,.int .i64 x.length,.int .i64 x.b,.int .i64 x.i,.int .i64 x.h,.int .i64 x.p]] w (Ret (.string (ltB x)) w):=by
 have HT:=qH hT;clear hT;have HVL:=fun w=>uv x hs w;obtain ⟨b,hb⟩:=zN (zy x);rw [←hb] at HVL;replace HVL:=qH HVL;have HBE:=qH hb.symm;clear hb;obtain ⟨W,hW⟩:=zN (w.alloc (Obj.cells (cL x) 100));obtain ⟨g,hg⟩:=zN w.heap.size;have hv:Below w.heap.size w W:=by rw [hW];exact zc (Below.refl _ _) _
 have hB:Hid (Blk W g 100 (cL x)):=qH (by rw [hW,hg];exact Blk.new _ _ _);have HW:=qH hW;have HG:=qH hg;clear hW hg;obtain ⟨k0,k1,k2,k3,k4,k5⟩:=qC6 hB.out;go_enter Tryz.func73,Tryz.ntmps73;go_upto_region 1 with fail;rw [←HW.out,←HG.out];clear HW HG;go_wp2_with fail;refine qS (HVL.out _) fun W1 hb=>?_;replace hv:=za hv hb;replace hB:=qH (hB.out.below hb);clear hb HVL;clear k0 k1 k2 k3 k4 k5;obtain ⟨k0,k1,k2,k3,k4,k5⟩:=qC6 hB.out;cases b
 · have HE:=qH (cx HBE.out);go_wp2_with fail;go_returns;exact Ret.mk (vs HE.out.symm) hv
 have HX:Hid (zy x=true):=HBE;have HE:=qH (rQ HX.out);have HT1:=qH (HT.out.below hv);have D1:=fun w=>kD x w;have D2:=fun w h=>rY x.foot (qH (yP HX.out).2.1) w h;have D3:=fun w h=>xo x.p (by have:=yP HX.out;omega) (by have:=yP HX.out;omega) w h;change ∀ w,Tabs w→Calls Tryz.prog 37 #[.agg #[.int .i64 x.length,.int .i64 x.b,.int .i64 x.i,.int .i64 x.h]] w (Ret (.string (yZ x.foot)) w) at D2;obtain ⟨hnm,hf,p0,p1⟩:=yP HX.out;have y0:=yB HX.out;have y1:=vD hf;have y2:=xd (v:=x.p) (by omega) (by omega);have hP:xS x=((((x.name ++ (⟨#[32]⟩:ByteArray)) ++ yZ x.foot) ++ (⟨#[32,112,105,116,99,104,32]⟩:ByteArray)) ++ zm x.p):=rfl;have l1:(⟨#[32]⟩:ByteArray).size=1:=rfl;have l2:(⟨#[32,112,105,116,99,104,32]⟩:ByteArray).size=7:=rfl;obtain ⟨d1,e1⟩:=zN (yZ x.foot);obtain ⟨d2,e2⟩:=zN (zm x.p);rw [←e1] at D2 y1 hP;rw [←e2] at D3 y2 hP;replace D1:=qH D1;replace D2:=qH D2;replace D3:=qH D3;have a0:=fun (w:World)=>run_string_add_sum (P:=Tryz.prog) w x.name (⟨#[32]⟩:ByteArray) (by omega);have a1:=fun (w:World)=>run_string_add_sum (P:=Tryz.prog) w (x.name ++ (⟨#[32]⟩:ByteArray)) d1 (by simp only [zu];omega);have a2:=fun (w:World)=>run_string_add_sum (P:=Tryz.prog) w ((x.name ++ (⟨#[32]⟩:ByteArray)) ++ d1) (⟨#[32,112,105,116,99,104,32]⟩:ByteArray) (by simp only [zu];omega);have a3:=fun (w:World)=>run_string_add_sum (P:=Tryz.prog) w (((x.name ++ (⟨#[32]⟩:ByteArray)) ++ d1) ++ (⟨#[32,112,105,116,99,104,32]⟩:ByteArray)) d2 (by simp only [zu];omega);have HP:=qH hP;clear hP e1 e2 y0 y1 y2 l1 l2 hf hnm p0 p1;go_upto_region 3 with fail;clear hB;refine zH (fun w'=>Below W1.heap.size W1 w'∧True) ?_ (fun hHeld=>?_)
 · exact ⟨(Below.refl _ _).drew,trivial⟩
 have hd9:=hHeld.1;refine zU 0 6 ?_;refine zT 1 7 rfl (fun w hSw=>by
  have x_k0:=zb hSw.1 k0;go_simp;try with_reducible rfl) ?_
 refine zU 2 8 ?_;refine zT 3 9 rfl (fun w hSw=>by
  have x_k0:=zb hSw.1 k0;have x_k1:=zb hSw.1 k1;have x_k2:=zb hSw.1 k2;have x_k3:=zb hSw.1 k3;have x_k4:=zb hSw.1 k4;have x_k5:=zb hSw.1 k5;go_simp;try with_reducible rfl) ?_
 refine zU 8 14 ?_;refine zT 9 15 rfl (fun w hSw=>by
  have x_k5:=zb hSw.1 k5;go_simp;try with_reducible rfl) ?_
 refine zR 4 (some 10) rfl (fun K hK=>?_);go_simp;go_split_ands;refine qS (D1.out _) fun V1 hb9=>?_;replace hd9:=za hd9 hb9;clear hb9;go_wp2_with fail;refine zK hK ⟨hd9,trivial⟩ (fun hHeld=>?_);clear hK K;refine zR 5 (some 11) rfl (fun K hK=>?_);go_simp;go_split_ands;refine qS (D2.out _ (HT1.out.below hd9)) fun V2 hb9=>?_;replace hd9:=za hd9 hb9;clear hb9;go_wp2_with fail;refine zK hK ⟨hd9,trivial⟩ (fun hHeld=>?_);clear hK K;refine zU 6 12 ?_;refine zU 7 13 ?_;refine zR 10 (some 16) rfl (fun K hK=>?_);go_simp;go_split_ands;refine qS (D3.out _ (HT1.out.below hd9).pow) fun V3 hb9=>?_;replace hd9:=za hd9 hb9;clear hb9;go_wp2_with fail;refine zK hK ⟨hd9,trivial⟩ (fun hHeld=>?_);clear hK K;refine zU 11 17 ?_;refine zU 12 2 ?_;refine zD ?_;clear hHeld;replace hv:=za hv hd9;go_wp2_with fail;go_returns;exact Ret.mk (vs (HE.out.trans HP.out).symm) hv
end Go.Proofs.YtpiehlfffjhoaaaGreatDoor
