/- The console's reference: a change read. -/
import Derived.Test.YtpiehlfffjhoaaaGreatDoorQ1
import Derived.Test.YtpiehlfffjhoaaaGreatDoorQ0
import Derived.Test.YtpiehlfffjhoaaaGreatDoorQ38
import Derived.Test.YtpiehlfffjhoaaaGreatDoorQ25
import Derived.Test.YtpiehlfffjhoaaaGreatDoorQ15
import Derived.Test.YtpiehlfffjhoaaaGreatDoorQ5
namespace Go.Proofs.YtpiehlfffjhoaaaGreatDoor
open Go.RowKit
set_option maxRecDepth 100000
set_option maxHeartbeats 8000000
def kdP (p:ByteArray):Nat→Int
 | 0=>0
 | j + 1=>if chW ((j + 1:Nat):Int)=p then ((j + 1:Nat):Int) else kdP p j
theorem lO (p:ByteArray):kdP p 5=chK p:=by
 by_cases h1:p=chW 1
 · subst h1;decide
 by_cases h2:p=chW 2
 · subst h2;decide
 by_cases h3:p=chW 3
 · subst h3;decide
 by_cases h4:p=chW 4
 · subst h4;decide
 by_cases h5:p=chW 5
 · subst h5;decide
 have e:chK p=0:=by unfold chK;simp only [h1,h2,h3,h4,h5,if_false]
 rw [e];have n1:¬ chW ((0 + 1:Nat):Int)=p:=fun h=>h1 h.symm;have n2:¬ chW ((1 + 1:Nat):Int)=p:=fun h=>h2 h.symm;have n3:¬ chW ((2 + 1:Nat):Int)=p:=fun h=>h3 h.symm;have n4:¬ chW ((3 + 1:Nat):Int)=p:=fun h=>h4 h.symm;have n5:¬ chW ((4 + 1:Nat):Int)=p:=fun h=>h5 h.symm;unfold kdP;rw [if_neg n5];unfold kdP;rw [if_neg n4];unfold kdP;rw [if_neg n3];unfold kdP;rw [if_neg n2];unfold kdP;rw [if_neg n1];rfl
theorem kK (p:ByteArray):∀ j,0≤kdP p j∧kdP p j≤j
 | 0=>by simp [kdP]
 | j + 1=>by
   have h:=kK p j;unfold kdP;split <;> omega
theorem za0 {q:ByteArray} (h:0 < q.size):q.data.toList=q[0] :: (q.extract 1 q.size).data.toList:=by
 have e0:q.data.toList=q[0] :: q.data.toList.drop 1:=by have:=yY (xU h);simpa using this
 rw [e0]
 congr 1
 rw [ByteArray.data_extract,Array.toList_extract,e0];simp [List.take_of_length_le]
theorem jk {s p q:ByteArray} (h:zi 32 s=[p,q]) (h0:0 < q.size):wn s=if (decide (q[0].toNat=43∨q[0].toNat=45) && (okB (q.extract 1 q.size) && (inB (zq (q.extract 1 q.size)) 1 300 && xg (chK p) (if q[0].toNat=45 then -(zq (q.extract 1 q.size)) else zq (q.extract 1 q.size)))))=true then some (chK p,if q[0].toNat=45 then -(zq (q.extract 1 q.size)) else zq (q.extract 1 q.size)) else none:=by
 unfold wn;rw [h];simp only [];rw [za0 h0];simp only [];have e3:(q[0]=43∨q[0]=45) ↔ (q[0].toNat=43∨q[0].toNat=45):=by
  constructor
  · rintro (h | h) <;> rw [h] <;> decide
  · rintro (h | h)
    · exact .inl (UInt8.toNat_inj.1 h)
    · exact .inr (UInt8.toNat_inj.1 h)
 have e4:q[0]=45 ↔ q[0].toNat=45:=⟨fun h=>by rw [h];rfl,fun h=>UInt8.toNat_inj.1 h⟩
 generalize q.extract 1 q.size=R;by_cases ho:okN R.data.toList=true
 · have en:xi R.data.toList=zq R:=(aV ho).symm;have eb:okB R=true:=ho;have e5:decide (q[0]=43∨q[0]=45)=decide (q[0].toNat=43∨q[0].toNat=45):=by rw [decide_eq_decide];exact e3
   have e7:chN q[0] R.data.toList=if q[0].toNat=45 then -(zq R) else zq R:=by
    unfold chN;rw [en];simp only [e4]
   rw [e5,e7,en,ho,eb];simp only [Bool.and_true,Bool.true_and,Bool.and_assoc]
 · have hf:okN R.data.toList=false:=by simpa using ho
   have eb:okB R=false:=hf;rw [hf,eb];simp
theorem zad {s p q:ByteArray} (h:zi 32 s=[p,q]) (h2:q.size < 2):wn s=none:=by
 by_cases h0:q.size=0
 · unfold wn;rw [h];simp only [];have hn:q.data.toList=[]:=List.eq_nil_of_length_eq_zero (by rw [zv];exact h0);rw [hn]
 · rw [jk h (by omega)];have hs:(q.extract 1 q.size).data.toList=[]:=by
    rw [ByteArray.data_extract,Array.toList_extract];refine List.eq_nil_of_length_eq_zero ?_;simp;omega
   have eb:okB (q.extract 1 q.size)=false:=by unfold okB;rw [hs];rfl
   rw [eb];simp
theorem nz (w:World):Calls Tryz.prog 223 #[] w fun e w'=>e=.returned (.slice (some ⟨w.heap.size,0,none⟩) 5 5)∧w'=w.alloc (.cells #[Value.string ⟨#[108,101,110,103,116,104]⟩,Value.string ⟨#[98,97,108,108]⟩,Value.string ⟨#[105,110,115,116,101,112]⟩,Value.string ⟨#[104,101,101,108]⟩,Value.string ⟨#[112,105,116,99,104]⟩] 9):=by
 go_enter Tryz.func223,Tryz.ntmps223;go_wp2_with fail;go_returns;exact ⟨rfl,rfl⟩
theorem lC (s:ByteArray) (hs:s.size≤4194304) (w:World):Calls Tryz.prog 157 #[.string s] w (RetT (qG (wn s)) w):=by
 have HSP:=fun w=>wQ 32 s hs w;have HSH:=qH (fun h=>ep (s:=s) h);have HLO:=qH (fun p q h=>zad (s:=s) (p:=p) (q:=q) h);have HTW:=qH (fun p q h=>jk (s:=s) (p:=p) (q:=q) h);have HPZ:=qH (fun y (hy:y ∈ zi 32 s)=>Nat.le_trans (wj (c:=32) hy) hs);obtain ⟨L,hL⟩:=zN (zi 32 s);rw [←hL] at HSP HSH HLO HTW HPZ;obtain ⟨n,hn⟩:=zN L.length;rw [←hn] at HSP HSH;replace HSP:=qH HSP;have HLN:=qH hn.symm;obtain ⟨W,hW⟩:=zN (w.alloc (Obj.cells #[.int .i64 0,.int .i64 0] 126));obtain ⟨gr,hgr⟩:=zN w.heap.size;have hv:Below w.heap.size w W:=by rw [hW];exact zc (Below.refl _ _) _
 have hR:Hid (Blk W gr 126 #[.int .i64 0,.int .i64 0]):=qH (by rw [hW,hgr];exact Blk.new _ _ _);have hge:w.heap.size≤gr:=by omega
 have HW:=qH hW;have HG:=qH hgr;clear hW hgr hL hn;go_enter Tryz.func157,Tryz.ntmps157;go_upto_region 1 with fail;rw [←HW.out,←HG.out];clear HW HG;go_wp2_with fail;refine (HSP.out _).mono ?_;rintro e W1 ⟨A,cw,rfl,ho,hb⟩;replace hv:=za hv hb;replace hR:=qH (hR.out.below hb);have HO:=qH ho;clear hb ho HSP;by_cases hm2:n=2
 case neg=>
  have hne:((n:Int) != 2)=true:=by rw [bne_iff_ne];omega
  have HN:=qH (HSH.out hm2);go_wp2_with (refine yS gr #[.int .i64 0,.int .i64 0] hR.out ?_)
  refine bodyPost_ret (zk (P:=Tryz.prog) rfl _ _ gr 126 _ (0,0) _ rfl (setRow_heap _ _ _ _ _ _ hR.out) Tryz.underlying126 rfl (by kernel_rfl)) rfl ?_;exact RetT.mk (by rw [HN.out];rfl) (zg hv hge _)
 subst hm2;obtain ⟨ga,rfl⟩:=xj HO.out (by omega);have HA:Hid (Arr W1 (some ⟨ga,0,none⟩) (zd zn L)):=qH (by rw [yH];exact Arr.own HO.out);have hlta:=yw HO.out ga rfl;obtain ⟨p,q,hL⟩:∃ p q,L=[p,q]:=by
  have h:=HLN.out;rcases L with _ | ⟨a,_ | ⟨b,_ | ⟨c,r⟩⟩⟩ <;> simp at h;exact ⟨a,b,rfl⟩
 have k0:W1.cell? ⟨ga,0,none⟩=some (.string p):=zW HA.out (by rw [hL];rfl);have k1:W1.cell? ⟨ga,1,none⟩=some (.string q):=zW HA.out (by rw [hL];rfl);have hqz:=HPZ.out q (by rw [hL];simp);by_cases hq2:q.size < 2
 · have hq3:(q.size:Int) < 2:=by omega
   have HN:=qH (HLO.out p q hL hq2);clear hL;go_wp2_with (refine yS gr #[.int .i64 0,.int .i64 0] hR.out ?_)
   refine bodyPost_ret (zk (P:=Tryz.prog) rfl _ _ gr 126 _ (0,0) _ rfl (setRow_heap _ _ _ _ _ _ hR.out) Tryz.underlying126 rfl (by kernel_rfl)) rfl ?_;exact RetT.mk (by rw [HN.out];rfl) (zg hv hge _)
 have hq3:¬ (q.size:Int) < 2:=by omega
 have hq0:0 < q.size:=by omega
 have HRD:=HTW.out p q hL hq0;have HLL:=qH hL;clear HTW HLO HSH hL;by_cases h43:q[0].toNat=43
 case pos=>
  have hc1:((q[0].toNat:Int) != 43)=false:=by rw [h43];rfl
  have hc2:((q[0].toNat:Int) == 45)=false:=by rw [h43];rfl
  have hc3:¬ (q[0].toNat:Int)=45:=by omega
  have h45:¬ q[0].toNat=45:=by omega
  rw [decide_eq_true (.inl h43),Bool.true_and,if_neg h45] at HRD;have HNM:=fun w=>xl (q.extract 1 q.size) (by have:(q.extract 1 q.size).size≤q.size:=(by simp);omega) w;change ∀ w,Calls Tryz.prog 156 #[.string (q.extract 1 q.size)] w (RetT #[.int .i64 (zq (q.extract 1 q.size)),.bool (okB (q.extract 1 q.size))] w) at HNM;obtain ⟨nv,hnv⟩:=zN (zq (q.extract 1 q.size));obtain ⟨b9,hb9⟩:=zN (okB (q.extract 1 q.size));rw [←hnv,←hb9] at HNM HRD;replace HNM:=qH HNM;have HIN:=fun w=>xJ nv 1 300 w;have HIB:=qH (fun (h:inB nv 1 300=true)=>inB_iff.1 h);obtain ⟨b8,hb8⟩:=zN (inB nv 1 300);rw [←hb8] at HIN HRD HIB;replace HIN:=qH HIN;have HRDH:=qH HRD;clear hnv hb9 hb8 HRD;go_wp2_with fail;refine qS (HNM.out _) fun W2 hb=>?_;have hz2:=hb.size;replace hv:=za hv hb;replace hR:=qH (hR.out.below hb);replace HA:=qH (HA.out.below hb);obtain ⟨gy,hgy⟩:=zN W2.heap.size;obtain ⟨W3,hW3⟩:=zN (W2.alloc (Obj.cells #[.int .i64 0,.int .i64 0] 126));have hb3:Below W2.heap.size W2 W3:=by rw [hW3];exact zc (Below.refl _ _) _
  have HY0:Hid (Blk W3 gy 126 #[.int .i64 0,.int .i64 0]):=qH (by rw [hW3,hgy];exact Blk.new _ _ _);have hyr:gr≠gy:=by have:=hR.out.lt;omega
  have hya:ga≠gy:=by omega
  have hyw:w.heap.size≤gy:=by rw [hgy];exact hv.size
  replace hv:=za hv hb3;replace hR:=qH (hR.out.below hb3);replace HA:=qH (HA.out.below hb3);have EW:=qH hW3;have EG:=qH hgy;clear hb k0 k1 HNM hW3 hgy hb3 hc1;go_upto_region 6 with (rw [←EW.out,←EG.out];refine yS gy #[.int .i64 0,.int .i64 0] HY0.out ?_)
  have hg4:=yh W3 gy #[Value.int .i64 0,Value.int .i64 0];have HY:Hid (Blk (World.setRow W3 gy #[Value.int .i64 0,Value.int .i64 0]) gy 126 #[.int .i64 (kdP p 0),.int .i64 0]):=qH (setRow_heap _ _ _ _ _ _ HY0.out);replace hR:=qH (hR.out.grown hg4 (fun e=>by injection e with e;exact hyr e));replace HA:=qH (HA.out.grown hg4 (fun ad e e2=>by injection e with e;subst e;injection e2 with e2;exact hya e2));replace hv:=zg hv hyw #[Value.int .i64 0,Value.int .i64 0];obtain ⟨W4,hW4⟩:=zN (World.setRow W3 gy #[Value.int .i64 0,Value.int .i64 0]);rw [←hW4] at HY hR HA hv ⊢;clear hW4 EW EG HY0 hg4;go_wp2_with fail;refine qS (nz _) fun W5 hq5=>?_;obtain ⟨gn,hgn⟩:=zN W4.heap.size;have hb:Below W4.heap.size W4 W5:=by rw [hq5];exact zc (Below.refl _ _) _
  have HNA:Hid (Blk W5 gn 9 #[.string ⟨#[108,101,110,103,116,104]⟩,.string ⟨#[98,97,108,108]⟩,.string ⟨#[105,110,115,116,101,112]⟩,.string ⟨#[104,101,101,108]⟩,.string ⟨#[112,105,116,99,104]⟩]):=qH (by rw [hq5,hgn];exact Blk.new _ _ _);have hyn:gn≠gy:=by have:=HY.out.lt;omega
  rw [←hgn];replace hv:=za hv hb;replace hR:=qH (hR.out.below hb);replace HA:=qH (HA.out.below hb);replace HY:=qH (HY.out.below hb);clear hq5 hgn hb;go_wp2_with fail
  go_loopw [9] (fun i wr=>∃ j:Nat,j≤5∧i=.int .i64 j∧Hid (Blk wr gy 126 #[.int .i64 (kdP p j),.int .i64 0])∧Hid (Blk wr gr 126 #[.int .i64 0,.int .i64 0])∧Hid (Arr wr (some ⟨ga,0,none⟩) (zd zn L))∧Hid (Blk wr gn 9 #[.string ⟨#[108,101,110,103,116,104]⟩,.string ⟨#[98,97,108,108]⟩,.string ⟨#[105,110,115,116,101,112]⟩,.string ⟨#[104,101,101,108]⟩,.string ⟨#[112,105,116,99,104]⟩])∧Below w.heap.size w wr) (fun i _=>5 - (intOf i).toNat)
  case atStart=>exact ⟨0,by omega,rfl,HY,hR,HA,HNA,hv⟩
  case round=>
  clear HY hR HA HNA hv;obtain ⟨j,hj,rfl,HY,hR,HA,HNA,hv⟩:=hrel;have hj0:(0:Int)≤(j:Int):=by omega
  by_cases hlt:j < 5
  case pos=>
   have hj1:(j:Int) < 5:=by omega
   have k0:wr.cell? ⟨ga,0,none⟩=some (.string p):=zW HA.out (by rw [HLL.out];rfl);have kn:wr.cell? ⟨gn,j,none⟩=some (.string (chW ((j + 1:Nat):Int))):=by
    rw [HNA.out.cell j];rcases (show j=0∨j=1∨j=2∨j=3∨j=4 by omega) with rfl | rfl | rfl | rfl | rfl <;> rfl
   have hbb:((chW ((j + 1:Nat):Int)).toList == p.toList)=decide (chW ((j + 1:Nat):Int)=p):=yJ _ _;have y0:wr.cell? ⟨gy,0,none⟩=some (.int .i64 (kdP p j)):=HY.out.cell 0;have yf:wr.frozen? ⟨gy,0,none⟩=false:=HY.out.frozen 0;have HKD:=qH (show kdP p (j + 1)=if chW ((j + 1:Nat):Int)=p then ((j + 1:Nat):Int) else kdP p j from rfl);have hwj:IntKind.i64.wrap ((j:Int) + 1)=((j + 1:Nat):Int):=by
    have h:=IntWalk.i64_in ((j:Int) + 1) (by omega);omega
   obtain ⟨nm,hnm⟩:=zN (chW ((j + 1:Nat):Int));rw [←hnm] at kn hbb HKD;clear hnm;by_cases hpe:nm=p
   · rw [decide_eq_true hpe] at hbb;have HK2:=qH (HKD.out.trans (if_pos hpe));clear hpe;go_wp2_with fail
     go_region
     all_goals go_wp2_with fail
     all_goals exact ⟨⟨j + 1,by omega,by go_num,qH (by rw [HK2.out];exact (HY.out.below (Below.refl _ _).drew).set_ 0 _),qH ((hR.out.below (Below.refl _ _).drew).far (p:=⟨gy,0,none⟩) (by simp only;exact hyr) _),qH ((HA.out.below (Below.refl _ _).drew).grown (xh _ gy 0 _) (fun ad e e2=>by injection e with e;subst e;injection e2 with e2;exact hya e2)),qH ((HNA.out.below (Below.refl _ _).drew).far (p:=⟨gy,0,none⟩) (by simp only;exact hyn) _),zt hv.drew (p:=⟨gy,0,none⟩) hyw _⟩,by simp [intOf];omega⟩
   · rw [decide_eq_false hpe] at hbb;have HK2:=qH (HKD.out.trans (if_neg hpe));clear hpe;go_wp2_with fail
     go_region
     all_goals go_wp2_with fail
     all_goals exact ⟨⟨j + 1,by omega,by go_num,qH (by rw [HK2.out];exact HY.out.below (Below.refl _ _).drew),qH (hR.out.below (Below.refl _ _).drew),qH (HA.out.below (Below.refl _ _).drew),qH (HNA.out.below (Below.refl _ _).drew),hv.drew⟩,by simp [intOf];omega⟩
  case neg=>
  have hj1:¬ (j:Int) < 5:=by omega
  obtain rfl:j=5:=by omega
  rw [lO] at HY;have HKB:=kK p 5;rw [lO] at HKB;obtain ⟨kk,hkk⟩:=zN (chK p);rw [←hkk] at HY HRDH HKB;clear hkk HNA hj hj0 hlt;cases b9
  · have HN:=qH (HRDH.out.trans (by simp:_=none));clear HRDH;go_wp2_with (refine yS gr #[.int .i64 0,.int .i64 0] hR.out ?_)
    refine bodyPost_ret (zk (P:=Tryz.prog) rfl _ _ gr 126 _ (0,0) _ rfl (setRow_heap _ _ _ _ _ _ hR.out) Tryz.underlying126 rfl (by kernel_rfl)) rfl ?_;exact RetT.mk (by rw [HN.out];rfl) (zg hv hge _)
  go_wp2_with fail;refine qR (HIN.out _) ?_;clear HIN;cases b8
  · have HN:=qH (HRDH.out.trans (by simp:_=none));clear HRDH;go_wp2_with (refine yS gr #[.int .i64 0,.int .i64 0] hR.out ?_)
    refine bodyPost_ret (zk (P:=Tryz.prog) rfl _ _ gr 126 _ (0,0) _ rfl (setRow_heap _ _ _ _ _ _ hR.out) Tryz.underlying126 rfl (by kernel_rfl)) rfl ?_;exact RetT.mk (by rw [HN.out];rfl) (zg hv hge _)
  obtain ⟨hn0,hn1⟩:=HIB.out rfl;have hwn:IntKind.i64.wrap (-nv) = -nv:=IntWalk.i64_in _ (by omega);have y1:wr.cell? ⟨gy,1,none⟩=some (.int .i64 0):=HY.out.cell 1;have yf:wr.frozen? ⟨gy,1,none⟩=false:=HY.out.frozen 1;go_upto_region 15 with fail;replace HY:=qH (HY.out.set_ 1 (.int .i64 nv));replace hR:=qH (hR.out.far (p:=⟨gy,1,none⟩) (by simp only;exact hyr) (.int .i64 nv));replace HA:=qH (HA.out.grown (xh wr gy 1 (.int .i64 nv)) (fun ad e e2=>by injection e with e;subst e;injection e2 with e2;exact hya e2));replace hv:=zt hv (p:=⟨gy,1,none⟩) hyw (.int .i64 nv);obtain ⟨V1,hV1⟩:=zN (wr.setCell ⟨gy,1,none⟩ (.int .i64 nv));rw [←hV1] at HY hR HA hv ⊢;clear hV1 y1 yf;have k1:V1.cell? ⟨ga,1,none⟩=some (.string q):=zW HA.out (by rw [HLL.out];rfl);obtain ⟨b7,hb7⟩:=zN (xg kk nv);have HON:=fun w=>oQ kk nv w;rw [←hb7] at HON HRDH;clear hb7;go_wp2_with (refine yL gy HY.out Tryz.underlying126 ?_)
  refine qS (HON _) fun W9 hb=>?_;replace hv:=za hv hb;replace hR:=qH (hR.out.below hb);replace HY:=qH (HY.out.below hb);clear hb;cases b7
  · have HN:=qH (HRDH.out.trans (by simp:_=none));clear HRDH;go_wp2_with (refine yS gr #[.int .i64 0,.int .i64 0] hR.out ?_)
    refine bodyPost_ret (zk (P:=Tryz.prog) rfl _ _ gr 126 _ (0,0) _ rfl (setRow_heap _ _ _ _ _ _ hR.out) Tryz.underlying126 rfl (by kernel_rfl)) rfl ?_;exact RetT.mk (by rw [HN.out];rfl) (zg hv hge _)
  have HN:=qH (HRDH.out.trans (by simp:_=some (kk,nv)));go_wp2_with (first
   | (refine yL gy HY.out Tryz.underlying126 ?_)
   | (refine yS gr #[.int .i64 kk,.int .i64 nv] hR.out ?_))
  refine bodyPost_ret (zk (P:=Tryz.prog) rfl _ _ gr 126 _ (0,0) _ rfl (setRow_heap _ _ _ _ _ _ hR.out) Tryz.underlying126 rfl (by kernel_rfl)) rfl ?_;exact RetT.mk (by rw [HN.out];rfl) (zg hv hge _)
 by_cases h45:q[0].toNat=45
 case neg=>
  have hc1:((q[0].toNat:Int) != 43)=true:=by rw [bne_iff_ne];omega
  have hc2:((q[0].toNat:Int) != 45)=true:=by rw [bne_iff_ne];omega
  have HN:=qH (HRD.trans (by rw [decide_eq_false (fun h=>h.elim h43 h45),Bool.false_and,if_neg (by decide)]:_=none));clear HRD;go_wp2_with (refine yS gr #[.int .i64 0,.int .i64 0] hR.out ?_)
  refine bodyPost_ret (zk (P:=Tryz.prog) rfl _ _ gr 126 _ (0,0) _ rfl (setRow_heap _ _ _ _ _ _ hR.out) Tryz.underlying126 rfl (by kernel_rfl)) rfl ?_;exact RetT.mk (by rw [HN.out];rfl) (zg hv hge _)
 have hc1:((q[0].toNat:Int) != 43)=true:=by rw [bne_iff_ne];omega
 have hc4:((q[0].toNat:Int) != 45)=false:=by rw [h45];rfl
 have hc2:((q[0].toNat:Int) == 45)=true:=by rw [h45];rfl
 have hc3:(q[0].toNat:Int)=45:=by omega
 rw [decide_eq_true (.inr h45),Bool.true_and,if_pos h45] at HRD;have HNM:=fun w=>xl (q.extract 1 q.size) (by have:(q.extract 1 q.size).size≤q.size:=(by simp);omega) w;change ∀ w,Calls Tryz.prog 156 #[.string (q.extract 1 q.size)] w (RetT #[.int .i64 (zq (q.extract 1 q.size)),.bool (okB (q.extract 1 q.size))] w) at HNM;obtain ⟨nv,hnv⟩:=zN (zq (q.extract 1 q.size));obtain ⟨b9,hb9⟩:=zN (okB (q.extract 1 q.size));rw [←hnv,←hb9] at HNM HRD;replace HNM:=qH HNM;have HIN:=fun w=>xJ nv 1 300 w;have HIB:=qH (fun (h:inB nv 1 300=true)=>inB_iff.1 h);obtain ⟨b8,hb8⟩:=zN (inB nv 1 300);rw [←hb8] at HIN HRD HIB;replace HIN:=qH HIN;have HRDH:=qH HRD;clear hnv hb9 hb8 HRD;go_wp2_with fail;refine qS (HNM.out _) fun W2 hb=>?_;have hz2:=hb.size;replace hv:=za hv hb;replace hR:=qH (hR.out.below hb);replace HA:=qH (HA.out.below hb);obtain ⟨gy,hgy⟩:=zN W2.heap.size;obtain ⟨W3,hW3⟩:=zN (W2.alloc (Obj.cells #[.int .i64 0,.int .i64 0] 126));have hb3:Below W2.heap.size W2 W3:=by rw [hW3];exact zc (Below.refl _ _) _
 have HY0:Hid (Blk W3 gy 126 #[.int .i64 0,.int .i64 0]):=qH (by rw [hW3,hgy];exact Blk.new _ _ _);have hyr:gr≠gy:=by have:=hR.out.lt;omega
 have hya:ga≠gy:=by omega
 have hyw:w.heap.size≤gy:=by rw [hgy];exact hv.size
 replace hv:=za hv hb3;replace hR:=qH (hR.out.below hb3);replace HA:=qH (HA.out.below hb3);have EW:=qH hW3;have EG:=qH hgy;clear hb k0 k1 HNM hW3 hgy hb3 hc1;go_upto_region 6 with (rw [←EW.out,←EG.out];refine yS gy #[.int .i64 0,.int .i64 0] HY0.out ?_)
 have hg4:=yh W3 gy #[Value.int .i64 0,Value.int .i64 0];have HY:Hid (Blk (World.setRow W3 gy #[Value.int .i64 0,Value.int .i64 0]) gy 126 #[.int .i64 (kdP p 0),.int .i64 0]):=qH (setRow_heap _ _ _ _ _ _ HY0.out);replace hR:=qH (hR.out.grown hg4 (fun e=>by injection e with e;exact hyr e));replace HA:=qH (HA.out.grown hg4 (fun ad e e2=>by injection e with e;subst e;injection e2 with e2;exact hya e2));replace hv:=zg hv hyw #[Value.int .i64 0,Value.int .i64 0];obtain ⟨W4,hW4⟩:=zN (World.setRow W3 gy #[Value.int .i64 0,Value.int .i64 0]);rw [←hW4] at HY hR HA hv ⊢;clear hW4 EW EG HY0 hg4;go_wp2_with fail;refine qS (nz _) fun W5 hq5=>?_;obtain ⟨gn,hgn⟩:=zN W4.heap.size;have hb:Below W4.heap.size W4 W5:=by rw [hq5];exact zc (Below.refl _ _) _
 have HNA:Hid (Blk W5 gn 9 #[.string ⟨#[108,101,110,103,116,104]⟩,.string ⟨#[98,97,108,108]⟩,.string ⟨#[105,110,115,116,101,112]⟩,.string ⟨#[104,101,101,108]⟩,.string ⟨#[112,105,116,99,104]⟩]):=qH (by rw [hq5,hgn];exact Blk.new _ _ _);have hyn:gn≠gy:=by have:=HY.out.lt;omega
 rw [←hgn];replace hv:=za hv hb;replace hR:=qH (hR.out.below hb);replace HA:=qH (HA.out.below hb);replace HY:=qH (HY.out.below hb);clear hq5 hgn hb;go_wp2_with fail
 go_loopw [9] (fun i wr=>∃ j:Nat,j≤5∧i=.int .i64 j∧Hid (Blk wr gy 126 #[.int .i64 (kdP p j),.int .i64 0])∧Hid (Blk wr gr 126 #[.int .i64 0,.int .i64 0])∧Hid (Arr wr (some ⟨ga,0,none⟩) (zd zn L))∧Hid (Blk wr gn 9 #[.string ⟨#[108,101,110,103,116,104]⟩,.string ⟨#[98,97,108,108]⟩,.string ⟨#[105,110,115,116,101,112]⟩,.string ⟨#[104,101,101,108]⟩,.string ⟨#[112,105,116,99,104]⟩])∧Below w.heap.size w wr) (fun i _=>5 - (intOf i).toNat)
 case atStart=>exact ⟨0,by omega,rfl,HY,hR,HA,HNA,hv⟩
 case round=>
 clear HY hR HA HNA hv;obtain ⟨j,hj,rfl,HY,hR,HA,HNA,hv⟩:=hrel;have hj0:(0:Int)≤(j:Int):=by omega
 by_cases hlt:j < 5
 case pos=>
  have hj1:(j:Int) < 5:=by omega
  have k0:wr.cell? ⟨ga,0,none⟩=some (.string p):=zW HA.out (by rw [HLL.out];rfl);have kn:wr.cell? ⟨gn,j,none⟩=some (.string (chW ((j + 1:Nat):Int))):=by
   rw [HNA.out.cell j];rcases (show j=0∨j=1∨j=2∨j=3∨j=4 by omega) with rfl | rfl | rfl | rfl | rfl <;> rfl
  have hbb:((chW ((j + 1:Nat):Int)).toList == p.toList)=decide (chW ((j + 1:Nat):Int)=p):=yJ _ _;have y0:wr.cell? ⟨gy,0,none⟩=some (.int .i64 (kdP p j)):=HY.out.cell 0;have yf:wr.frozen? ⟨gy,0,none⟩=false:=HY.out.frozen 0;have HKD:=qH (show kdP p (j + 1)=if chW ((j + 1:Nat):Int)=p then ((j + 1:Nat):Int) else kdP p j from rfl);have hwj:IntKind.i64.wrap ((j:Int) + 1)=((j + 1:Nat):Int):=by
   have h:=IntWalk.i64_in ((j:Int) + 1) (by omega);omega
  obtain ⟨nm,hnm⟩:=zN (chW ((j + 1:Nat):Int));rw [←hnm] at kn hbb HKD;clear hnm;by_cases hpe:nm=p
  · rw [decide_eq_true hpe] at hbb;have HK2:=qH (HKD.out.trans (if_pos hpe));clear hpe;go_wp2_with fail
    go_region
    all_goals go_wp2_with fail
    all_goals exact ⟨⟨j + 1,by omega,by go_num,qH (by rw [HK2.out];exact (HY.out.below (Below.refl _ _).drew).set_ 0 _),qH ((hR.out.below (Below.refl _ _).drew).far (p:=⟨gy,0,none⟩) (by simp only;exact hyr) _),qH ((HA.out.below (Below.refl _ _).drew).grown (xh _ gy 0 _) (fun ad e e2=>by injection e with e;subst e;injection e2 with e2;exact hya e2)),qH ((HNA.out.below (Below.refl _ _).drew).far (p:=⟨gy,0,none⟩) (by simp only;exact hyn) _),zt hv.drew (p:=⟨gy,0,none⟩) hyw _⟩,by simp [intOf];omega⟩
  · rw [decide_eq_false hpe] at hbb;have HK2:=qH (HKD.out.trans (if_neg hpe));clear hpe;go_wp2_with fail
    go_region
    all_goals go_wp2_with fail
    all_goals exact ⟨⟨j + 1,by omega,by go_num,qH (by rw [HK2.out];exact HY.out.below (Below.refl _ _).drew),qH (hR.out.below (Below.refl _ _).drew),qH (HA.out.below (Below.refl _ _).drew),qH (HNA.out.below (Below.refl _ _).drew),hv.drew⟩,by simp [intOf];omega⟩
 case neg=>
 have hj1:¬ (j:Int) < 5:=by omega
 obtain rfl:j=5:=by omega
 rw [lO] at HY;have HKB:=kK p 5;rw [lO] at HKB;obtain ⟨kk,hkk⟩:=zN (chK p);rw [←hkk] at HY HRDH HKB;clear hkk HNA hj hj0 hlt;cases b9
 · have HN:=qH (HRDH.out.trans (by simp:_=none));clear HRDH;go_wp2_with (refine yS gr #[.int .i64 0,.int .i64 0] hR.out ?_)
   refine bodyPost_ret (zk (P:=Tryz.prog) rfl _ _ gr 126 _ (0,0) _ rfl (setRow_heap _ _ _ _ _ _ hR.out) Tryz.underlying126 rfl (by kernel_rfl)) rfl ?_;exact RetT.mk (by rw [HN.out];rfl) (zg hv hge _)
 go_wp2_with fail;refine qR (HIN.out _) ?_;clear HIN;cases b8
 · have HN:=qH (HRDH.out.trans (by simp:_=none));clear HRDH;go_wp2_with (refine yS gr #[.int .i64 0,.int .i64 0] hR.out ?_)
   refine bodyPost_ret (zk (P:=Tryz.prog) rfl _ _ gr 126 _ (0,0) _ rfl (setRow_heap _ _ _ _ _ _ hR.out) Tryz.underlying126 rfl (by kernel_rfl)) rfl ?_;exact RetT.mk (by rw [HN.out];rfl) (zg hv hge _)
 obtain ⟨hn0,hn1⟩:=HIB.out rfl;have hwn:IntKind.i64.wrap (-nv) = -nv:=IntWalk.i64_in _ (by omega);have y1:wr.cell? ⟨gy,1,none⟩=some (.int .i64 0):=HY.out.cell 1;have yf:wr.frozen? ⟨gy,1,none⟩=false:=HY.out.frozen 1;go_upto_region 15 with fail;replace HY:=qH (HY.out.set_ 1 (.int .i64 nv));replace hR:=qH (hR.out.far (p:=⟨gy,1,none⟩) (by simp only;exact hyr) (.int .i64 nv));replace HA:=qH (HA.out.grown (xh wr gy 1 (.int .i64 nv)) (fun ad e e2=>by injection e with e;subst e;injection e2 with e2;exact hya e2));replace hv:=zt hv (p:=⟨gy,1,none⟩) hyw (.int .i64 nv);obtain ⟨V1,hV1⟩:=zN (wr.setCell ⟨gy,1,none⟩ (.int .i64 nv));rw [←hV1] at HY hR HA hv ⊢;clear hV1 y1 yf;have k1:V1.cell? ⟨ga,1,none⟩=some (.string q):=zW HA.out (by rw [HLL.out];rfl);have y1:V1.cell? ⟨gy,1,none⟩=some (.int .i64 nv):=HY.out.cell 1;have yf:V1.frozen? ⟨gy,1,none⟩=false:=HY.out.frozen 1;go_upto_region 17 with fail;replace HY:=qH (HY.out.set_ 1 (.int .i64 (-nv)));replace hR:=qH (hR.out.far (p:=⟨gy,1,none⟩) (by simp only;exact hyr) (.int .i64 (-nv)));replace HA:=qH (HA.out.grown (xh V1 gy 1 (.int .i64 (-nv))) (fun ad e e2=>by injection e with e;subst e;injection e2 with e2;exact hya e2));replace hv:=zt hv (p:=⟨gy,1,none⟩) hyw (.int .i64 (-nv));obtain ⟨V2,hV2⟩:=zN (V1.setCell ⟨gy,1,none⟩ (.int .i64 (-nv)));rw [←hV2] at HY hR HA hv ⊢;clear hV2 y1 yf;obtain ⟨b7,hb7⟩:=zN (xg kk (-nv));have HON:=fun w=>oQ kk (-nv) w;rw [←hb7] at HON HRDH;clear hb7;go_wp2_with (refine yL gy HY.out Tryz.underlying126 ?_)
 refine qS (HON _) fun W9 hb=>?_;replace hv:=za hv hb;replace hR:=qH (hR.out.below hb);replace HY:=qH (HY.out.below hb);clear hb;cases b7
 · have HN:=qH (HRDH.out.trans (by simp:_=none));clear HRDH;go_wp2_with (refine yS gr #[.int .i64 0,.int .i64 0] hR.out ?_)
   refine bodyPost_ret (zk (P:=Tryz.prog) rfl _ _ gr 126 _ (0,0) _ rfl (setRow_heap _ _ _ _ _ _ hR.out) Tryz.underlying126 rfl (by kernel_rfl)) rfl ?_;exact RetT.mk (by rw [HN.out];rfl) (zg hv hge _)
 have HN:=qH (HRDH.out.trans (by simp:_=some (kk,(-nv))));go_wp2_with (first
  | (refine yL gy HY.out Tryz.underlying126 ?_)
  | (refine yS gr #[.int .i64 kk,.int .i64 (-nv)] hR.out ?_))
 refine bodyPost_ret (zk (P:=Tryz.prog) rfl _ _ gr 126 _ (0,0) _ rfl (setRow_heap _ _ _ _ _ _ hR.out) Tryz.underlying126 rfl (by kernel_rfl)) rfl ?_;exact RetT.mk (by rw [HN.out];rfl) (zg hv hge _)
end Go.Proofs.YtpiehlfffjhoaaaGreatDoor
