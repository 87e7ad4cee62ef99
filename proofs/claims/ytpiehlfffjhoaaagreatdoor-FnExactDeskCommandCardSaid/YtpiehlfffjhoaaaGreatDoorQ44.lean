/- Lemmas for the law on the console: the parts CrU,CrV. -/
import Derived.Test.YtpiehlfffjhoaaaGreatDoorQ40
namespace Go.Proofs.YtpiehlfffjhoaaaGreatDoor
open Go.RowKit Go.Proofs.Tryz
set_option maxRecDepth 100000
set_option maxHeartbeats 8000000
def kdP(p:ByteArray):Nat->Int
 | 0=>0
 | j + 1=>if chW ((j + 1:Nat):Int)=p then ((j + 1:Nat):Int) else kdP p j
theorem kG(p:ByteArray):kdP p 5=chK p:=by
 by_cases h1:p=chW 1
 ·subst h1;decide
 by_cases h2:p=chW 2
 ·subst h2;decide
 by_cases h3:p=chW 3
 ·subst h3;decide
 by_cases h4:p=chW 4
 ·subst h4;decide
 by_cases h5:p=chW 5
 ·subst h5;decide
 have e:chK p=0:=by unfold chK;simp only [h1,h2,h3,h4,h5,if_false]
 rw [e];have n1:¬ chW ((0 + 1:Nat):Int)=p:=fun h=>h1 h.symm;have n2:¬ chW ((1 + 1:Nat):Int)=p:=fun h=>h2 h.symm;have n3:¬ chW ((2 + 1:Nat):Int)=p:=fun h=>h3 h.symm;have n4:¬ chW ((3 + 1:Nat):Int)=p:=fun h=>h4 h.symm;have n5:¬ chW ((4 + 1:Nat):Int)=p:=fun h=>h5 h.symm;unfold kdP;rw [if_neg n5];unfold kdP;rw [if_neg n4];unfold kdP;rw [if_neg n3];unfold kdP;rw [if_neg n2];unfold kdP;rw [if_neg n1];rfl
theorem jx(p:ByteArray):∀ j,0<=kdP p j/\kdP p j<=j
 | 0=>by simp [kdP]
 | j + 1=>by
   have h:=jx p j;unfold kdP;split <;> omega
theorem zcf{q:ByteArray}(h:0 < q.size):q.data.toList=q[0] :: (q.extract 1 q.size).data.toList:=by
 have e0:q.data.toList=q[0] :: q.data.toList.drop 1:=by have:=yM (xU h);simpa using this
 rw [e0]
 congr 1
 rw [ByteArray.data_extract,Array.toList_extract,e0];simp [List.take_of_length_le]
theorem jW{s p q:ByteArray}(h:zl 32 s=[p,q])(h0:0 < q.size):wv s=if (decide (q[0].toNat=43\/q[0].toNat=45) && (okB (q.extract 1 q.size) && (inB (zq (q.extract 1 q.size)) 1 300 && xi (chK p) (if q[0].toNat=45 then -(zq (q.extract 1 q.size)) else zq (q.extract 1 q.size)))))=true then some (chK p,if q[0].toNat=45 then -(zq (q.extract 1 q.size)) else zq (q.extract 1 q.size)) else none:=by
 unfold wv;rw [h];simp only [];rw [zcf h0];simp only [];have e3:(q[0]=43\/q[0]=45) ↔ (q[0].toNat=43\/q[0].toNat=45):=by
  constructor
  ·rintro (h | h) <;> rw [h] <;> decide
  · rintro (h | h)
    ·exact .inl (UInt8.toNat_inj.1 h)
    ·exact .inr (UInt8.toNat_inj.1 h)
 have e4:q[0]=45 ↔ q[0].toNat=45:=⟨fun h=>by rw [h];rfl,fun h=>UInt8.toNat_inj.1 h⟩
 generalize q.extract 1 q.size=R;by_cases ho:okN R.data.toList=true
 · have en:xk R.data.toList=zq R:=(zbg ho).symm;have eb:okB R=true:=ho;have e5:decide (q[0]=43\/q[0]=45)=decide (q[0].toNat=43\/q[0].toNat=45):=by rw [decide_eq_decide];exact e3
   have e7:chN q[0] R.data.toList=if q[0].toNat=45 then -(zq R) else zq R:=by
    unfold chN;rw [en];simp only [e4]
   rw [e5,e7,en,ho,eb];simp only [Bool.and_true,Bool.true_and,Bool.and_assoc]
 · have hf:okN R.data.toList=false:=by simpa using ho
   have eb:okB R=false:=hf;rw [hf,eb];simp
theorem zbo{s p q:ByteArray}(h:zl 32 s=[p,q])(h2:q.size < 2):wv s=none:=by
 by_cases h0:q.size=0
 ·unfold wv;rw [h];simp only [];have hn:q.data.toList=[]:=List.eq_nil_of_length_eq_zero (by rw [zu];exact h0);rw [hn]
 · rw [jW h (by omega)];have hs:(q.extract 1 q.size).data.toList=[]:=by
    rw [ByteArray.data_extract,Array.toList_extract];refine List.eq_nil_of_length_eq_zero ?_;simp;omega
   have eb:okB (q.extract 1 q.size)=false:=by unfold okB;rw [hs];rfl
   rw [eb];simp
theorem nW(w:World):Calls prog 223 #[] w fun e w'=>e=.returned (.slice (some ⟨w.heap.size,0,none⟩) 5 5)/\w'=w.alloc (.cells #[Value.string ⟨#[108,101,110,103,116,104]⟩,Value.string ⟨#[98,97,108,108]⟩,Value.string ⟨#[105,110,115,116,101,112]⟩,Value.string ⟨#[104,101,101,108]⟩,Value.string ⟨#[112,105,116,99,104]⟩] 9):=by
 go_in;go_wp2;go_returns;exact ⟨rfl,rfl⟩
theorem ko(s:ByteArray)(hs:s.size<=4194304)(w:World):Calls prog 157 #[.string s] w (RetT (pg (wv s)) w):=by
 have HSP:=fun w=>vx 32 s hs w;have HSH:=qH (fun h=>dM (s:=s) h);have HLO:=qH (fun p q h=>zbo (s:=s) (p:=p) (q:=q) h);have HTW:=qH (fun p q h=>jW (s:=s) (p:=p) (q:=q) h);have HPZ:=qH (fun y (hy:y ∈ zl 32 s)=>Nat.le_trans (wU (c:=32) hy) hs);obtain ⟨L,hL⟩:=zN (zl 32 s);rw [<-hL] at HSP HSH HLO HTW HPZ;obtain ⟨n,hn⟩:=zN L.length;rw [<-hn] at HSP HSH;replace HSP:=qH HSP;have HLN:=qH hn.symm;obtain ⟨W,hW⟩:=zN (w.alloc (Obj.cells #[.int .i64 0,.int .i64 0] 126));obtain ⟨gr,hgr⟩:=zN w.heap.size;have hv:Below w.heap.size w W:=by rw [hW];exact zc (Below.refl _ _) _
 have hR:Hid (Blk W gr 126 #[.int .i64 0,.int .i64 0]):=qH (by rw [hW,hgr];exact Blk.new _ _ _);have hge:w.heap.size<=gr:=by omega
 have HW:=qH hW;have HG:=qH hgr;clear hW hgr hL hn;go_in;go_upto_region 1 with fail;rw [<-HW.out,<-HG.out];clear HW HG;go_wp2_with fail;refine (HSP.out _).mono ?_;rintro e W1 ⟨A,cw,rfl,ho,hb⟩;replace hv:=za hv hb;replace hR:=qH (hR.out.below hb);have HO:=qH ho;clear hb ho HSP;by_cases hm2:n=2
 case neg=>
  have hne:((n:Int) != 2)=true:=by rw [bne_iff_ne];omega
  have HN:=qH (HSH.out hm2);go_wp2_with (refine yS gr #[.int .i64 0,.int .i64 0] hR.out ?_)
  refine bodyPost_ret (zj (P:=prog) rfl _ _ gr 126 _ (0,0) _ rfl (setRow_heap _ _ _ _ _ _ hR.out) underlying126 rfl (by kernel_rfl)) rfl ?_;exact RetT.mk (by rw [HN.out];rfl) (zg hv hge _)
 subst hm2;obtain ⟨ga,rfl⟩:=xu HO.out (by omega);have HA:Hid (Arr W1 (some ⟨ga,0,none⟩) (zd zt L)):=qH (by rw [xo];exact Arr.own HO.out);have hlta:=yr HO.out ga rfl;obtain ⟨p,q,hL⟩:∃ p q,L=[p,q]:=by
  have h:=HLN.out;rcases L with _ | ⟨a,_ | ⟨b,_ | ⟨c,r⟩⟩⟩ <;> simp at h;exact ⟨a,b,rfl⟩
 have k0:W1.cell? ⟨ga,0,none⟩=some (.string p):=yh HA.out (by rw [hL];rfl);have k1:W1.cell? ⟨ga,1,none⟩=some (.string q):=yh HA.out (by rw [hL];rfl);have hqz:=HPZ.out q (by rw [hL];simp);by_cases hq2:q.size < 2
 · have hq3:(q.size:Int) < 2:=by omega
   have HN:=qH (HLO.out p q hL hq2);clear hL;go_wp2_with (refine yS gr #[.int .i64 0,.int .i64 0] hR.out ?_)
   refine bodyPost_ret (zj (P:=prog) rfl _ _ gr 126 _ (0,0) _ rfl (setRow_heap _ _ _ _ _ _ hR.out) underlying126 rfl (by kernel_rfl)) rfl ?_;exact RetT.mk (by rw [HN.out];rfl) (zg hv hge _)
 have hq3:¬ (q.size:Int) < 2:=by omega
 have hq0:0 < q.size:=by omega
 have HRD:=HTW.out p q hL hq0;have HLL:=qH hL;clear HTW HLO HSH hL;by_cases h43:q[0].toNat=43
 case pos=>
  have hc1:((q[0].toNat:Int) != 43)=false:=by rw [h43];rfl
  have hc2:((q[0].toNat:Int) == 45)=false:=by rw [h43];rfl
  have hc3:¬ (q[0].toNat:Int)=45:=by omega
  have h45:¬ q[0].toNat=45:=by omega
  rw [decide_eq_true (.inl h43),Bool.true_and,if_neg h45] at HRD;have HNM:=fun w=>xm (q.extract 1 q.size) (by have:(q.extract 1 q.size).size<=q.size:=(by simp);omega) w;change ∀ w,Calls prog 156 #[.string (q.extract 1 q.size)] w (RetT #[.int .i64 (zq (q.extract 1 q.size)),.bool (okB (q.extract 1 q.size))] w) at HNM;obtain ⟨nv,hnv⟩:=zN (zq (q.extract 1 q.size));obtain ⟨b9,hb9⟩:=zN (okB (q.extract 1 q.size));rw [<-hnv,<-hb9] at HNM HRD;replace HNM:=qH HNM;have HIN:=fun w=>xJ nv 1 300 w;have HIB:=qH (fun (h:inB nv 1 300=true)=>inB_iff.1 h);obtain ⟨b8,hb8⟩:=zN (inB nv 1 300);rw [<-hb8] at HIN HRD HIB;replace HIN:=qH HIN;have HRDH:=qH HRD;clear hnv hb9 hb8 HRD;go_wp2_with fail;refine qS (HNM.out _) fun W2 hb=>?_;have hz2:=hb.size;replace hv:=za hv hb;replace hR:=qH (hR.out.below hb);replace HA:=qH (HA.out.below hb);obtain ⟨gy,hgy⟩:=zN W2.heap.size;obtain ⟨W3,hW3⟩:=zN (W2.alloc (Obj.cells #[.int .i64 0,.int .i64 0] 126));have hb3:Below W2.heap.size W2 W3:=by rw [hW3];exact zc (Below.refl _ _) _
  have HY0:Hid (Blk W3 gy 126 #[.int .i64 0,.int .i64 0]):=qH (by rw [hW3,hgy];exact Blk.new _ _ _);have hyr:gr≠gy:=by have:=hR.out.lt;omega
  have hya:ga≠gy:=by omega
  have hyw:w.heap.size<=gy:=by rw [hgy];exact hv.size
  replace hv:=za hv hb3;replace hR:=qH (hR.out.below hb3);replace HA:=qH (HA.out.below hb3);have EW:=qH hW3;have EG:=qH hgy;clear hb k0 k1 HNM hW3 hgy hb3 hc1;go_upto_region 6 with (rw [<-EW.out,<-EG.out];refine yS gy #[.int .i64 0,.int .i64 0] HY0.out ?_)
  have hg4:=yl W3 gy #[Value.int .i64 0,Value.int .i64 0];have HY:Hid (Blk (World.setRow W3 gy #[Value.int .i64 0,Value.int .i64 0]) gy 126 #[.int .i64 (kdP p 0),.int .i64 0]):=qH (setRow_heap _ _ _ _ _ _ HY0.out);replace hR:=qH (hR.out.grown hg4 (fun e=>by injection e with e;exact hyr e));replace HA:=qH (HA.out.grown hg4 (fun ad e e2=>by injection e with e;subst e;injection e2 with e2;exact hya e2));replace hv:=zg hv hyw #[Value.int .i64 0,Value.int .i64 0];obtain ⟨W4,hW4⟩:=zN (World.setRow W3 gy #[Value.int .i64 0,Value.int .i64 0]);rw [<-hW4] at HY hR HA hv |-;clear hW4 EW EG HY0 hg4;go_wp2_with fail;refine qS (nW _) fun W5 hq5=>?_;obtain ⟨gn,hgn⟩:=zN W4.heap.size;have hb:Below W4.heap.size W4 W5:=by rw [hq5];exact zc (Below.refl _ _) _
  have HNA:Hid (Blk W5 gn 9 #[.string ⟨#[108,101,110,103,116,104]⟩,.string ⟨#[98,97,108,108]⟩,.string ⟨#[105,110,115,116,101,112]⟩,.string ⟨#[104,101,101,108]⟩,.string ⟨#[112,105,116,99,104]⟩]):=qH (by rw [hq5,hgn];exact Blk.new _ _ _);have hyn:gn≠gy:=by have:=HY.out.lt;omega
  rw [<-hgn];replace hv:=za hv hb;replace hR:=qH (hR.out.below hb);replace HA:=qH (HA.out.below hb);replace HY:=qH (HY.out.below hb);clear hq5 hgn hb;go_wp2_with fail
  go_loopw [9] (fun i wr=>∃ j:Nat,j<=5/\i=.int .i64 j/\Hid (Blk wr gy 126 #[.int .i64 (kdP p j),.int .i64 0])/\Hid (Blk wr gr 126 #[.int .i64 0,.int .i64 0])/\Hid (Arr wr (some ⟨ga,0,none⟩) (zd zt L))/\Hid (Blk wr gn 9 #[.string ⟨#[108,101,110,103,116,104]⟩,.string ⟨#[98,97,108,108]⟩,.string ⟨#[105,110,115,116,101,112]⟩,.string ⟨#[104,101,101,108]⟩,.string ⟨#[112,105,116,99,104]⟩])/\Below w.heap.size w wr) (fun i _=>5 - (intOf i).toNat)
  case atStart=>exact ⟨0,by omega,rfl,HY,hR,HA,HNA,hv⟩
  case round=>
  clear HY hR HA HNA hv;obtain ⟨j,hj,rfl,HY,hR,HA,HNA,hv⟩:=hrel;have hj0:(0:Int)<=(j:Int):=by omega
  by_cases hlt:j < 5
  case pos=>
   have hj1:(j:Int) < 5:=by omega
   have k0:wr.cell? ⟨ga,0,none⟩=some (.string p):=yh HA.out (by rw [HLL.out];rfl);have kn:wr.cell? ⟨gn,j,none⟩=some (.string (chW ((j + 1:Nat):Int))):=by
    rw [HNA.out.cell j];rcases (show j=0\/j=1\/j=2\/j=3\/j=4 by omega) with rfl | rfl | rfl | rfl | rfl <;> rfl
   have hbb:((chW ((j + 1:Nat):Int)).toList == p.toList)=decide (chW ((j + 1:Nat):Int)=p):=yD _ _;have y0:=yc0 HY.out;have yf:wr.frozen? ⟨gy,0,none⟩=false:=HY.out.frozen 0;have HKD:=qH (show kdP p (j + 1)=if chW ((j + 1:Nat):Int)=p then ((j + 1:Nat):Int) else kdP p j from rfl);have hwj:IntKind.i64.wrap ((j:Int) + 1)=((j + 1:Nat):Int):=by
    have h:=IntWalk.i64_in ((j:Int) + 1) (by omega);omega
   obtain ⟨nm,hnm⟩:=zN (chW ((j + 1:Nat):Int));rw [<-hnm] at kn hbb HKD;clear hnm;by_cases hpe:nm=p
   · rw [decide_eq_true hpe] at hbb;have HK2:=qH (HKD.out.trans (if_pos hpe));clear hpe;go_wp2_with fail
     go_region
     all_goals go_wp2_with fail
     all_goals exact ⟨⟨j + 1,by omega,by go_num,qH (by rw [HK2.out];exact (HY.out.below (Below.refl _ _).drew).set_ 0 _),qH ((hR.out.below (Below.refl _ _).drew).far (p:=⟨gy,0,none⟩) (by simp only;exact hyr) _),qH ((HA.out.below (Below.refl _ _).drew).grown (xj _ gy 0 _) (fun ad e e2=>by injection e with e;subst e;injection e2 with e2;exact hya e2)),qH ((HNA.out.below (Below.refl _ _).drew).far (p:=⟨gy,0,none⟩) (by simp only;exact hyn) _),zk hv.drew (p:=⟨gy,0,none⟩) hyw _⟩,by simp [intOf];omega⟩
   · rw [decide_eq_false hpe] at hbb;have HK2:=qH (HKD.out.trans (if_neg hpe));clear hpe;go_wp2_with fail
     go_region
     all_goals go_wp2_with fail
     all_goals exact ⟨⟨j + 1,by omega,by go_num,qH (by rw [HK2.out];exact HY.out.below (Below.refl _ _).drew),qH (hR.out.below (Below.refl _ _).drew),qH (HA.out.below (Below.refl _ _).drew),qH (HNA.out.below (Below.refl _ _).drew),hv.drew⟩,by simp [intOf];omega⟩
  case neg=>
  have hj1:¬ (j:Int) < 5:=by omega
  obtain rfl:j=5:=by omega
  rw [kG] at HY;have HKB:=jx p 5;rw [kG] at HKB;obtain ⟨kk,hkk⟩:=zN (chK p);rw [<-hkk] at HY HRDH HKB;clear hkk HNA hj hj0 hlt;cases b9
  · have HN:=qH (HRDH.out.trans (by simp:_=none));clear HRDH;go_wp2_with (refine yS gr #[.int .i64 0,.int .i64 0] hR.out ?_)
    refine bodyPost_ret (zj (P:=prog) rfl _ _ gr 126 _ (0,0) _ rfl (setRow_heap _ _ _ _ _ _ hR.out) underlying126 rfl (by kernel_rfl)) rfl ?_;exact RetT.mk (by rw [HN.out];rfl) (zg hv hge _)
  go_wp2_with fail;refine qR (HIN.out _) ?_;clear HIN;cases b8
  · have HN:=qH (HRDH.out.trans (by simp:_=none));clear HRDH;go_wp2_with (refine yS gr #[.int .i64 0,.int .i64 0] hR.out ?_)
    refine bodyPost_ret (zj (P:=prog) rfl _ _ gr 126 _ (0,0) _ rfl (setRow_heap _ _ _ _ _ _ hR.out) underlying126 rfl (by kernel_rfl)) rfl ?_;exact RetT.mk (by rw [HN.out];rfl) (zg hv hge _)
  obtain ⟨hn0,hn1⟩:=HIB.out rfl;have hwn:IntKind.i64.wrap (-nv) = -nv:=IntWalk.i64_in _ (by omega);have y1:=yc1 HY.out;have yf:wr.frozen? ⟨gy,1,none⟩=false:=HY.out.frozen 1;go_upto_region 15 with fail;replace HY:=qH (HY.out.set_ 1 (.int .i64 nv));replace hR:=qH (hR.out.far (p:=⟨gy,1,none⟩) (by simp only;exact hyr) (.int .i64 nv));replace HA:=qH (HA.out.grown (xj wr gy 1 (.int .i64 nv)) (fun ad e e2=>by injection e with e;subst e;injection e2 with e2;exact hya e2));replace hv:=zk hv (p:=⟨gy,1,none⟩) hyw (.int .i64 nv);obtain ⟨V1,hV1⟩:=zN (wr.setCell ⟨gy,1,none⟩ (.int .i64 nv));rw [<-hV1] at HY hR HA hv |-;clear hV1 y1 yf;have k1:V1.cell? ⟨ga,1,none⟩=some (.string q):=yh HA.out (by rw [HLL.out];rfl);obtain ⟨b7,hb7⟩:=zN (xi kk nv);have HON:=fun w=>ny kk nv w;rw [<-hb7] at HON HRDH;clear hb7;go_wp2_with (refine yL gy HY.out underlying126 ?_)
  refine qS (HON _) fun W9 hb=>?_;replace hv:=za hv hb;replace hR:=qH (hR.out.below hb);replace HY:=qH (HY.out.below hb);clear hb;cases b7
  · have HN:=qH (HRDH.out.trans (by simp:_=none));clear HRDH;go_wp2_with (refine yS gr #[.int .i64 0,.int .i64 0] hR.out ?_)
    refine bodyPost_ret (zj (P:=prog) rfl _ _ gr 126 _ (0,0) _ rfl (setRow_heap _ _ _ _ _ _ hR.out) underlying126 rfl (by kernel_rfl)) rfl ?_;exact RetT.mk (by rw [HN.out];rfl) (zg hv hge _)
  have HN:=qH (HRDH.out.trans (by simp:_=some (kk,nv)));go_wp2_with (first
   | (refine yL gy HY.out underlying126 ?_)
   | (refine yS gr #[.int .i64 kk,.int .i64 nv] hR.out ?_))
  refine bodyPost_ret (zj (P:=prog) rfl _ _ gr 126 _ (0,0) _ rfl (setRow_heap _ _ _ _ _ _ hR.out) underlying126 rfl (by kernel_rfl)) rfl ?_;exact RetT.mk (by rw [HN.out];rfl) (zg hv hge _)
 by_cases h45:q[0].toNat=45
 case neg=>
  have hc1:((q[0].toNat:Int) != 43)=true:=by rw [bne_iff_ne];omega
  have hc2:((q[0].toNat:Int) != 45)=true:=by rw [bne_iff_ne];omega
  have HN:=qH (HRD.trans (by rw [decide_eq_false (fun h=>h.elim h43 h45),Bool.false_and,if_neg (by decide)]:_=none));clear HRD;go_wp2_with (refine yS gr #[.int .i64 0,.int .i64 0] hR.out ?_)
  refine bodyPost_ret (zj (P:=prog) rfl _ _ gr 126 _ (0,0) _ rfl (setRow_heap _ _ _ _ _ _ hR.out) underlying126 rfl (by kernel_rfl)) rfl ?_;exact RetT.mk (by rw [HN.out];rfl) (zg hv hge _)
 have hc1:((q[0].toNat:Int) != 43)=true:=by rw [bne_iff_ne];omega
 have hc4:((q[0].toNat:Int) != 45)=false:=by rw [h45];rfl
 have hc2:((q[0].toNat:Int) == 45)=true:=by rw [h45];rfl
 have hc3:(q[0].toNat:Int)=45:=by omega
 rw [decide_eq_true (.inr h45),Bool.true_and,if_pos h45] at HRD;have HNM:=fun w=>xm (q.extract 1 q.size) (by have:(q.extract 1 q.size).size<=q.size:=(by simp);omega) w;change ∀ w,Calls prog 156 #[.string (q.extract 1 q.size)] w (RetT #[.int .i64 (zq (q.extract 1 q.size)),.bool (okB (q.extract 1 q.size))] w) at HNM;obtain ⟨nv,hnv⟩:=zN (zq (q.extract 1 q.size));obtain ⟨b9,hb9⟩:=zN (okB (q.extract 1 q.size));rw [<-hnv,<-hb9] at HNM HRD;replace HNM:=qH HNM;have HIN:=fun w=>xJ nv 1 300 w;have HIB:=qH (fun (h:inB nv 1 300=true)=>inB_iff.1 h);obtain ⟨b8,hb8⟩:=zN (inB nv 1 300);rw [<-hb8] at HIN HRD HIB;replace HIN:=qH HIN;have HRDH:=qH HRD;clear hnv hb9 hb8 HRD;go_wp2_with fail;refine qS (HNM.out _) fun W2 hb=>?_;have hz2:=hb.size;replace hv:=za hv hb;replace hR:=qH (hR.out.below hb);replace HA:=qH (HA.out.below hb);obtain ⟨gy,hgy⟩:=zN W2.heap.size;obtain ⟨W3,hW3⟩:=zN (W2.alloc (Obj.cells #[.int .i64 0,.int .i64 0] 126));have hb3:Below W2.heap.size W2 W3:=by rw [hW3];exact zc (Below.refl _ _) _
 have HY0:Hid (Blk W3 gy 126 #[.int .i64 0,.int .i64 0]):=qH (by rw [hW3,hgy];exact Blk.new _ _ _);have hyr:gr≠gy:=by have:=hR.out.lt;omega
 have hya:ga≠gy:=by omega
 have hyw:w.heap.size<=gy:=by rw [hgy];exact hv.size
 replace hv:=za hv hb3;replace hR:=qH (hR.out.below hb3);replace HA:=qH (HA.out.below hb3);have EW:=qH hW3;have EG:=qH hgy;clear hb k0 k1 HNM hW3 hgy hb3 hc1;go_upto_region 6 with (rw [<-EW.out,<-EG.out];refine yS gy #[.int .i64 0,.int .i64 0] HY0.out ?_)
 have hg4:=yl W3 gy #[Value.int .i64 0,Value.int .i64 0];have HY:Hid (Blk (World.setRow W3 gy #[Value.int .i64 0,Value.int .i64 0]) gy 126 #[.int .i64 (kdP p 0),.int .i64 0]):=qH (setRow_heap _ _ _ _ _ _ HY0.out);replace hR:=qH (hR.out.grown hg4 (fun e=>by injection e with e;exact hyr e));replace HA:=qH (HA.out.grown hg4 (fun ad e e2=>by injection e with e;subst e;injection e2 with e2;exact hya e2));replace hv:=zg hv hyw #[Value.int .i64 0,Value.int .i64 0];obtain ⟨W4,hW4⟩:=zN (World.setRow W3 gy #[Value.int .i64 0,Value.int .i64 0]);rw [<-hW4] at HY hR HA hv |-;clear hW4 EW EG HY0 hg4;go_wp2_with fail;refine qS (nW _) fun W5 hq5=>?_;obtain ⟨gn,hgn⟩:=zN W4.heap.size;have hb:Below W4.heap.size W4 W5:=by rw [hq5];exact zc (Below.refl _ _) _
 have HNA:Hid (Blk W5 gn 9 #[.string ⟨#[108,101,110,103,116,104]⟩,.string ⟨#[98,97,108,108]⟩,.string ⟨#[105,110,115,116,101,112]⟩,.string ⟨#[104,101,101,108]⟩,.string ⟨#[112,105,116,99,104]⟩]):=qH (by rw [hq5,hgn];exact Blk.new _ _ _);have hyn:gn≠gy:=by have:=HY.out.lt;omega
 rw [<-hgn];replace hv:=za hv hb;replace hR:=qH (hR.out.below hb);replace HA:=qH (HA.out.below hb);replace HY:=qH (HY.out.below hb);clear hq5 hgn hb;go_wp2_with fail
 go_loopw [9] (fun i wr=>∃ j:Nat,j<=5/\i=.int .i64 j/\Hid (Blk wr gy 126 #[.int .i64 (kdP p j),.int .i64 0])/\Hid (Blk wr gr 126 #[.int .i64 0,.int .i64 0])/\Hid (Arr wr (some ⟨ga,0,none⟩) (zd zt L))/\Hid (Blk wr gn 9 #[.string ⟨#[108,101,110,103,116,104]⟩,.string ⟨#[98,97,108,108]⟩,.string ⟨#[105,110,115,116,101,112]⟩,.string ⟨#[104,101,101,108]⟩,.string ⟨#[112,105,116,99,104]⟩])/\Below w.heap.size w wr) (fun i _=>5 - (intOf i).toNat)
 case atStart=>exact ⟨0,by omega,rfl,HY,hR,HA,HNA,hv⟩
 case round=>
 clear HY hR HA HNA hv;obtain ⟨j,hj,rfl,HY,hR,HA,HNA,hv⟩:=hrel;have hj0:(0:Int)<=(j:Int):=by omega
 by_cases hlt:j < 5
 case pos=>
  have hj1:(j:Int) < 5:=by omega
  have k0:wr.cell? ⟨ga,0,none⟩=some (.string p):=yh HA.out (by rw [HLL.out];rfl);have kn:wr.cell? ⟨gn,j,none⟩=some (.string (chW ((j + 1:Nat):Int))):=by
   rw [HNA.out.cell j];rcases (show j=0\/j=1\/j=2\/j=3\/j=4 by omega) with rfl | rfl | rfl | rfl | rfl <;> rfl
  have hbb:((chW ((j + 1:Nat):Int)).toList == p.toList)=decide (chW ((j + 1:Nat):Int)=p):=yD _ _;have y0:=yc0 HY.out;have yf:wr.frozen? ⟨gy,0,none⟩=false:=HY.out.frozen 0;have HKD:=qH (show kdP p (j + 1)=if chW ((j + 1:Nat):Int)=p then ((j + 1:Nat):Int) else kdP p j from rfl);have hwj:IntKind.i64.wrap ((j:Int) + 1)=((j + 1:Nat):Int):=by
   have h:=IntWalk.i64_in ((j:Int) + 1) (by omega);omega
  obtain ⟨nm,hnm⟩:=zN (chW ((j + 1:Nat):Int));rw [<-hnm] at kn hbb HKD;clear hnm;by_cases hpe:nm=p
  · rw [decide_eq_true hpe] at hbb;have HK2:=qH (HKD.out.trans (if_pos hpe));clear hpe;go_wp2_with fail
    go_region
    all_goals go_wp2_with fail
    all_goals exact ⟨⟨j + 1,by omega,by go_num,qH (by rw [HK2.out];exact (HY.out.below (Below.refl _ _).drew).set_ 0 _),qH ((hR.out.below (Below.refl _ _).drew).far (p:=⟨gy,0,none⟩) (by simp only;exact hyr) _),qH ((HA.out.below (Below.refl _ _).drew).grown (xj _ gy 0 _) (fun ad e e2=>by injection e with e;subst e;injection e2 with e2;exact hya e2)),qH ((HNA.out.below (Below.refl _ _).drew).far (p:=⟨gy,0,none⟩) (by simp only;exact hyn) _),zk hv.drew (p:=⟨gy,0,none⟩) hyw _⟩,by simp [intOf];omega⟩
  · rw [decide_eq_false hpe] at hbb;have HK2:=qH (HKD.out.trans (if_neg hpe));clear hpe;go_wp2_with fail
    go_region
    all_goals go_wp2_with fail
    all_goals exact ⟨⟨j + 1,by omega,by go_num,qH (by rw [HK2.out];exact HY.out.below (Below.refl _ _).drew),qH (hR.out.below (Below.refl _ _).drew),qH (HA.out.below (Below.refl _ _).drew),qH (HNA.out.below (Below.refl _ _).drew),hv.drew⟩,by simp [intOf];omega⟩
 case neg=>
 have hj1:¬ (j:Int) < 5:=by omega
 obtain rfl:j=5:=by omega
 rw [kG] at HY;have HKB:=jx p 5;rw [kG] at HKB;obtain ⟨kk,hkk⟩:=zN (chK p);rw [<-hkk] at HY HRDH HKB;clear hkk HNA hj hj0 hlt;cases b9
 · have HN:=qH (HRDH.out.trans (by simp:_=none));clear HRDH;go_wp2_with (refine yS gr #[.int .i64 0,.int .i64 0] hR.out ?_)
   refine bodyPost_ret (zj (P:=prog) rfl _ _ gr 126 _ (0,0) _ rfl (setRow_heap _ _ _ _ _ _ hR.out) underlying126 rfl (by kernel_rfl)) rfl ?_;exact RetT.mk (by rw [HN.out];rfl) (zg hv hge _)
 go_wp2_with fail;refine qR (HIN.out _) ?_;clear HIN;cases b8
 · have HN:=qH (HRDH.out.trans (by simp:_=none));clear HRDH;go_wp2_with (refine yS gr #[.int .i64 0,.int .i64 0] hR.out ?_)
   refine bodyPost_ret (zj (P:=prog) rfl _ _ gr 126 _ (0,0) _ rfl (setRow_heap _ _ _ _ _ _ hR.out) underlying126 rfl (by kernel_rfl)) rfl ?_;exact RetT.mk (by rw [HN.out];rfl) (zg hv hge _)
 obtain ⟨hn0,hn1⟩:=HIB.out rfl;have hwn:IntKind.i64.wrap (-nv) = -nv:=IntWalk.i64_in _ (by omega);have y1:=yc1 HY.out;have yf:wr.frozen? ⟨gy,1,none⟩=false:=HY.out.frozen 1;go_upto_region 15 with fail;replace HY:=qH (HY.out.set_ 1 (.int .i64 nv));replace hR:=qH (hR.out.far (p:=⟨gy,1,none⟩) (by simp only;exact hyr) (.int .i64 nv));replace HA:=qH (HA.out.grown (xj wr gy 1 (.int .i64 nv)) (fun ad e e2=>by injection e with e;subst e;injection e2 with e2;exact hya e2));replace hv:=zk hv (p:=⟨gy,1,none⟩) hyw (.int .i64 nv);obtain ⟨V1,hV1⟩:=zN (wr.setCell ⟨gy,1,none⟩ (.int .i64 nv));rw [<-hV1] at HY hR HA hv |-;clear hV1 y1 yf;have k1:V1.cell? ⟨ga,1,none⟩=some (.string q):=yh HA.out (by rw [HLL.out];rfl);have y1:=yc1 HY.out;have yf:V1.frozen? ⟨gy,1,none⟩=false:=HY.out.frozen 1;go_upto_region 17 with fail;replace HY:=qH (HY.out.set_ 1 (.int .i64 (-nv)));replace hR:=qH (hR.out.far (p:=⟨gy,1,none⟩) (by simp only;exact hyr) (.int .i64 (-nv)));replace HA:=qH (HA.out.grown (xj V1 gy 1 (.int .i64 (-nv))) (fun ad e e2=>by injection e with e;subst e;injection e2 with e2;exact hya e2));replace hv:=zk hv (p:=⟨gy,1,none⟩) hyw (.int .i64 (-nv));obtain ⟨V2,hV2⟩:=zN (V1.setCell ⟨gy,1,none⟩ (.int .i64 (-nv)));rw [<-hV2] at HY hR HA hv |-;clear hV2 y1 yf;obtain ⟨b7,hb7⟩:=zN (xi kk (-nv));have HON:=fun w=>ny kk (-nv) w;rw [<-hb7] at HON HRDH;clear hb7;go_wp2_with (refine yL gy HY.out underlying126 ?_)
 refine qS (HON _) fun W9 hb=>?_;replace hv:=za hv hb;replace hR:=qH (hR.out.below hb);replace HY:=qH (HY.out.below hb);clear hb;cases b7
 · have HN:=qH (HRDH.out.trans (by simp:_=none));clear HRDH;go_wp2_with (refine yS gr #[.int .i64 0,.int .i64 0] hR.out ?_)
   refine bodyPost_ret (zj (P:=prog) rfl _ _ gr 126 _ (0,0) _ rfl (setRow_heap _ _ _ _ _ _ hR.out) underlying126 rfl (by kernel_rfl)) rfl ?_;exact RetT.mk (by rw [HN.out];rfl) (zg hv hge _)
 have HN:=qH (HRDH.out.trans (by simp:_=some (kk,(-nv))));go_wp2_with (first
  | (refine yL gy HY.out underlying126 ?_)
  | (refine yS gr #[.int .i64 kk,.int .i64 (-nv)] hR.out ?_))
 refine bodyPost_ret (zj (P:=prog) rfl _ _ gr 126 _ (0,0) _ rfl (setRow_heap _ _ _ _ _ _ hR.out) underlying126 rfl (by kernel_rfl)) rfl ?_;exact RetT.mk (by rw [HN.out];rfl) (zg hv hge _)
theorem zaN(x:Last)(k a:Int)(h:xi k a=true)(hx:zy x=true):∃ (q:Nat) (mv:Int),k=((q + 1:Nat):Int)/\q < 5/\(∀ (V:World) (gn:Nat),Blk V gn 2 #[.int .i64 x.length,.int .i64 x.b,.int .i64 x.i,.int .i64 x.h,.int .i64 x.p]->V.cell? ⟨gn,q,none⟩=some (.int .i64 mv)/\V.frozen? ⟨gn,q,none⟩=false/\Blk (V.setCell ⟨gn,q,none⟩ (.int .i64 (mv + a))) gn 2 #[Value.int .i64 (xR x k a).length,Value.int .i64 (xR x k a).b,Value.int .i64 (xR x k a).i,Value.int .i64 (xR x k a).h,Value.int .i64 (xR x k a).p])/\0<=mv/\mv<=5000:=by
 obtain ⟨h1,h5,h0,ha,hb⟩:=uX h;obtain ⟨⟨l1,l2⟩,⟨m1,m2⟩,⟨n1,n2⟩,⟨o1,o2⟩,p1,p2⟩:=uZ hx;rcases (show k=1\/k=2\/k=3\/k=4\/k=5 by omega) with rfl | rfl | rfl | rfl | rfl
 ·exact ⟨0,x.length,rfl,by omega,fun V gn hB=>⟨hB.cell 0,hB.frozen 0,hB.set_ 0 _⟩,by omega,by omega⟩
 ·exact ⟨1,x.b,rfl,by omega,fun V gn hB=>⟨hB.cell 1,hB.frozen 1,hB.set_ 1 _⟩,by omega,by omega⟩
 ·exact ⟨2,x.i,rfl,by omega,fun V gn hB=>⟨hB.cell 2,hB.frozen 2,hB.set_ 2 _⟩,by omega,by omega⟩
 ·exact ⟨3,x.h,rfl,by omega,fun V gn hB=>⟨hB.cell 3,hB.frozen 3,hB.set_ 3 _⟩,by omega,by omega⟩
 ·exact ⟨4,x.p,rfl,by omega,fun V gn hB=>⟨hB.cell 4,hB.frozen 4,hB.set_ 4 _⟩,by omega,by omega⟩
theorem nb(x:Last)(k a:Int)(gc:Nat)(HX:Hid (zy x=true))(HC:Hid (xi k a=true))(w:World)(hB:Blk w gc 126 #[.int .i64 k,.int .i64 a]) :
 Calls prog 159 #[.agg #[.string x.name,.int .i64 x.length,.int .i64 x.b,.int .i64 x.i,.int .i64 x.h,.int .i64 x.p],.slice (some ⟨gc,0,none⟩) 1 1] w (RetT (kH (xZ x k a)) w):=by
 have H1:=fun w=>tT x (Nat.le_trans (yH HX.out) (by omega)) w;rw [HX.out] at H1;replace H1:=qH H1;have H2:=fun w h=>za9 k a gc w h;rw [HC.out] at H2;replace H2:=qH H2;have H5:=qH (fun w=>bQ x w);obtain ⟨q,mv,hkq,hq5,hset,hm0,hm1⟩:=zaN x k a HC.out HX.out;have HKQ:=qH hkq;clear hkq;have hab:=uX HC.out;have HSET:=qH hset;have hxc:zy x=true/\xi k a=true:=⟨HX.out,HC.out⟩
 have HTI:=qH (fun h=>nL (x:=x) (k:=k) (a:=a) (by rw [HX.out,HC.out];rfl) h);have HOK:=qH (fun h=>fA (x:=x) (k:=k) (a:=a) (by rw [HX.out,HC.out];rfl) h);have hnz:(xR x k a).name=x.name:=pG x k a;have HCY:=fun w=>tT (xR x k a) (by rw [hnz];exact Nat.le_trans (yH HX.out) (by omega)) w;obtain ⟨by_,hby⟩:=zN (zy (xR x k a));rw [<-hby] at HCY HTI HOK;obtain ⟨y,hy⟩:=zN (xR x k a);have HSY:=qH (fun V gn (h:Blk V gn 2 #[.int .i64 (xR x k a).length,.int .i64 (xR x k a).b,.int .i64 (xR x k a).i,.int .i64 (xR x k a).h,.int .i64 (xR x k a).p])=>(show Blk V gn 2 (#[Value.int .i64 y.length,Value.int .i64 y.b,Value.int .i64 y.i,Value.int .i64 y.h,Value.int .i64 y.p]) by rw [hy];exact h));rw [<-hy] at HCY HOK hnz;have HNZ:=qH hnz;replace HCY:=qH HCY;clear hy hby hset hxc hnz;obtain ⟨W,hW⟩:=zN ((w.alloc (Obj.cells #[.string x.name,.int .i64 x.length,.int .i64 x.b,.int .i64 x.i,.int .i64 x.h,.int .i64 x.p] 100)).alloc (Obj.cells #[.string ⟨#[]⟩,.int .i64 0,.int .i64 0,.int .i64 0,.int .i64 0,.int .i64 0] 100));obtain ⟨gx,hgx⟩:=zN w.heap.size;obtain ⟨gr,hgr⟩:=zN (w.heap.size + 1);have hv:Below w.heap.size w W:=by rw [hW];exact zc (zc (Below.refl _ _) _) _
 have hX:Hid (Blk W gx 100 #[.string x.name,.int .i64 x.length,.int .i64 x.b,.int .i64 x.i,.int .i64 x.h,.int .i64 x.p]):=qH (by rw [hW,hgx];exact (Blk.new _ _ _).alloc _);have hR:Hid (Blk W gr 100 #[.string ⟨#[]⟩,.int .i64 0,.int .i64 0,.int .i64 0,.int .i64 0,.int .i64 0]):=qH (by
  have h:=Blk.new (w.alloc (Obj.cells #[.string x.name,.int .i64 x.length,.int .i64 x.b,.int .i64 x.i,.int .i64 x.h,.int .i64 x.p] 100)) 100 #[Value.string ⟨#[]⟩,Value.int .i64 0,Value.int .i64 0,Value.int .i64 0,Value.int .i64 0,Value.int .i64 0];rw [World.size_alloc] at h;rw [hW,hgr];exact h)
 have hge:w.heap.size<=gr:=by omega
 have hgxw:w.heap.size<=gx:=by omega
 have hxr:gx≠gr:=by omega
 have hcx:gc < w.heap.size:=hB.lt;have HCB:=qH hB;have HW:=qH hW;have HG1:=qH hgx;have HG2:=qH hgr;clear hW hgx hgr hB;go_in;go_upto_region 1 with fail;rw [<-HW.out,<-HG2.out,<-HG1.out];clear HW HG1 HG2;go_wp2_with (refine yL gx hX.out underlying100 ?_)
 refine qS (H1.out _) fun W1 hb=>?_;replace hv:=za hv hb;replace hX:=qH (hX.out.below hb);replace hR:=qH (hR.out.below hb);clear hb;go_wp2_with fail;refine qS (H2.out _ (HCB.out.below hv)) fun W2 hb=>?_;replace hv:=za hv hb;replace hX:=qH (hX.out.below hb);replace hR:=qH (hR.out.below hb);clear hb;go_wp2_with (refine yL gx hX.out underlying100 ?_)
 refine (H5.out _).mono ?_;rintro e W3 ⟨gn,rfl,hgn,hN,hb⟩;have hgnw:w.heap.size<=gn:=Nat.le_trans hv.size hgn;have hnx:gx≠gn:=by have:=hX.out.lt;omega
 have hnr:gr≠gn:=by have:=hR.out.lt;omega
 have hnc:gc≠gn:=by omega
 replace hv:=za hv hb;replace hX:=qH (hX.out.below hb);replace hR:=qH (hR.out.below hb);replace HCB:=qH (HCB.out.below hv);have HN3:=qH hN;clear hN hb H1 H2 H5 hgn;go_wp2_with fail
 go_loopw [5,7] (fun rv iv wr=>∃ (j:Nat) (z:Last),rv=.int .i64 0/\j<=1/\iv=.int .i64 j/\Hid (j=0->z=x)/\Hid (j=1->z=y/\by_=true)/\Hid (Blk wr gx 100 #[.string z.name,.int .i64 z.length,.int .i64 z.b,.int .i64 z.i,.int .i64 z.h,.int .i64 z.p])/\Hid (Blk wr gn 2 #[.int .i64 z.length,.int .i64 z.b,.int .i64 z.i,.int .i64 z.h,.int .i64 z.p])/\Hid (Blk wr gr 100 #[.string ⟨#[]⟩,.int .i64 0,.int .i64 0,.int .i64 0,.int .i64 0,.int .i64 0])/\Hid (Blk wr gc 126 #[.int .i64 k,.int .i64 a])/\Below w.heap.size w wr) (fun _ i _=>1 - (intOf i).toNat)
 case atStart=>exact ⟨0,x,rfl,by omega,rfl,qH (fun _=>rfl),qH (by omega),hX,HN3,hR,HCB,hv⟩
 case round=>
 clear hX HN3 hR HCB hv;obtain ⟨j,z,rfl,hj,rfl,hz0,hz1,hX,hN,hR,HCB,hv⟩:=hrel;by_cases h0:j=0
 case neg=>
  obtain rfl:j=1:=by omega
  obtain ⟨hzy,hb9⟩:=hz1.out rfl;have HN:=qH (HOK.out hb9);rw [<-hzy] at HN;clear hzy hb9 h0 hj;go_wp2_with (first
   | (refine yL gx hX.out underlying100 ?_)
   | (refine yS gr #[.string z.name,.int .i64 z.length,.int .i64 z.b,.int .i64 z.i,.int .i64 z.h,.int .i64 z.p] hR.out ?_))
  refine bodyPost_ret (zj (P:=prog) rfl _ _ gr 100 _ (0,0) _ rfl (setRow_heap _ _ _ _ _ _ hR.out) underlying100 rfl (by kernel_rfl)) rfl ?_;exact RetT.mk (by rw [HN.out];rfl) (zg hv hge _)
 subst h0;obtain rfl:=hz0.out rfl;have c0:=yc0 HCB.out;have c1:=yc1 HCB.out;obtain ⟨m0,mf,hnext⟩:=HSET.out wr gn hN.out;have HNX:=qH hnext;have hwk:IntKind.i64.wrap (k - 1)=(q:Int):=by
  have h:=IntWalk.i64_in (k - 1) (by omega);have h2:=HKQ.out;omega
 have hwm:IntKind.i64.wrap (mv + a)=mv + a:=IntWalk.i64_in _ (by omega);have hq0:(0:Int)<=(q:Int):=by omega
 have hq5':(q:Int) < 5:=by omega
 have hqw:IntKind.i64.wrap (q:Int)=(q:Int):=IntWalk.i64_in _ (by omega);clear hnext hz0 hz1;go_upto_region 7 with fail;refine zH (fun w'=>Blk w' gc 126 #[Value.int .i64 k,Value.int .i64 a]/\Below w.heap.size w w') ?_ (fun hHeld=>?_)
 ·exact ⟨HCB.out.below (Below.refl _ _).drew,hv.drew⟩
 refine zU 0 25 ?_;refine zU 1 26 ?_;refine zU 2 27 ?_;refine zU 3 28 ?_;refine zU 4 29 ?_;refine zT 5 30 rfl (fun w hSw=>by
  have x_c0:=yc0 hSw.1;have x_c1:=yc1 hSw.1;go_simp;try with_reducible rfl) ?_
 refine zU 6 31 ?_;refine zU 7 32 ?_;refine zU 9 34 ?_;refine zU 10 35 ?_;refine zU 11 36 ?_;refine zU 12 37 ?_;refine zT 13 38 rfl (fun w hSw=>by
  have x_c0:=yc0 hSw.1;have x_c1:=yc1 hSw.1;go_simp;try with_reducible rfl) ?_
 refine zR 8 (some 33) rfl (fun K hK=>?_);have m9:World.cell? wr.drew ⟨gn,q,none⟩=some (.int .i64 mv):=m0;have mf9:World.frozen? wr.drew ⟨gn,q,none⟩=false:=mf;go_simp;clear m9 mf9;go_split_ands
 skip
 refine zK hK ⟨HCB.out.below (Below.refl _ _).drew,hv.drew⟩ (fun hHeld=>?_);clear hK K;refine zU 14 39 ?_;refine zU 15 40 ?_;refine zR 16 none rfl (fun K hK=>?_);have m9:World.cell? wr.drew ⟨gn,q,none⟩=some (.int .i64 mv):=m0;have mf9:World.frozen? wr.drew ⟨gn,q,none⟩=false:=mf;go_simp;clear m9 mf9;go_split_ands;have hY9:=(HSET.out wr.drew gn (hN.out.below (Below.refl _ _).drew)).2.2;have hN9:=HSY.out _ _ hY9;have hX9:=(hX.out.below (Below.refl _ _).drew).far (p:=⟨gn,q,none⟩) (by simp only;exact hnx) (.int .i64 (mv + a));have hR9:=(hR.out.below (Below.refl _ _).drew).far (p:=⟨gn,q,none⟩) (by simp only;exact hnr) (.int .i64 (mv + a));have hC9:=(HCB.out.below (Below.refl _ _).drew).far (p:=⟨gn,q,none⟩) (by simp only;exact hnc) (.int .i64 (mv + a));have hv9:=zk hv.drew (p:=⟨gn,q,none⟩) hgnw (.int .i64 (mv + a));have eW:World.setCell wr.drew ⟨gn,q,none⟩ (.int .i64 (mv + a))=(World.setCell wr ⟨gn,q,none⟩ (.int .i64 (mv + a))).drew:=rfl;rw [eW] at hN9 hX9 hR9 hC9 hv9;obtain ⟨V,hV⟩:=zN ((World.setCell wr ⟨gn,q,none⟩ (.int .i64 (mv + a))).drew);rw [<-hV] at hN9 hX9 hR9 hC9 hv9 |-;clear hV hY9 eW;refine hK.out _ _ ?_ (fun hHeld=>?_)
 ·(try dsimp only);go_split_ands;exact ⟨hC9,hv9⟩
 clear hK K;try simp only [Act.put]
 refine zD ?_;clear hHeld m0 mf c0 c1 hX hN hR HCB hv;have HR9:=qH hR9;have HX9:=qH hX9;have HC9:=qH hC9;have HN9:=qH hN9;clear hR9 hX9 hC9 hN9;go_upto_region 8 with fail;refine zH (fun w'=>(Blk w' gn 2 #[Value.int .i64 y.length,Value.int .i64 y.b,Value.int .i64 y.i,Value.int .i64 y.h,Value.int .i64 y.p]/\World.cell? w' ⟨gx,0,none⟩=some (.string z.name))/\Below w.heap.size w w') ?_ (fun hHeld=>?_)
 ·exact ⟨⟨HN9.out.below (Below.refl _ _).drew,(HX9.out.below (Below.refl _ _).drew).cell 0⟩,hv9.drew⟩
 refine zU 0 41 ?_;refine zT 1 42 rfl (fun w hSw=>by
  have x_n0:=yc0 hSw.1.1;have x_n1:=yc1 hSw.1.1;have x_n2:=yc2 hSw.1.1;have x_n3:=yc3 hSw.1.1;have x_n4:=yc4 hSw.1.1;have x_0:w.cell? ⟨gx,0,none⟩=some (.string z.name):=hSw.1.2;go_simp;try with_reducible rfl) ?_
 refine zU 2 43 ?_;refine zU 3 44 ?_;refine zT 4 45 rfl (fun w hSw=>by
  have x_n0:=yc0 hSw.1.1;have x_n1:=yc1 hSw.1.1;have x_n2:=yc2 hSw.1.1;have x_n3:=yc3 hSw.1.1;have x_n4:=yc4 hSw.1.1;have x_0:w.cell? ⟨gx,0,none⟩=some (.string z.name):=hSw.1.2;go_simp;try with_reducible rfl) ?_
 refine zU 5 46 ?_;refine zU 6 47 ?_;refine zT 7 48 rfl (fun w hSw=>by
  have x_n0:=yc0 hSw.1.1;have x_n1:=yc1 hSw.1.1;have x_n2:=yc2 hSw.1.1;have x_n3:=yc3 hSw.1.1;have x_n4:=yc4 hSw.1.1;have x_0:w.cell? ⟨gx,0,none⟩=some (.string z.name):=hSw.1.2;go_simp;try with_reducible rfl) ?_
 refine zU 8 49 ?_;refine zU 9 50 ?_;refine zT 10 51 rfl (fun w hSw=>by
  have x_n0:=yc0 hSw.1.1;have x_n1:=yc1 hSw.1.1;have x_n2:=yc2 hSw.1.1;have x_n3:=yc3 hSw.1.1;have x_n4:=yc4 hSw.1.1;have x_0:w.cell? ⟨gx,0,none⟩=some (.string z.name):=hSw.1.2;go_simp;try with_reducible rfl) ?_
 refine zU 11 52 ?_;refine zU 12 53 ?_;refine zT 13 54 rfl (fun w hSw=>by
  have x_n0:=yc0 hSw.1.1;have x_n1:=yc1 hSw.1.1;have x_n2:=yc2 hSw.1.1;have x_n3:=yc3 hSw.1.1;have x_n4:=yc4 hSw.1.1;have x_0:w.cell? ⟨gx,0,none⟩=some (.string z.name):=hSw.1.2;go_simp;try with_reducible rfl) ?_
 refine zU 14 55 ?_;refine zU 15 56 ?_;refine zT 16 57 rfl (fun w hSw=>by
  have x_n0:=yc0 hSw.1.1;have x_n1:=yc1 hSw.1.1;have x_n2:=yc2 hSw.1.1;have x_n3:=yc3 hSw.1.1;have x_n4:=yc4 hSw.1.1;have x_0:w.cell? ⟨gx,0,none⟩=some (.string z.name):=hSw.1.2;go_simp;try with_reducible rfl) ?_
 refine zU 17 58 ?_;refine zR 18 none rfl (fun K hK=>?_)
 skip
 go_split_ands;refine wp_store_row 100 _ _ rfl gx #[.string z.name,.int .i64 y.length,.int .i64 y.b,.int .i64 y.i,.int .i64 y.h,.int .i64 y.p] rfl rfl 100 #[Value.string z.name,Value.int .i64 z.length,Value.int .i64 z.b,Value.int .i64 z.i,Value.int .i64 z.h,Value.int .i64 z.p] (HX9.out.below (Below.refl _ _).drew) (by kernel_rfl) rfl (by simp [Value.oneCell']) ?_;have hX8:Blk (World.setRow V.drew gx #[Value.string z.name,Value.int .i64 y.length,Value.int .i64 y.b,Value.int .i64 y.i,Value.int .i64 y.h,Value.int .i64 y.p]) gx 100 #[.string z.name,.int .i64 y.length,.int .i64 y.b,.int .i64 y.i,.int .i64 y.h,.int .i64 y.p]:=setRow_heap _ _ _ _ _ _ (HX9.out.below (Below.refl _ _).drew);have hg8:=yl V.drew gx #[Value.string z.name,Value.int .i64 y.length,Value.int .i64 y.b,Value.int .i64 y.i,Value.int .i64 y.h,Value.int .i64 y.p];have hN8:=(HN9.out.below (Below.refl _ _).drew).grown hg8 (fun e=>by injection e with e;exact hnx e.symm);have hR8:=(HR9.out.below (Below.refl _ _).drew).grown hg8 (fun e=>by injection e with e;exact hxr e.symm);have hC8:=(HC9.out.below (Below.refl _ _).drew).grown hg8 (fun e=>by injection e with e;omega);have hv8:=zg hv9.drew hgxw #[Value.string z.name,Value.int .i64 y.length,Value.int .i64 y.b,Value.int .i64 y.i,Value.int .i64 y.h,Value.int .i64 y.p];obtain ⟨V8,hV8⟩:=zN (World.setRow V.drew gx #[Value.string z.name,Value.int .i64 y.length,Value.int .i64 y.b,Value.int .i64 y.i,Value.int .i64 y.h,Value.int .i64 y.p]);rw [<-hV8] at hX8 hN8 hR8 hC8 hv8 |-;clear hV8 hg8;refine hK.out _ _ ?_ (fun hHeld=>?_)
 ·(try dsimp only);go_split_ands;exact ⟨⟨hN8,hX8.cell 0⟩,hv8⟩
 clear hK K;try simp only [Act.put]
 refine zD ?_;clear hHeld;have hX:=qH hX8;have hR:=qH hR8;have hN2:=qH hN8;have HCB2:=qH hC8;have hv:=hv8;have HCY2:=qH (fun w=>(show Calls prog 149 #[.agg #[.string z.name,.int .i64 y.length,.int .i64 y.b,.int .i64 y.i,.int .i64 y.h,.int .i64 y.p]] w (Ret (.bool by_) w) by
  have h:=HCY.out w;rw [HNZ.out] at h;exact h))
 clear hX8 hR8 hN8 hC8 hv8 HX9 HR9 HC9 HN9 hv9;go_wp2_with (refine yL gx hX.out underlying100 ?_)
 refine qS (HCY2.out _) fun V6 hb=>?_;replace hv:=za hv hb;replace hX:=qH (hX.out.below hb);replace hR:=qH (hR.out.below hb);replace hN2:=qH (hN2.out.below hb);replace HCB2:=qH (HCB2.out.below hb);clear hb;cases by_
 case false=>
  have HN:=qH (HTI.out rfl);go_wp2_with (first
   | (refine yL gx hX.out underlying100 ?_)
   | (refine yS gr #[.string ⟨#[]⟩,.int .i64 0,.int .i64 0,.int .i64 0,.int .i64 0,.int .i64 0] hR.out ?_))
  refine bodyPost_ret (zj (P:=prog) rfl _ _ gr 100 _ (0,0) _ rfl (setRow_heap _ _ _ _ _ _ hR.out) underlying100 rfl (by kernel_rfl)) rfl ?_;exact RetT.mk (by rw [HN.out];rfl) (zg hv hge _)
 go_wp2_with fail;exact ⟨⟨1,y,rfl,by omega,by go_num,qH (by omega),qH (fun _=>by simp),qH (by rw [HNZ.out];exact hX.out),hN2,hR,HCB2,hv⟩,by simp [intOf]⟩
end Go.Proofs.YtpiehlfffjhoaaaGreatDoor
