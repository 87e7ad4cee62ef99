/- Lemmas for the law on the console: the parts CoN,CoP. -/
import Derived.Test.YtpiehlfffjhoaaaGreatDoorQ34
namespace Go.Proofs.YtpiehlfffjhoaaaGreatDoor
open Go.RowKit Go.Proofs.Tryz
set_option maxRecDepth 100000
set_option maxHeartbeats 16000000
theorem km(f:Foot)(s:Style)(lg:ByteArray)(A:Option Addr)(xs:List Last)(n c:Nat)(hn:Hid (xs.length=n))(hm:(n:Int)<=1048576)(hs:Hid (∀ x ∈ xs,x.name.size<=9223372036854775807))(hx:Hid s.fits)(hl:lg.size<=1048576)(line:ByteArray)(hz:line.size<=1048576)(w:World)(hA:Arr w A (zd Last.cells xs))(hT:Tabs w)(hC:ChgN w)(hE:CdN w) :
 Calls prog 9 #[.agg #[.int .i64 f.length,.int .i64 f.b,.int .i64 f.i,.int .i64 f.h,.slice A n c,.string s.u,.string s.c,.string s.l,.string s.s,.int .i64 s.t,.int .i64 s.h,.int .i64 s.e,.int .i64 s.d,.bool s.q,.string lg],.string line] w (OutDc (qD ⟨f,xs,s,lg⟩ line) w):=by
 obtain ⟨i0,hi0,hz0,hz1,hz2⟩:=info_parts (P:=prog) (e:=2) (z:=.int .i64 0) (size:=1) (bytes:=8) qM;obtain ⟨W,hW⟩:=zN ((w.alloc (Obj.cells (cD f A n c s lg) 32)).alloc (Obj.cells cE 32));obtain ⟨g0,hg0⟩:=zN w.heap.size;obtain ⟨g4,hg4⟩:=zN (w.heap.size + 1);have hv:Below w.heap.size w W:=by rw [hW];exact zc (zc (Below.refl _ _) _) _
 have HB:Hid (Blk W g0 32 (cD f A n c s lg)):=qH (by rw [hW,hg0];exact (Blk.new _ _ _).alloc _);have HZ:Hid (Blk W g4 32 cE):=qH (by rw [hW,hg4];have h:=Blk.new (w.alloc (Obj.cells (cD f A n c s lg) 32)) 32 cE;rw [World.size_alloc] at h;exact h);have hw4:w.heap.size<=g4:=by omega
 have HA:=qH (hA.below hv);have HW:=qH hW;have G0:=qH hg0;have G4:=qH hg4;have HT:=qH hT;have HC:=qH hC;have HE:=qH hE;clear hW hg0 hg4 hA hT hC hE;have HSP:=fun w h=>qv 32 line (by omega) w h;have hws:=fun y (h:y ∈ zl 32 line)=>Nat.le_trans (wU h) hz;have hrz:=Nat.le_trans (dO line) hz;have hnw0:=jY 32 line;have hnw1:=Nat.le_trans (qn 32 line) (Nat.succ_le_succ hz);have HCD:qD ⟨f,xs,s,lg⟩ line=if (⟨f,xs,s,lg⟩:Dk).ok=true then (if isD (zl 32 line)=true then wR ⟨f,xs,s,lg⟩ (zl 32 line) else (zDk,[],7)) else (zDk,[],1):=rfl
 obtain ⟨ws,hwse⟩:=zN (zl 32 line);rw [<-hwse] at HSP hws hrz hnw0 hnw1 HCD;obtain ⟨nw,hnwe⟩:=zN ws.length;have HNW:Hid (ws.length=nw):=qH hnwe.symm;rw [<-hnwe] at HSP hnw0 hnw1;replace HSP:=qH HSP;have HWS:=qH hws;have HRZ:=qH hrz;have HRD:wR ⟨f,xs,s,lg⟩ ws=(match xH ws (ye (zf ws 0)).data.toList 1 with
  | none=>(⟨f,xs,s,lg⟩,[wZ 7],0)
  | some ns=>if (yi ⟨f,xs,s,lg⟩ ws ns).2.2=0 then ((yi ⟨f,xs,s,lg⟩ ws ns).1,(yi ⟨f,xs,s,lg⟩ ws ns).2.1,0) else (⟨f,xs,s,lg⟩,[wZ (yi ⟨f,xs,s,lg⟩ ws ns).2.2],0)):=rfl
 have HID:isD ws=(xd (zf ws 0) wi && wy ws (ye (zf ws 0))):=rfl;obtain ⟨t0,ht0⟩:=zN (zf ws 0);have HT0:=qH ht0;rw [<-ht0] at HRD HID;have hfz:=dd t0;have HDS:=fun w=>gV t0 w;have HARB:wy ws (ye t0)=(decide ((ye t0).size + 1<=nw) && (decide (ye t0=⟨#[43]⟩) || decide (nw<=(ye t0).size + 1))):=by unfold wy;rw [<-hnwe]
 obtain ⟨fm,hfm⟩:=zN (ye t0);have HFM:=qH hfm;rw [<-hfm] at HRD HID hfz HDS HARB;have HFE:(fm.toList == [43])=decide (fm=⟨#[43]⟩):=by
  have h:=yD fm ⟨#[43]⟩
  rwa [show (⟨#[43]⟩:ByteArray).toList=[43] by simp] at h
 replace HDS:=qH HDS;have HVD:=fun w h t=>oT f s lg A xs n c hn hm hs hx hl w h t;obtain ⟨bv,hbv⟩:=zN (un f xs s lg);have HOKE:(⟨f,xs,s,lg⟩:Dk).ok=bv:=by rw [hbv];rfl
 rw [<-hbv] at HVD;rw [HOKE] at HCD;have HOK:=qH HOKE;replace HVD:=qH HVD;have HCD2:=qH HCD;have HRD2:=qH HRD;have HID2:=qH HID;have HAR2:=qH HARB;have HFE2:=qH HFE;clear hwse hnwe hws hrz ht0 hfm hbv HOKE HCD HRD HID HARB HFE;go_in;go_upto_region 1 with fail;rw [<-HW.out,<-G4.out,<-G0.out];go_wp2_with fail;refine qS (HSP.out _ (HT.out.below hv)) fun W1 hW1=>?_;obtain ⟨ga,hga⟩:=zN W.heap.size;have HAW:Hid (Arr W1 (some ⟨ga,0,none⟩) (zd zt ws)):=qH (by rw [hW1,hga,xo];exact vR _ _ _);have hgaW:ga < W1.heap.size:=by rw [hW1,hga,World.size_alloc];omega
 have hb:Below W.heap.size W W1:=by rw [hW1];exact zc (Below.refl _ _) _
 have hg4a:g4 < ga:=by rw [hga];exact HZ.out.lt
 rw [<-hga];clear hW1 hga HW G0 G4 HSP;replace hv:=za hv hb;replace HB:=qH (HB.out.below hb);replace HZ:=qH (HZ.out.below hb);replace HA:=qH (HA.out.below hb);clear hb;have x0:W1.cell? ⟨ga,0,none⟩=some (.string t0):=by
  rw [HT0.out];exact yh HAW.out (wA (by rw [HNW.out];exact hnw0))
 have hl0:(0:Int) < (nw:Int):=by omega
 go_wp2_with fail;refine qR (HDS.out _) ?_;clear HDS;go_wp2_with (refine yL g0 HB.out underlying32 ?_)
 refine qS (HVD.out _ HA.out (HT.out.below hv)) fun W2 hb=>?_;clear HVD x0;replace hv:=za hv hb;replace HB:=qH (HB.out.below hb);replace HZ:=qH (HZ.out.below hb);replace HA:=qH (HA.out.below hb);replace HAW:=qH (HAW.out.below hb);clear hb;cases bv
 case false=>
  have HR:=qH (HCD2.out.trans (if_neg (by simp)));go_wp2_with (refine yS g4 cE HZ.out ?_)
  try simp only [Exit.inBlock,Exit.then]
  refine bodyPost_ret (zX (P:=prog) rfl _ _ g4 32 cE (0,0) _ rfl ?_ underlying32 rfl (by kernel_rfl)) rfl ?_
  ·exact setRow_heap _ _ _ _ _ _ HZ.out
  ·exact OutDc.zero HR.out hv hw4 _
 have HR1:=qH (HCD2.out.trans (if_pos rfl));clear HCD2;have HMW:=qH (fun g w h=>pU g 11 11 (World.heap w).size nQ t0 (qH rfl) (by omega) w h);have x0:W2.cell? ⟨ga,0,none⟩=some (.string t0):=by
  rw [HT0.out];exact yh HAW.out (wA (by rw [HNW.out];exact hnw0))
 obtain ⟨bm,hbm⟩:=zN (xd t0 wi);have HBM:Hid (xd t0 nQ=bm):=qH (by rw [hbm,fv]);have HID3:=HID2.out;rw [<-hbm] at HID3;replace HID2:=qH HID3;clear HID3 hbm;go_upto_region 5 with fail
 go_cut [27] (fun b wx=>b=.bool (!bm)/\Below W2.heap.size W2 wx)
 case first=>
  refine zH (fun w'=>Below W2.heap.size W2 w'/\True) ?_ (fun hHeld=>?_)
  ·exact ⟨(Below.refl _ _).drew,trivial⟩
  have hd9:=hHeld.1;refine zU 1 29 ?_;refine zU 2 30 ?_;refine zT 3 31 rfl (fun w hSw=>by
   have x_x0:=zb hSw.1 x0;go_simp;try with_reducible rfl) ?_
  refine zR 0 (some 28) rfl (fun K hK=>?_);go_simp;go_split_ands;refine (gq _).mono ?_;rintro e V ⟨gw,rfl,hown,hb9⟩;have HOW:=qH (yF hown hd9.size);replace hd9:=za hd9 hb9;clear hb9 hown;go_wp2_with fail;refine zK hK ⟨hd9,trivial⟩ (fun hHeld=>?_);clear hK K;refine zR 4 (some 32) rfl (fun K hK=>?_);go_simp;go_split_ands;refine qS (pU gw 11 11 W2.heap.size nQ t0 (qH rfl) (by omega) _ HOW.out) fun w' hq=>?_;rw [hq,HBM.out];clear hq w';go_wp2_with fail;refine zK hK ⟨hd9,trivial⟩ (fun hHeld=>?_);clear hK K;refine zU 5 33 ?_;refine zU 6 27 ?_;refine zD ?_;go_wp2_with fail
  go_meet
  exact ⟨rfl,hd9⟩
 case rest=>
 obtain ⟨rfl,hb⟩:=hcut
 rename World=>W3
 clear x0 HMW;replace hv:=za hv hb;replace HB:=qH (HB.out.below hb);replace HZ:=qH (HZ.out.below hb);replace HA:=qH (HA.out.below hb);replace HAW:=qH (HAW.out.below hb);clear hb;cases bm
 case false=>
  have HR:=qH (HR1.out.trans (if_neg (by rw [HID2.out];simp)));go_wp2_with (refine yS g4 cE HZ.out ?_)
  try simp only [Exit.inBlock,Exit.then]
  refine bodyPost_ret (zX (P:=prog) rfl _ _ g4 32 cE (0,0) _ rfl ?_ underlying32 rfl (by kernel_rfl)) rfl ?_
  ·exact setRow_heap _ _ _ _ _ _ HZ.out
  ·exact OutDc.zero HR.out hv hw4 _
 obtain ⟨ar,har⟩:=zN (wy ws fm);have HID3:=HID2.out;have HAR3:=HAR2.out;rw [<-har,Bool.true_and] at HID3;rw [<-har] at HAR3;have HAR:=qH HAR3;have HIDA:=qH HID3;clear HID2 HAR2 HID3 HAR3 har HBM;obtain ⟨fz,hfze⟩:=zN fm.size;have HFZ:=qH hfze;have HAR3:=HAR.out;rw [<-hfze] at HAR3 hfz;replace HAR:=qH HAR3;clear HAR3;go_upto_region 7 with fail
 go_cut [35] (fun b wx=>b=.bool (!ar)/\wx=W3)
 case first=>
  clear HB HZ HA HAW;have hfe:=HFE2.out;have har:=HAR.out;rw [hfze] at har;by_cases q1:nw < fm.size + 1
  case pos=>
   rw [decide_eq_false (by omega),Bool.false_and] at har;subst har;have q2:(nw:Int) < (fm.size:Int) + 1:=by omega
   go_wp2_with fail
   go_meet
   exact ⟨rfl,rfl⟩
  rw [decide_eq_true (by omega),Bool.true_and] at har;have q2:¬ (nw:Int) < (fm.size:Int) + 1:=by omega
  by_cases q3:fm=⟨#[43]⟩
  case pos=>
   rw [decide_eq_true q3,Bool.true_or] at har;subst har;rw [decide_eq_true q3] at hfe;clear q3;go_wp2_with fail
   go_meet
   exact ⟨rfl,rfl⟩
  rw [decide_eq_false q3,Bool.false_or] at har;rw [decide_eq_false q3] at hfe;clear q3;by_cases q4:nw<=fm.size + 1
  case pos=>
   rw [decide_eq_true q4] at har;subst har;have q5:¬ (fm.size:Int) + 1 < (nw:Int):=by omega
   go_wp2_with fail
   go_meet
   exact ⟨rfl,rfl⟩
  rw [decide_eq_false q4] at har;subst har;have q5:(fm.size:Int) + 1 < (nw:Int):=by omega
  go_wp2_with fail
  go_meet
  exact ⟨rfl,rfl⟩
 case rest=>
 obtain ⟨rfl,hw⟩:=hcut;rw [hw];clear hw;cases ar
 case false=>
  have HR:=qH (HR1.out.trans (if_neg (by rw [HIDA.out];simp)));go_wp2_with (refine yS g4 cE HZ.out ?_)
  try simp only [Exit.inBlock,Exit.then]
  refine bodyPost_ret (zX (P:=prog) rfl _ _ g4 32 cE (0,0) _ rfl ?_ underlying32 rfl (by kernel_rfl)) rfl ?_
  ·exact setRow_heap _ _ _ _ _ _ HZ.out
  ·exact OutDc.zero HR.out hv hw4 _
 have HRR:=qH (HR1.out.trans (if_pos HIDA.out));have HOKT:Hid ((⟨f,xs,s,lg⟩:Dk).ok=true):=HOK;have hn30:n<=30:=by
  have h:=wj (yj HOKT.out).2.1;dsimp only at h;rw [hn.out] at h;exact h
 have hv3:=hv.size;have hg43:=HZ.out.lt;clear HR1 HOK;obtain ⟨gN,hgN⟩:=zN W3.heap.size;obtain ⟨W4,hW4⟩:=zN (W3.alloc (Obj.cells #[] 2));have HN0:Hid (W4.ownsRow W3.heap.size 2 1 (.slice (some ⟨gN,0,none⟩) 0 0) 0 (zd zp [])):=qH (by rw [hW4,hgN];exact zI W3 W3.heap.size 2 1 (Nat.le_refl _));have h4:Below W3.heap.size W3 W4:=by rw [hW4];exact zc (Below.refl _ _) _
 have hgN4:gN < W4.heap.size:=by rw [hW4,hgN,World.size_alloc];omega
 have HB4:=qH (HB.out.below h4);have HCP:=qH (nO f s lg A xs n c hn hm W4 (HA.out.below h4));have HGN:=qH hgN;have HWN:=qH hW4;clear hgN hW4;go_wp2_with (rw [<-HWN.out,<-HGN.out];refine yL g0 HB4.out underlying32 ?_)
 clear HWN HGN;refine HCP.out.mono ?_;rintro e W5 ⟨A2,c2,rfl,hown,hb⟩;have HN5:=qH (ze HN0.out hb);have HO5:=qH (yF hown h4.size);have hlo5:=zn hown;have HLN:Hid (∀ k,(Value.slice A2 n c2).ownBlock=some k->k≠gN):=qH (fun k e=>by have:=hlo5 k e;omega);have h5:=za h4 hb;have hgN5:=hb.size;clear hb h4 HN0 hown HB4 HCP hlo5;obtain ⟨gd,hgd⟩:=zN W5.heap.size;obtain ⟨W6,hW6⟩:=zN (W5.alloc (Obj.cells cE 32));have HK0:Hid (Blk W6 gd 32 cE):=qH (by rw [hW6,hgd];exact Blk.new _ _ _);have hb:Below W5.heap.size W5 W6:=by rw [hW6];exact zc (Below.refl _ _) _
 have hgd3:W3.heap.size<=gd:=by rw [hgd];exact h5.size
 have hgdN:gN≠gd:=by omega
 have HLD:Hid (∀ k,(Value.slice A2 n c2).ownBlock=some k->k≠gd):=qH (fun k e=>by have:=yr HO5.out k e;omega);have HN6:=qH (ze HN5.out hb);have HO6:=qH (ze HO5.out hb);have h6:=za h5 hb;have HGd:=qH hgd;have HWd:=qH hW6;clear hgd hW6 hb h5 HN5 HO5;go_upto_region 10 with (rw [<-HWd.out,<-HGd.out];refine yS gd (cD f A2 n c2 s lg) HK0.out ?_)
 have HN7:=qH (wD (g:=gd) HN6.out (fun k e=>by have e2:gN=k:=(by simpa [Value.ownBlock] using e);omega) (cD f A2 n c2 s lg));have HO7:=qH (wD (g:=gd) HO6.out HLD.out (cD f A2 n c2 s lg));have h7:=zg h6 hgd3 (cD f A2 n c2 s lg);have HK7:Hid (Blk (World.setRow W6 gd (cD f A2 n c2 s lg)) gd 32 (cD f A2 n c2 s lg)):=qH (setRow_heap _ _ _ _ _ _ HK0.out);obtain ⟨W7,hW7⟩:=zN (World.setRow W6 gd (cD f A2 n c2 s lg));rw [<-hW7] at HN7 HO7 h7 HK7 |-;clear hW7 HN6 HO6 h6 HK0 HGd HWd hgN5 hgN4;have HNS:=qH (show xH ws fm.data.toList 1=(xH ws (fm.data.toList.drop 0) (0 + 1)).map (([]:List Int) ++ ·) by rw [List.drop_zero];cases xH ws fm.data.toList (0 + 1) <;> rfl);have hfw:fz + 1<=nw:=by
  have h:=HAR.out.symm;simp only [Bool.and_eq_true,decide_eq_true_eq] at h;exact h.1
 rw [HFZ.out] at hfw hfz;have hnwb:nw<=1048577:=hnw1;go_wp2_with fail
 go_loopw [9,60] (fun v i wr=>∃ (j m gr c':Nat) (acc:List Int),i=.int .i64 j/\v=.slice (some ⟨gr,0,none⟩) m c'/\j<=fm.size/\m<=j/\Hid (acc.length=m)/\Hid (xH ws fm.data.toList 1=(xH ws (fm.data.toList.drop j) (j + 1)).map (acc ++ ·))/\gr≠gd/\Hid (∀ k,(Value.slice A2 n c2).ownBlock=some k->k≠gr)/\Hid (wr.ownsRow W3.heap.size 2 1 (.slice (some ⟨gr,0,none⟩) m c') m (zd zp acc))/\Hid (Blk wr gd 32 (cD f A2 n c2 s lg))/\Hid (wr.ownsRow W3.heap.size 100 6 (.slice A2 n c2) n (zd Last.cells xs))/\Hid (Below W3.heap.size W3 wr)) (fun _ i _=>fm.size - (intOf i).toNat)
 case atStart=>exact ⟨0,0,gN,0,[],rfl,rfl,by omega,by omega,qH rfl,HNS,hgdN,HLN,HN7,HK7,HO7,qH h7⟩
 case round=>
 clear HNS hgdN HLN HN7 HK7 HO7 h7;obtain ⟨j,m,gr,c',acc,rfl,rfl,hj,hmj,HAL,HNS,hgr,HLR,HNR,HK,HO,HBW⟩:=hrel;have hi9:(0:Int)<=(j:Int):=by omega
 by_cases hlt:j < fm.size
 case neg=>
  have hi1:¬ (j:Int) < (fm.size:Int):=by omega
  obtain rfl:j=fm.size:=by omega
  have hns:xH ws fm.data.toList 1=some acc:=by
   rw [HNS.out,List.drop_eq_nil_of_le (by rw [zu];exact Nat.le_refl _),xH]
   show some (acc ++ [])=some acc
   rw [List.append_nil]
  have HX:XIn W3 wr gd ga f xs s lg n c2 A2 (some ⟨gr,0,none⟩) ws acc nw m:=⟨HBW.out,HAW.out,Arr.own HNR.out,HK.out,hgd3,HO.out,HLD.out,hn,HNW,HAL,hnw0,hnwb,HT.out.below hv,HC.out.below hv,HOKT.out,HWS.out,HRZ.out⟩
  have HEX:=qH (ba W3 wr gd ga f xs s lg n c2 A2 (some ⟨gr,0,none⟩) ws acc nw m c' HX HIDA.out (by rw [<-HT0.out,<-HFM.out];exact hns) (fun _=>⟨gr,rfl⟩));have HRN:=HRD2.out;rw [hns] at HRN;dsimp only at HRN;clear hns HX HNS HNR HK HO HLR HAL;obtain ⟨r,hr⟩:=zN (yi ⟨f,xs,s,lg⟩ ws acc);rw [<-hr] at HEX HRN;clear hr;obtain ⟨⟨f8,xs8,s8,lg8⟩,L8,co⟩:=r;dsimp only at HRN;have HRF:=qH (HRR.out.trans HRN);clear HRN HRR HBW;go_wp2_with fail;refine HEX.out.mono ?_;rintro e W8 ⟨B,k8,c9,rfl,hb,hok⟩;have HOK8:=qH hok;clear HEX hok;dsimp only;by_cases hc:co=0
  case neg=>
   have HR:=qH (HRF.out.trans (if_neg hc));have HB8:=qH (HB.out.below hb);have HZ8:=qH (HZ.out.below hb);have hv8:=za hv hb;have HCP:=qH (nO f s lg A xs n c hn hm W8 (HA.out.below hb));clear hb HOK8;go_wp2_with (refine yL g0 HB8.out underlying32 ?_)
   refine HCP.out.mono ?_;rintro e W9 ⟨A3,c3,rfl,hown3,hb⟩;have HO9:=qH hown3;have HW9:=qH (Own.of hown3 hb);have h48:=HZ8.out.lt;replace hv8:=za hv8 hb;have HZ9:=qH (HZ8.out.below hb);clear hb HZ8 HB8 HCP hown3;have HCN:=qH (nH co W9 (HE.out.below hv8));go_wp2_with fail;refine qS HCN.out fun W10 hb=>?_;have HW10:=qH (HW9.out.below hb);have HZ10:=qH (HZ9.out.below hb);have hs9:=hb.size;have h89:=HW9.out.2.1;replace hv8:=za hv8 hb;clear hb HZ9 HW9 HO9 HCN;have l6:(⟨#[101,114,114,111,114,32]⟩:ByteArray).size=6:=rfl;have ez:=rI co;have a0:=fun (w:World)=>run_string_add_sum (P:=prog) w ⟨#[101,114,114,111,114,32]⟩ (vJ co) (by omega);have HEW:Hid (wZ co=(⟨#[101,114,114,111,114,32]⟩:ByteArray) ++ vJ co):=qH rfl;obtain ⟨tE,htE⟩:=zN ((⟨#[101,114,114,111,114,32]⟩:ByteArray) ++ vJ co);rw [<-htE] at a0 HEW;obtain ⟨gL,hgL⟩:=zN W10.heap.size;obtain ⟨W11,hW11⟩:=zN (W10.alloc (Obj.cells #[.string tE] 9));have HL:Hid (Blk W11 gL 9 #[.string tE]):=qH (by rw [hW11,hgL];exact Blk.new _ _ _);have hb:Below W10.heap.size W10 W11:=by rw [hW11];exact zc (Below.refl _ _) _
   have HZ:=qH (HZ10.out.below hb);have HW11:=qH (HW10.out.below hb);have hv:=za hv8 hb;have hgl:W9.heap.size<=gL:=by omega
   have EW:=qH hW11;have EG:=qH hgL;clear htE hW11 hgL hb HZ10 HW10 hv8;go_wp2_with (rw [<-EW.out,<-EG.out];refine yS g4 (cD f A3 n c3 s lg) HZ.out ?_;have HF:Hid (Blk (World.setRow W11 g4 (cD f A3 n c3 s lg)) g4 32 (cD f A3 n c3 s lg)):=qH (setRow_heap _ _ _ _ _ _ HZ.out);have HDC:=qH (fun r (hr:r=((⟨f,xs,s,lg⟩,[tE],0):xD))=>OutDc.mk (r:=r) (co:=0) hr hn.out rfl hv hw4 h48 HW11.out (oI HL.out hgl) (cD f A3 n c3 s lg));obtain ⟨WF,hWF⟩:∃ z,z=World.setRow W11 g4 (cD f A3 n c3 s lg):=⟨_,rfl⟩;rw [<-hWF] at HF HDC |-;clear hWF;(first | go_values | go_skip | go_guarded | go_step | go_upon | go_back);(first | go_values | go_skip | go_guarded | go_step | go_upon | go_back);(first | go_values | go_skip | go_guarded | go_step | go_upon | go_back);(first | go_values | go_skip | go_guarded | go_step | go_upon | go_back);(first | go_values | go_skip | go_guarded | go_step | go_upon | go_back);(first | go_values | go_skip | go_guarded | go_step | go_upon | go_back);(first | go_values | go_skip | go_guarded | go_step | go_upon | go_back);(first | go_values | go_skip | go_guarded | go_step | go_upon | go_back);(first | go_values | go_skip | go_guarded | go_step | go_upon | go_back);(first | go_values | go_skip | go_guarded | go_step | go_upon | go_back);(try simp only [Exit.then];have HQ:=fun tm (hp:tm.getD 4 undef=.pointer (some ⟨g4,0,none⟩))=>zX (P:=prog) (fn:=Tryz.f9) (p:=4) (u:=5) (u':=6) rfl tm WF g4 32 (cD f A3 n c3 s lg) (0,0) _ hp HF.out underlying32 rfl (by kernel_rfl);refine bodyPost_ret (HQ _ rfl) rfl ?_;exact HDC.out _ (HR.out.trans (by rw [HEW.out]))))
  subst hc;have HR:=qH (HRF.out.trans (if_pos rfl));obtain ⟨hk8,mid,hown8,A8,n8,c8,hB8,hn8,hO8⟩:=HOK8.out rfl;dsimp only at hk8 hown8 hB8 hn8 hO8;have HB8:=qH hB8;have HZ8:=qH (HZ.out.below hb);have hv8:=za hv hb;have HW8:=qH hO8;have HL8:=qH hown8;have HN8:=qH hn8;have HKL:=qH hk8;have HZ0:=HZ;clear HOK8 hb hB8 hO8 hown8 hn8 hk8 HZ hv;have HZ:=HZ8;have hv:=hv8;clear HZ8 hv8;go_wp2_with (first | (refine yL gd HB8.out underlying32 ?_) | (refine yS g4 (cD f8 A8 n8 c8 s8 lg8) HZ.out ?_;have HF:Hid (Blk (World.setRow W8 g4 (cD f8 A8 n8 c8 s8 lg8)) g4 32 (cD f8 A8 n8 c8 s8 lg8)):=qH (setRow_heap _ _ _ _ _ _ HZ.out);have HDC:=qH (fun r (hr:r=((⟨f8,xs8,s8,lg8⟩,L8,0):xD))=>OutDc.mk (r:=r) (co:=0) hr HN8.out HKL.out hv hw4 hg43 HW8.out HL8.out (cD f8 A8 n8 c8 s8 lg8));obtain ⟨WF,hWF⟩:∃ z,z=World.setRow W8 g4 (cD f8 A8 n8 c8 s8 lg8):=⟨_,rfl⟩;rw [<-hWF] at HF HDC |-;clear hWF;(first | go_values | go_skip | go_guarded | go_step | go_upon | go_back);(first | go_values | go_skip | go_guarded | go_step | go_upon | go_back);(first | go_values | go_skip | go_guarded | go_step | go_upon | go_back);(first | go_values | go_skip | go_guarded | go_step | go_upon | go_back);(first | go_values | go_skip | go_guarded | go_step | go_upon | go_back);(first | go_values | go_skip | go_guarded | go_step | go_upon | go_back);(first | go_values | go_skip | go_guarded | go_step | go_upon | go_back);(first | go_values | go_skip | go_guarded | go_step | go_upon | go_back);(first | go_values | go_skip | go_guarded | go_step | go_upon | go_back);(first | go_values | go_skip | go_guarded | go_step | go_upon | go_back);(skip;have HQ:=fun tm (hp:tm.getD 4 undef=.pointer (some ⟨g4,0,none⟩))=>zX (P:=prog) (fn:=Tryz.f9) (p:=4) (u:=5) (u':=6) rfl tm WF g4 32 (cD f8 A8 n8 c8 s8 lg8) (0,0) _ hp HF.out underlying32 rfl (by kernel_rfl);refine bodyPost_ret (HQ _ rfl) rfl ?_;exact HDC.out _ (HR.out))))
 have hi1:(j:Int) < (fm.size:Int):=by omega
 have hbt:=xU hlt;obtain ⟨ch,hch⟩:=zN (fm[j]);rw [<-hch] at hbt;have HST:=qH (dE (ws:=ws) hbt (j + 1));have HCH:=qH hch;clear hbt hch;by_cases h110:ch=110
 case neg=>
  have hne:¬ (fm[j].toNat:Int)=110:=by
   intro e;apply h110;rw [HCH.out];exact UInt8.toNat_inj.1 (by have:(110:UInt8).toNat=110:=rfl;omega)
  have HNS2:=qH (HNS.out.trans (by rw [HST.out,if_neg h110]));clear HNS HST;go_wp2_with fail;exact ⟨⟨j + 1,m,gr,c',acc,by go_num,rfl,by omega,by omega,HAL,HNS2,hgr,HLR,HNR,HK,HO,HBW⟩,by simp [intOf];omega⟩
 subst h110;have heq:(fm[j].toNat:Int)=110:=by rw [<-HCH.out];rfl
 obtain ⟨j1,hj1⟩:=zN (j + 1);have hjw:j1 < nw:=by omega
 have hjw0:(j:Int) + 1=(j1:Int):=by omega
 have hjw1:(j1:Int) < (nw:Int):=by omega
 have hjw2:(0:Int)<=(j1:Int):=by omega
 have hws0:=HWS.out (zf ws j1) (uT (by rw [HNW.out];exact hjw));have x1:wr.cell? ⟨ga,j1,none⟩=some (.string (zf ws j1)):=zb HBW.out (yh HAW.out (wA (by rw [HNW.out];exact hjw)));rw [<-hj1] at HST;have HJ1:=qH hj1;clear hj1;have HS1:=HST.out;rw [if_pos rfl] at HS1;clear HST;obtain ⟨y,hy⟩:=zN (zf ws j1);rw [<-hy] at hws0 x1 HS1;have HRDC:=fun w h=>xO y (by omega) w h;change ∀ w,Tabs w->Calls prog 33 #[.string y] w (RetT #[.int .i64 (zq y),.bool (okB y)] w) at HRDC;obtain ⟨ob,hob⟩:=zN (okB y);obtain ⟨nv,hnv⟩:=zN (zq y);rw [<-hob,<-hnv] at HRDC;rw [<-hob,<-hnv] at HS1;have HS2:=qH HS1;replace HRDC:=qH HRDC;clear hy hob hnv HS1;go_wp2_with fail;refine qS (HRDC.out _ (HT.out.below (za hv HBW.out))) fun V hb=>?_;clear HRDC x1;replace HNR:=qH (ze HNR.out hb);replace HK:=qH (HK.out.below hb);replace HO:=qH (ze HO.out hb);replace HBW:=qH (za HBW.out hb);clear hb;cases ob
 case false=>
  have hns:xH ws fm.data.toList 1=none:=by
   rw [HNS.out,<-HJ1.out,HS2.out];rfl
  have HRN:=HRD2.out;rw [hns] at HRN;have HR:=qH (HRR.out.trans HRN);clear HRN hns HNS HS2 HNR;have HZ0:=qH (HZ.out.below HBW.out);have hv0:=za hv HBW.out;clear HZ hv;have HZ:=HZ0;have hv:=hv0;clear HZ0 hv0;have HW0:=qH (Own.named HO.out HBW.out);have HCN:=qH (fun w h=>nH 7 w h);have l6:(⟨#[101,114,114,111,114,32]⟩:ByteArray).size=6:=rfl;have ez:=rI 7;have a0:=fun (w:World)=>run_string_add_sum (P:=prog) w ⟨#[101,114,114,111,114,32]⟩ (vJ 7) (by omega);have HEW:Hid (wZ 7=(⟨#[101,114,114,111,114,32]⟩:ByteArray) ++ vJ 7):=qH rfl;obtain ⟨tC,htC⟩:=zN (vJ 7);rw [<-htC] at a0 HEW HCN;obtain ⟨tE,htE⟩:=zN ((⟨#[101,114,114,111,114,32]⟩:ByteArray) ++ tC);rw [<-htE] at a0 HEW;clear htC htE ez;have hVs:=HBW.out.size;have HOL:=qH (yr HO.out);obtain ⟨k0,k1,k2,k3,k4,k5,k6,k7,k8,k9,k10,k11,k12,k13,k14⟩:=yY HK.out;go_upto_region 16 with fail;refine zH (fun w'=>w'.cell? ⟨gd,0,none⟩=some (.int .i64 f.length)/\w'.cell? ⟨gd,1,none⟩=some (.int .i64 f.b)/\w'.cell? ⟨gd,2,none⟩=some (.int .i64 f.i)/\w'.cell? ⟨gd,3,none⟩=some (.int .i64 f.h)/\w'.cell? ⟨gd,4,none⟩=some (.slice A2 n c2)/\w'.cell? ⟨gd,5,none⟩=some (.string s.u)/\w'.cell? ⟨gd,6,none⟩=some (.string s.c)/\w'.cell? ⟨gd,7,none⟩=some (.string s.l)/\w'.cell? ⟨gd,8,none⟩=some (.string s.s)/\w'.cell? ⟨gd,9,none⟩=some (.int .i64 s.t)/\w'.cell? ⟨gd,10,none⟩=some (.int .i64 s.h)/\w'.cell? ⟨gd,11,none⟩=some (.int .i64 s.e)/\w'.cell? ⟨gd,12,none⟩=some (.int .i64 s.d)/\w'.cell? ⟨gd,13,none⟩=some (.bool s.q)/\w'.cell? ⟨gd,14,none⟩=some (.string lg)) ?_ (fun hHeld=>?_)
  ·exact ⟨zb (Below.refl _ _).drew k0,zb (Below.refl _ _).drew k1,zb (Below.refl _ _).drew k2,zb (Below.refl _ _).drew k3,zb (Below.refl _ _).drew k4,zb (Below.refl _ _).drew k5,zb (Below.refl _ _).drew k6,zb (Below.refl _ _).drew k7,zb (Below.refl _ _).drew k8,zb (Below.refl _ _).drew k9,zb (Below.refl _ _).drew k10,zb (Below.refl _ _).drew k11,zb (Below.refl _ _).drew k12,zb (Below.refl _ _).drew k13,zb (Below.refl _ _).drew k14⟩
  have hd9:=(Below.refl V.heap.size V).drew;refine zT 0 78 rfl (fun w hSw=>by
   obtain ⟨s0,s1,s2,s3,s4,s5,s6,s7,s8,s9,s10,s11,s12,s13,s14⟩:=hSw;go_simp;try with_reducible rfl) ?_
  refine zR 1 (some 79) rfl (fun K hK=>?_);go_simp;go_split_ands;refine qS (HCN.out _ (HE.out.below (za hv hd9))) fun V1 hb9=>?_;replace hd9:=za hd9 hb9;clear hb9 HCN;go_wp2_with fail;refine zK hK ⟨zb hd9 k0,zb hd9 k1,zb hd9 k2,zb hd9 k3,zb hd9 k4,zb hd9 k5,zb hd9 k6,zb hd9 k7,zb hd9 k8,zb hd9 k9,zb hd9 k10,zb hd9 k11,zb hd9 k12,zb hd9 k13,zb hd9 k14⟩ (fun hHeld=>?_);clear hK K;refine zT 2 80 rfl (fun w hSw=>by
   clear hSw;go_simp;try with_reducible rfl) ?_
  refine wpAnyH_ready (rs:=[3,4]) (by as_aux_lemma=>kernel_rfl) (by simp) ?_;refine AllReadyH.cons (o:={ dst:=some 81,op:=_,type:=_,pos:=_,after:=_,guard:=_ }) rfl (fun K hK=>?_) (AllReadyH.cons (o:={ dst:=none,op:=_,type:=_,pos:=_,after:=_,guard:=_ }) rfl (fun K hK=>?_) AllReadyH.nil)
  · skip
    go_simp;go_split_ands;obtain ⟨gL,hgL⟩:=zN V1.heap.size;obtain ⟨V2,hV2⟩:=zN (V1.alloc (Obj.cells #[.string tE] 9));have HL:Hid (Blk V2 gL 9 #[.string tE]):=qH (by rw [hV2,hgL];exact Blk.new _ _ _);have hb9:Below V1.heap.size V1 V2:=by rw [hV2];exact zc (Below.refl _ _) _
    rw [<-hV2,<-hgL];have hgl:V.heap.size<=gL:=by rw [hgL];exact hd9.size
    replace hd9:=za hd9 hb9;clear hV2 hgL hb9;refine zK hK ⟨zb hd9 k0,zb hd9 k1,zb hd9 k2,zb hd9 k3,zb hd9 k4,zb hd9 k5,zb hd9 k6,zb hd9 k7,zb hd9 k8,zb hd9 k9,zb hd9 k10,zb hd9 k11,zb hd9 k12,zb hd9 k13,zb hd9 k14⟩ (fun hHeld=>?_);clear hK K;refine zR 4 none rfl (fun K hK=>?_)
    skip
    go_split_ands;have HZ1:=qH (HZ.out.below hd9);refine wp_store_row 32 _ _ rfl g4 (cD f A2 n c2 s lg) rfl rfl 32 cE HZ1.out (by kernel_rfl) rfl (by simp [Value.oneCell']) ?_;have HK1:=qH (HK.out.below hd9);have HK2:=qH (HK1.out.grown (yl V2 g4 (cD f A2 n c2 s lg)) (fun e=>by injection e with e;omega));have HZ2:Hid (Blk (World.setRow V2 g4 (cD f A2 n c2 s lg)) g4 32 (cD f A2 n c2 s lg)):=qH (setRow_heap _ _ _ _ _ _ HZ1.out);have HDC:=qH (fun r (hr:r=((⟨f,xs,s,lg⟩,[tE],0):xD))=>OutDc.mk (r:=r) (co:=0) hr hn.out rfl (za hv hd9) hw4 hg43 ((Own.of HO.out HBW.out).below hd9) (oI HL.out hgl) (cD f A2 n c2 s lg));obtain ⟨V3,hV3⟩:=zN (World.setRow V2 g4 (cD f A2 n c2 s lg));rw [<-hV3] at HK2 HZ2 HDC |-;clear hV3;refine hK.out _ _ ?_ (fun hHeld=>?_)
    ·(try dsimp only);go_split_ands;exact ⟨HK2.out.cell 0,HK2.out.cell 1,HK2.out.cell 2,HK2.out.cell 3,HK2.out.cell 4,HK2.out.cell 5,HK2.out.cell 6,HK2.out.cell 7,HK2.out.cell 8,HK2.out.cell 9,HK2.out.cell 10,HK2.out.cell 11,HK2.out.cell 12,HK2.out.cell 13,HK2.out.cell 14⟩
    clear hK K;(try simp only [Act.put]);refine zT 5 5 rfl (fun w hSw=>by
     clear hSw;go_simp;try with_reducible rfl) ?_
    refine zT 6 6 rfl (fun w hSw=>by
     clear hSw;go_simp;try with_reducible rfl) ?_
    refine zD ?_;clear hHeld;go_wp2_with fail;(try simp only [Exit.inBlock,Exit.then]);have HQ:=fun tm (hp:tm.getD 4 undef=.pointer (some ⟨g4,0,none⟩))=>zX (P:=prog) (fn:=Tryz.f9) (p:=4) (u:=5) (u':=6) rfl tm V3 g4 32 (cD f A2 n c2 s lg) (0,0) _ hp HZ2.out underlying32 rfl (by kernel_rfl);refine bodyPost_ret (HQ _ rfl) rfl ?_;exact HDC.out _ (HR.out.trans (by rw [HEW.out]))
  · skip
    skip
    go_split_ands;have HZ1:=qH (HZ.out.below hd9);refine wp_store_row 32 _ _ rfl g4 (cD f A2 n c2 s lg) rfl rfl 32 cE HZ1.out (by kernel_rfl) rfl (by simp [Value.oneCell']) ?_;have HK1:=qH (HK.out.below hd9);have HK2:=qH (HK1.out.grown (yl V1 g4 (cD f A2 n c2 s lg)) (fun e=>by injection e with e;omega));have HZ2:Hid (Blk (World.setRow V1 g4 (cD f A2 n c2 s lg)) g4 32 (cD f A2 n c2 s lg)):=qH (setRow_heap _ _ _ _ _ _ HZ1.out);have HOB:=qH (((Own.of HO.out HBW.out).below hd9).grown (yl V1 g4 (cD f A2 n c2 s lg)) (fun k e=>by injection e with e;omega));have hvb:=zg (za hv hd9) hw4 (cD f A2 n c2 s lg);have hsb:=(yl V1 g4 (cD f A2 n c2 s lg)).size;have hsv:=hd9.size;obtain ⟨V0,hV0⟩:=zN (World.setRow V1 g4 (cD f A2 n c2 s lg));rw [<-hV0] at HK2 HZ2 HOB hvb hsb |-;clear hV0;refine hK.out _ _ ?_ (fun hHeld=>?_)
    ·(try dsimp only);go_split_ands;exact ⟨HK2.out.cell 0,HK2.out.cell 1,HK2.out.cell 2,HK2.out.cell 3,HK2.out.cell 4,HK2.out.cell 5,HK2.out.cell 6,HK2.out.cell 7,HK2.out.cell 8,HK2.out.cell 9,HK2.out.cell 10,HK2.out.cell 11,HK2.out.cell 12,HK2.out.cell 13,HK2.out.cell 14⟩
    clear hK K;(try simp only [Act.put]);refine zR 3 (some 81) rfl (fun K hK=>?_);go_simp;go_split_ands;obtain ⟨gL,hgL⟩:=zN V0.heap.size;obtain ⟨V3,hV3⟩:=zN (V0.alloc (Obj.cells #[.string tE] 9));have HL:Hid (Blk V3 gL 9 #[.string tE]):=qH (by rw [hV3,hgL];exact Blk.new _ _ _);have hb9:Below V0.heap.size V0 V3:=by rw [hV3];exact zc (Below.refl _ _) _
    rw [<-hV3,<-hgL];have hgl:V.heap.size<=gL:=by omega
    have HDC:=qH (fun r (hr:r=((⟨f,xs,s,lg⟩,[tE],0):xD))=>OutDc.of (r:=r) (co:=0) hr hn.out rfl (za hvb hb9) hv3 (HOB.out.below hb9) (oI HL.out hgl));replace HK2:=qH (HK2.out.below hb9);replace HZ2:=qH (HZ2.out.below hb9);clear hV3 hgL hb9;refine zK hK ⟨HK2.out.cell 0,HK2.out.cell 1,HK2.out.cell 2,HK2.out.cell 3,HK2.out.cell 4,HK2.out.cell 5,HK2.out.cell 6,HK2.out.cell 7,HK2.out.cell 8,HK2.out.cell 9,HK2.out.cell 10,HK2.out.cell 11,HK2.out.cell 12,HK2.out.cell 13,HK2.out.cell 14⟩ (fun hHeld=>?_);clear hK K;refine zT 5 5 rfl (fun w hSw=>by
     clear hSw;go_simp;try with_reducible rfl) ?_
    refine zT 6 6 rfl (fun w hSw=>by
     clear hSw;go_simp;try with_reducible rfl) ?_
    refine zD ?_;clear hHeld;go_wp2_with fail;(try simp only [Exit.inBlock,Exit.then]);have HQ:=fun tm (hp:tm.getD 4 undef=.pointer (some ⟨g4,0,none⟩))=>zX (P:=prog) (fn:=Tryz.f9) (p:=4) (u:=5) (u':=6) rfl tm V3 g4 32 (cD f A2 n c2 s lg) (0,0) _ hp HZ2.out underlying32 rfl (by kernel_rfl);refine bodyPost_ret (HQ _ rfl) rfl ?_;exact HDC.out _ (HR.out.trans (by rw [HEW.out]))
 have hrl:=yr HNR.out gr rfl;have hat:=zn HNR.out;have hvs:=HBW.out.size;go_wp2_with (at_builtin;(refine yu V #[.int .i64 nv] rfl _ _ 58 2 rfl i0 _ 1 8 underlying58 hi0 hz0 hz1 hz2 rfl (by omega) W3.heap.size (some ⟨gr,0,none⟩) m c' _ rfl _ rfl rfl HNR.out rfl (by simp [Value.oneCell']) (by unfold maxLen;omega) (by omega) hvs ?_);intro g7 c7 w7 hown7 hg7 hfr7)
 have e9:zd zp (acc ++ [nv])=zd zp acc ++ #[Value.int .i64 nv].toList:=by simp [zd,zp]
 rw [<-e9] at hown7;have hkl:=HK.out.lt;have hr7:∀ k,k < V.heap.size->k≠gr->k≠g7:=fun k h1 h2=>by
  rcases hfr7 with e7 | e7
  ·injection e7 with e7;injection e7 with e7;omega
  ·omega
 have hrow:∀ k:Nat,k≠gr->some k≠Option.map (·.block) (some (⟨gr,0,none⟩:Addr)):=fun k h e=>by
  injection e with e;exact h e
 refine ⟨⟨j + 1,m + 1,g7,c7,acc ++ [nv],by go_num,rfl,by omega,by omega,qH (by rw [List.length_append,HAL.out];rfl),qH ?_,fun e=>hr7 gd hkl (fun e2=>hgr e2.symm) e.symm,qH (fun k e=>hr7 k (yr HO.out k e) (HLR.out k e)),qH hown7,qH (HK.out.grown hg7 (hrow gd (fun e2=>hgr e2.symm))),qH (HO.out.kept hg7 ?_),qH (zi HBW.out hg7 hat)⟩,by simp [intOf];omega⟩
 · rw [HNS.out,<-HJ1.out,HS2.out,if_pos trivial];cases xH ws (fm.data.toList.drop j1) (j1 + 1) with
   | none=>rfl
   | some l=>simp
 · cases hv9:(Value.slice A2 n c2).ownBlock with
   | none=>exact .inl rfl
   | some k=>exact .inr (hrow k (HLR.out k hv9))
theorem dQ(L:List ByteArray):∀ u ∈ zd zt L,u.oneCell'=true:=by
 intro u hu;rw [xo] at hu;obtain ⟨y,_,rfl⟩:=List.mem_map.1 hu;rfl
end Go.Proofs.YtpiehlfffjhoaaaGreatDoor
