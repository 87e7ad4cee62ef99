/- Lemmas for the law on the console: the parts CnD,CnN. -/
import Derived.Test.YtpiehlfffjhoaaaGreatDoorQ28
import Derived.Test.YtpiehlfffjhoaaaGreatDoorQ19
namespace Go.Proofs.YtpiehlfffjhoaaaGreatDoor
open Go.RowKit Go.Proofs.Tryz
set_option maxRecDepth 100000
set_option maxHeartbeats 8000000
def zLa:Last:=⟨⟨#[]⟩,0,0,0,0,0⟩
def vt(o:Option Last):Array Value:=#[.agg #[.string (o.getD zLa).name,.int .i64 (o.getD zLa).length,.int .i64 (o.getD zLa).b,.int .i64 (o.getD zLa).i,.int .i64 (o.getD zLa).h,.int .i64 (o.getD zLa).p],.bool o.isSome]
theorem vN{s:ByteArray}(h:wg s=none):vt (wg s)=#[.agg #[.string ⟨#[]⟩,.int .i64 0,.int .i64 0,.int .i64 0,.int .i64 0,.int .i64 0],.bool false]:=by rw [h];rfl
theorem yh{w:World}{g j:Nat}{L:List ByteArray}{y:ByteArray}(h:Arr w (some ⟨g,0,none⟩) (zd zt L))(hy:L[j]?=some y):w.cell? ⟨g,j,none⟩=some (.string y):=by
 obtain ⟨bd,hbd,_,d0⟩:=zh h hy;injection hbd with hbd;subst hbd;rw [Addr.add_lit,Nat.zero_add] at d0;exact d0
theorem mK(w:World)(t:TypeId)(C:List Value):Arr (w.alloc (.cells C.toArray t)) (some ⟨w.heap.size,0,none⟩) C:=vY (Blk.new w t C.toArray)
theorem et(s:ByteArray)(hs:s.size<=4194304)(w:World)(hT:Tabs w):Calls prog 71 #[.string s] w (RetT (vt (wg s)) w):=by
 have HT:=qH hT;have HSP:=qH (fun w h=>qv 32 s (by omega) w h);clear hT;have hyz:Hid (∀ y ∈ zl 32 s,y.size<=s.size):=qH (fun y hy=>wU (c:=32) hy);have hno:=@ms s;have h4f:=@rp (zl 32 s);have hnf:=fun a b c d=>@oX s a b c d;have h4r:=fun a b c d f=>@lS s a b c d f;have hmk:=fun a b c d f=>@ai s a b c d f;obtain ⟨L,hL⟩:=zN (zl 32 s);rw [<-hL] at HSP hyz hno h4f h4r hnf hmk;have HNO:=qH hno;have H4F:=qH h4f;have H4R:=qH h4r;have HNF:=qH hnf;have HMK:=qH hmk;obtain ⟨n,hn⟩:=zN L.length;rw [<-hn] at HSP;have HN:=qH hn.symm;clear hL hno h4f h4r hn hnf hmk;obtain ⟨W,hW⟩:=zN (w.alloc (Obj.cells cM 100));obtain ⟨g,hg⟩:=zN w.heap.size;have hv:Below w.heap.size w W:=by rw [hW];exact zc (Below.refl _ _) _
 have HB:Hid (Blk W g 100 cM):=qH (by rw [hW,hg];exact Blk.new _ _ _);have hgw:w.heap.size<=g:=by omega
 have HW:=qH hW;have HG:=qH hg;clear hW hg;go_in;go_upto_region 1 with fail;rw [<-HW.out,<-HG.out];clear HW HG;go_wp2_with fail;refine qS (HSP.out _ (HT.out.below hv)) fun W1 hw1=>?_;obtain ⟨ga,hga⟩:=zN W.heap.size;have hb:Below W.heap.size W W1:=by rw [hw1];exact zc (Below.refl _ _) _
 have HA:Hid (Arr W1 (some ⟨ga,0,none⟩) (zd zt L)):=qH (by rw [hw1,hga,xo];exact mK _ _ _);rw [<-hga];clear hw1 hga HSP;replace HB:=qH (HB.out.below hb);replace hv:=za hv hb;clear hb;by_cases hm4:n=4
 case neg=>
  have hne:((n:Int) != 4)=true:=by rw [bne_iff_ne];omega
  have HR:=qH (vN (HNO.out (fun h=>hm4 (HN.out.symm.trans h))));go_wp2_with (refine yS g cM HB.out ?_)
  have hF:Blk (World.setRow W1 g cM) g 100 cM:=setRow_heap _ _ _ _ _ _ HB.out;have hbF:=zG hv hgw cM;obtain ⟨WF,hWF⟩:=zN (World.setRow W1 g cM);rw [<-hWF] at hF hbF |-;clear hWF;obtain ⟨m0,m1,m2,m3,m4,m5⟩:=qC6 hF;go_wp2_with fail;try simp only [Exit.inBlock,Exit.then]
  refine bodyPost_ret (v:=.tuple #[.agg #[.string ⟨#[]⟩,.int .i64 0,.int .i64 0,.int .i64 0,.int .i64 0,.int .i64 0],.bool false]) (by simp [results,results71,go_sem,m0,m1,m2,m3,m4,m5]) rfl ?_;exact RetT.mk (HR.out).symm hbF
 subst hm4;obtain ⟨nm,ft,q,p,hL⟩:=H4F.out HN.out;have hz1:=hyz.out nm (by rw [hL];simp);have hz2:=hyz.out ft (by rw [hL];simp);have hz4:=hyz.out p (by rw [hL];simp);have h0:L[0]?=some nm:=by rw [hL];rfl
 have h1:L[1]?=some ft:=by rw [hL];rfl
 have h2:L[2]?=some q:=by rw [hL];rfl
 have h3:L[3]?=some p:=by rw [hL];rfl
 have HL:=qH hL;have HI0:=qH h0;have HI1:=qH h1;have HI2:=qH h2;have HI3:=qH h3;clear hL h0 h1 h2 h3 hyz HNO H4F;have HRF:=qH (fun w h=>nJ ft (by omega) w h);have hrd:=fun w h=>xO p (by omega) w h;change ∀ w,Tabs w->Calls prog 33 #[.string p] w (RetT #[.int .i64 (zq p),.bool (okB p)] w) at hrd;obtain ⟨b1,hb1⟩:=zN ((xl ft).isSome);obtain ⟨f,hf⟩:=zN ((xl ft).getD zFo);have hfs:b1=true->xl ft=some f:=fun h=>by
  rw [hb1] at h;rw [hf];cases hr:xl ft with
  | none=>rw [hr] at h;cases h
  | some f=>rfl
 have hfn:b1=false->xl ft=none:=fun h=>by
  rw [hb1] at h;cases hr:xl ft with
  | none=>rfl
  | some f=>rw [hr] at h;cases h
 unfold sh at HRF;rw [<-hb1,<-hf] at HRF;have HFS:=qH hfs;have HFN:=qH hfn;obtain ⟨b2,hb2⟩:=zN (okB p);rw [<-hb2] at hrd;have HB2:=qH hb2.symm;obtain ⟨np,hnp⟩:=zN (zq p);rw [<-hnp] at hrd;have HNP:=qH hnp;have HRD:=qH hrd;clear hb1 hf hfs hfn hb2 hnp hrd;have k1:W1.cell? ⟨ga,1,none⟩=some (.string ft):=yh HA.out HI1.out;go_wp2_with fail;refine qS (HRF.out _ (HT.out.below hv)) fun W2 hb=>?_;clear k1;replace HB:=qH (HB.out.below hb);replace HA:=qH (HA.out.below hb);replace hv:=za hv hb;clear hb;go_upto_region 5 with fail;obtain ⟨W3,hWn⟩:=zN (World.alloc W2 (Obj.cells (cF f) 27));obtain ⟨gf,hgn⟩:=zN W2.heap.size;have hb:Below W2.heap.size W2 W3:=by rw [hWn];exact zc (Below.refl _ _) _
 have HF:Hid (Blk W3 gf 27 (cF f)):=qH (by rw [hWn,hgn];exact Blk.new _ _ _);rw [<-hWn,<-hgn];clear hWn hgn;replace HB:=qH (HB.out.below hb);replace HA:=qH (HA.out.below hb);replace hv:=za hv hb;clear hb;have k3:W3.cell? ⟨ga,3,none⟩=some (.string p):=yh HA.out HI3.out;go_wp2_with fail;refine qS (HRD.out _ (HT.out.below hv)) fun W4 hb=>?_;clear k3;replace HB:=qH (HB.out.below hb);replace HA:=qH (HA.out.below hb);replace HF:=qH (HF.out.below hb);replace hv:=za hv hb;clear hb;go_upto_region 6 with fail;have k0:W4.cell? ⟨ga,0,none⟩=some (.string nm):=yh HA.out HI0.out;obtain ⟨q0,q1,q2,q3⟩:=qC4 HF.out;clear HA HF;refine zH (fun w'=>Below W4.heap.size W4 w'/\True) ?_ (fun hHeld=>?_)
 ·exact ⟨(Below.refl _ _).drew,trivial⟩
 have hd9:=hHeld.1;refine zU 0 30 ?_;refine zU 1 31 ?_;refine zT 2 32 rfl (fun w hSw=>by
  have x_k0:=zb hSw.1 k0;go_simp;try with_reducible rfl) ?_
 refine zU 3 33 ?_;refine zT 4 34 rfl (fun w hSw=>by
  have x_q0:=zb hSw.1 q0;go_simp;try with_reducible rfl) ?_
 refine zU 5 35 ?_;refine zT 6 36 rfl (fun w hSw=>by
  have x_q1:=zb hSw.1 q1;go_simp;try with_reducible rfl) ?_
 refine zU 7 37 ?_;refine zT 8 38 rfl (fun w hSw=>by
  have x_q2:=zb hSw.1 q2;go_simp;try with_reducible rfl) ?_
 refine zU 9 39 ?_;refine zT 10 40 rfl (fun w hSw=>by
  have x_q3:=zb hSw.1 q3;go_simp;try with_reducible rfl) ?_
 refine zU 11 41 ?_;refine zU 12 42 ?_;clear k0 q0 q1 q2 q3;refine zR 13 (some 9) rfl (fun K hK=>?_);go_simp;go_split_ands;obtain ⟨W5,hW5⟩:=zN (World.drew (World.alloc W4 (Obj.cells cM 100)));obtain ⟨gx,hgx⟩:=zN W4.heap.size;have HX0:Hid (Blk W5 gx 100 cM):=qH (by rw [hW5,hgx];exact Blk.new W4 _ _);have hb9:Below W4.drew.heap.size W4.drew W5:=by rw [hW5];exact zc (Below.refl _ _) _
 have hgx4:W4.heap.size<=gx:=by omega
 replace hd9:=za hd9 hb9;rw [<-hW5,<-hgx];clear hW5 hgx hb9;refine zK hK ⟨hd9,trivial⟩ (fun hHeld=>?_);clear hK K;refine zR 14 none rfl (fun K hK=>?_)
 skip
 go_split_ands;refine wp_store_row 100 _ _ rfl gx #[.string nm,.int .i64 f.length,.int .i64 f.b,.int .i64 f.i,.int .i64 f.h,.int .i64 np] rfl rfl 100 cM HX0.out (by kernel_rfl) rfl (by simp [Value.oneCell']) ?_;have HX1:Hid (Blk (World.setRow W5 gx #[Value.string nm,Value.int .i64 f.length,Value.int .i64 f.b,Value.int .i64 f.i,Value.int .i64 f.h,Value.int .i64 np]) gx 100 #[.string nm,.int .i64 f.length,.int .i64 f.b,.int .i64 f.i,.int .i64 f.h,.int .i64 np]):=qH (setRow_heap _ _ _ _ _ _ HX0.out);have hd8:=zG hd9 hgx4 #[Value.string nm,Value.int .i64 f.length,Value.int .i64 f.b,Value.int .i64 f.i,Value.int .i64 f.h,Value.int .i64 np];clear HX0 hd9;obtain ⟨W6,hW6⟩:=zN (World.setRow W5 gx #[Value.string nm,Value.int .i64 f.length,Value.int .i64 f.b,Value.int .i64 f.i,Value.int .i64 f.h,Value.int .i64 np]);rw [<-hW6] at HX1 hd8 |-;clear hW6;refine hK.out _ _ ?_ (fun hHeld=>?_)
 ·(try dsimp only);go_split_ands;exact ⟨hd8,trivial⟩
 clear hK K;try simp only [Act.put]
 refine zD ?_;clear hHeld;have hb:=hd8;clear hd8;have HX:=HX1;clear HX1;replace HB:=qH (HB.out.below hb);replace hv:=za hv hb;clear hb;obtain ⟨x,hx⟩:=zN (mkL nm f p);have HX2:Hid (Blk W6 gx 100 (cL x)):=qH (by
  have h:=HX.out;rw [HNP.out] at h;rw [hx];exact h)
 have hxz:x.name.size<=4194304:=by rw [hx];exact Nat.le_trans hz1 hs
 have HXX:=qH hx;clear HX hx;cases b1
 case false=>
  have HR:=qH (vN (HNF.out _ _ _ _ HL.out (HFN.out rfl)))
  go_upto_if 54 with fail
  go_wp2_with (refine yS g cM HB.out ?_)
  have hF:Blk (World.setRow W6 g cM) g 100 cM:=setRow_heap _ _ _ _ _ _ HB.out;have hbF:=zG hv hgw cM;obtain ⟨WF,hWF⟩:=zN (World.setRow W6 g cM);rw [<-hWF] at hF hbF |-;clear hWF;obtain ⟨m0,m1,m2,m3,m4,m5⟩:=qC6 hF;go_wp2_with fail;try simp only [Exit.inBlock,Exit.then]
  refine bodyPost_ret (v:=.tuple #[.agg #[.string ⟨#[]⟩,.int .i64 0,.int .i64 0,.int .i64 0,.int .i64 0,.int .i64 0],.bool false]) (by simp [results,results71,go_sem,m0,m1,m2,m3,m4,m5]) rfl ?_;exact RetT.mk (HR.out).symm hbF
 have H4:=qH (H4R.out _ _ _ _ f HL.out (HFS.out rfl));cases b2
 case false=>
  have HR:=qH (vN (s:=s) (by rw [H4.out,HB2.out,Bool.and_false];rfl))
  go_upto_if 54 with fail
  go_wp2_with (refine yS g cM HB.out ?_)
  have hF:Blk (World.setRow W6 g cM) g 100 cM:=setRow_heap _ _ _ _ _ _ HB.out;have hbF:=zG hv hgw cM;obtain ⟨WF,hWF⟩:=zN (World.setRow W6 g cM);rw [<-hWF] at hF hbF |-;clear hWF;obtain ⟨m0,m1,m2,m3,m4,m5⟩:=qC6 hF;go_wp2_with fail;try simp only [Exit.inBlock,Exit.then]
  refine bodyPost_ret (v:=.tuple #[.agg #[.string ⟨#[]⟩,.int .i64 0,.int .i64 0,.int .i64 0,.int .i64 0,.int .i64 0],.bool false]) (by simp [results,results71,go_sem,m0,m1,m2,m3,m4,m5]) rfl ?_;exact RetT.mk (HR.out).symm hbF
 have HMM:=qH (HMK.out _ _ _ _ f HL.out (HFS.out rfl) HB2.out);have HLT:=fun w h=>qu x (by omega) w h;rw [<-HXX.out] at H4 HMM;obtain ⟨u,hu⟩:=zN (ltB x);rw [<-hu] at HLT HMM;obtain ⟨c,hc⟩:=zN (decide (q=wPitch) && zy x);rw [<-hc] at HMM;have hbb:(u.toList == s.toList)=c:=by rw [yD];exact HMM.out
 have HL9:=qH HLT;have HC:Hid (vt (wg s)=if c=true then vt (some x) else vt none):=qH (by
  rw [H4.out,HB2.out,Bool.and_true,<-hc];cases c <;> rfl)
 clear hu hc HLT HMM;obtain ⟨x0,x1,x2,x3,x4,x5⟩:=qC6 HX2.out;go_wp2_with fail;refine qS (HL9.out _ (HT.out.below hv)) fun W7 hb=>?_;clear x0 x1 x2 x3 x4 x5;replace HB:=qH (HB.out.below hb);replace HX2:=qH (HX2.out.below hb);replace hv:=za hv hb;clear hb;cases c
 · have HR:=qH (HC.out:vt (wg s)=#[.agg #[.string ⟨#[]⟩,.int .i64 0,.int .i64 0,.int .i64 0,.int .i64 0,.int .i64 0],.bool false]);go_wp2_with (refine yS g cM HB.out ?_)
   have hF:Blk (World.setRow W7 g cM) g 100 cM:=setRow_heap _ _ _ _ _ _ HB.out;have hbF:=zG hv hgw cM;obtain ⟨WF,hWF⟩:=zN (World.setRow W7 g cM);rw [<-hWF] at hF hbF |-;clear hWF;obtain ⟨m0,m1,m2,m3,m4,m5⟩:=qC6 hF;go_wp2_with fail;(try simp only [Exit.inBlock,Exit.then]);refine bodyPost_ret (v:=.tuple #[.agg #[.string ⟨#[]⟩,.int .i64 0,.int .i64 0,.int .i64 0,.int .i64 0,.int .i64 0],.bool false]) (by simp [results,results71,go_sem,m0,m1,m2,m3,m4,m5]) rfl ?_;exact RetT.mk (HR.out).symm hbF
 have HR:=qH (HC.out:vt (wg s)=#[.agg #[.string x.name,.int .i64 x.length,.int .i64 x.b,.int .i64 x.i,.int .i64 x.h,.int .i64 x.p],.bool true]);go_wp2_with (first | (refine yL gx HX2.out underlying100 ?_) | (refine yS g (cL x) HB.out ?_))
 have hF:Blk (World.setRow W7 g (cL x)) g 100 (cL x):=setRow_heap _ _ _ _ _ _ HB.out;have hbF:=zG hv hgw (cL x);obtain ⟨WF,hWF⟩:=zN (World.setRow W7 g (cL x));rw [<-hWF] at hF hbF |-;clear hWF;obtain ⟨m0,m1,m2,m3,m4,m5⟩:=qC6 hF;go_wp2_with fail;try simp only [Exit.inBlock,Exit.then]
 refine bodyPost_ret (v:=.tuple #[.agg #[.string x.name,.int .i64 x.length,.int .i64 x.b,.int .i64 x.i,.int .i64 x.h,.int .i64 x.p],.bool true]) (by simp [results,results71,go_sem,m0,m1,m2,m3,m4,m5]) rfl ?_;exact RetT.mk (HR.out).symm hbF
theorem gI(s:ByteArray)(hs:s.size<=4194304)(w:World):Calls prog 170 #[.string s] w (RetT (vt (wg s)) w):=by
 have HSP:=qH (fun w=>vx 32 s hs w);have hyz:Hid (∀ y ∈ zl 32 s,y.size<=s.size):=qH (fun y hy=>wU (c:=32) hy);have hno:=@ms s;have h4f:=@rp (zl 32 s);have hnf:=fun a b c d=>@oX s a b c d;have h4r:=fun a b c d f=>@lS s a b c d f;have hmk:=fun a b c d f=>@ai s a b c d f;obtain ⟨L,hL⟩:=zN (zl 32 s);rw [<-hL] at HSP hyz hno h4f h4r hnf hmk;have HNO:=qH hno;have H4F:=qH h4f;have H4R:=qH h4r;have HNF:=qH hnf;have HMK:=qH hmk;obtain ⟨n,hn⟩:=zN L.length;rw [<-hn] at HSP;have HN:=qH hn.symm;clear hL hno h4f h4r hn hnf hmk;obtain ⟨W,hW⟩:=zN (w.alloc (Obj.cells cM 100));obtain ⟨g,hg⟩:=zN w.heap.size;have hv:Below w.heap.size w W:=by rw [hW];exact zc (Below.refl _ _) _
 have HB:Hid (Blk W g 100 cM):=qH (by rw [hW,hg];exact Blk.new _ _ _);have hgw:w.heap.size<=g:=by omega
 have HW:=qH hW;have HG:=qH hg;clear hW hg;go_in;go_upto_region 1 with fail;rw [<-HW.out,<-HG.out];clear HW HG;go_wp2_with fail;refine (HSP.out _).mono ?_;rintro e W1 ⟨A,c,rfl,ho,hb⟩;have hO:=ho;have HA0:Hid (Arr W1 A (zd zt L)):=qH (by rw [xo];exact Arr.own ho);clear ho HSP;replace HB:=qH (HB.out.below hb);replace hv:=za hv hb;clear hb;by_cases hm4:n=4
 case neg=>
  have hne:((n:Int) != 4)=true:=by rw [bne_iff_ne];omega
  have HR:=qH (vN (HNO.out (fun h=>hm4 (HN.out.symm.trans h))))
  go_upto_if 20 with fail
  go_wp2_with (refine yS g cM HB.out ?_)
  have hF:Blk (World.setRow W1 g cM) g 100 cM:=setRow_heap _ _ _ _ _ _ HB.out;have hbF:=zG hv hgw cM;obtain ⟨WF,hWF⟩:=zN (World.setRow W1 g cM);rw [<-hWF] at hF hbF |-;clear hWF;obtain ⟨m0,m1,m2,m3,m4,m5⟩:=qC6 hF;go_wp2_with fail;try simp only [Exit.inBlock,Exit.then]
  refine bodyPost_ret (v:=.tuple #[.agg #[.string ⟨#[]⟩,.int .i64 0,.int .i64 0,.int .i64 0,.int .i64 0,.int .i64 0],.bool false]) (by simp [results,results170,go_sem,m0,m1,m2,m3,m4,m5]) rfl ?_;exact RetT.mk (HR.out).symm hbF
 subst hm4;obtain ⟨ga,rfl⟩:=xu hO (by omega);have HA:=HA0;clear HA0 hO;obtain ⟨nm,ft,q,p,hL⟩:=H4F.out HN.out;have hz1:=hyz.out nm (by rw [hL];simp);have hz2:=hyz.out ft (by rw [hL];simp);have hz4:=hyz.out p (by rw [hL];simp);have h0:L[0]?=some nm:=by rw [hL];rfl
 have h1:L[1]?=some ft:=by rw [hL];rfl
 have h2:L[2]?=some q:=by rw [hL];rfl
 have h3:L[3]?=some p:=by rw [hL];rfl
 have HL:=qH hL;have HI0:=qH h0;have HI1:=qH h1;have HI2:=qH h2;have HI3:=qH h3;clear hL h0 h1 h2 h3 hyz HNO H4F;have HRF:=qH (fun w=>oR ft (by omega) w);have hrd:=fun w=>xm p (by omega) w;change ∀ w,Calls prog 156 #[.string p] w (RetT #[.int .i64 (zq p),.bool (okB p)] w) at hrd;have h2':W1.cell? ⟨ga,2,none⟩=some (.string q):=yh HA.out HI2.out;have hqb:(q.toList == [112,105,116,99,104])=decide (q=wPitch):=by rw [show ([112,105,116,99,104]:List UInt8)=wPitch.toList by simp [wPitch]];exact yD _ _
 by_cases hqp:q=wPitch
 case neg=>
  rw [decide_eq_false hqp] at hqb;have HR:=qH (vN (s:=s) (by
   cases hf:xl ft with
   | none=>exact HNF.out _ _ _ _ HL.out hf
   | some f=>rw [H4R.out _ _ _ _ f HL.out hf,decide_eq_false hqp];rfl))
  clear hrd
  go_upto_if 20 with fail
  go_wp2_with (refine yS g cM HB.out ?_)
  have hF:Blk (World.setRow W1 g cM) g 100 cM:=setRow_heap _ _ _ _ _ _ HB.out;have hbF:=zG hv hgw cM;obtain ⟨WF,hWF⟩:=zN (World.setRow W1 g cM);rw [<-hWF] at hF hbF |-;clear hWF;obtain ⟨m0,m1,m2,m3,m4,m5⟩:=qC6 hF;go_wp2_with fail;try simp only [Exit.inBlock,Exit.then]
  refine bodyPost_ret (v:=.tuple #[.agg #[.string ⟨#[]⟩,.int .i64 0,.int .i64 0,.int .i64 0,.int .i64 0,.int .i64 0],.bool false]) (by simp [results,results170,go_sem,m0,m1,m2,m3,m4,m5]) rfl ?_;exact RetT.mk (HR.out).symm hbF
 rw [decide_eq_true hqp] at hqb;have HQP:=qH hqp;clear hqp;obtain ⟨b1,hb1⟩:=zN ((xl ft).isSome);obtain ⟨f,hf⟩:=zN ((xl ft).getD zFo);have hfs:b1=true->xl ft=some f:=fun h=>by
  rw [hb1] at h;rw [hf];cases hr:xl ft with
  | none=>rw [hr] at h;cases h
  | some f=>rfl
 have hfn:b1=false->xl ft=none:=fun h=>by
  rw [hb1] at h;cases hr:xl ft with
  | none=>rfl
  | some f=>rw [hr] at h;cases h
 unfold sh at HRF;rw [<-hb1,<-hf] at HRF;have HFS:=qH hfs;have HFN:=qH hfn;obtain ⟨b2,hb2⟩:=zN (okB p);rw [<-hb2] at hrd;have HB2:=qH hb2.symm;obtain ⟨np,hnp⟩:=zN (zq p);rw [<-hnp] at hrd;have HNP:=qH hnp;have HRD:=qH hrd;clear hb1 hf hfs hfn hb2 hnp hrd;have k1:W1.cell? ⟨ga,1,none⟩=some (.string ft):=yh HA.out HI1.out;go_wp2_with fail;refine qS (HRF.out _) fun W2 hb=>?_;clear k1 h2' hqb;replace HB:=qH (HB.out.below hb);replace HA:=qH (HA.out.below hb);replace hv:=za hv hb;clear hb;go_upto_region 5 with fail;obtain ⟨W3,hWn⟩:=zN (World.alloc W2 (Obj.cells (cF f) 27));obtain ⟨gf,hgn⟩:=zN W2.heap.size;have hb:Below W2.heap.size W2 W3:=by rw [hWn];exact zc (Below.refl _ _) _
 have HF:Hid (Blk W3 gf 27 (cF f)):=qH (by rw [hWn,hgn];exact Blk.new _ _ _);rw [<-hWn,<-hgn];clear hWn hgn;replace HB:=qH (HB.out.below hb);replace HA:=qH (HA.out.below hb);replace hv:=za hv hb;clear hb;have k3:W3.cell? ⟨ga,3,none⟩=some (.string p):=yh HA.out HI3.out;go_wp2_with fail;refine qS (HRD.out _) fun W4 hb=>?_;clear k3;replace HB:=qH (HB.out.below hb);replace HA:=qH (HA.out.below hb);replace HF:=qH (HF.out.below hb);replace hv:=za hv hb;clear hb;go_upto_region 6 with fail;have k0:W4.cell? ⟨ga,0,none⟩=some (.string nm):=yh HA.out HI0.out;obtain ⟨q0,q1,q2,q3⟩:=qC4 HF.out;clear HA HF;refine zH (fun w'=>Below W4.heap.size W4 w'/\True) ?_ (fun hHeld=>?_)
 ·exact ⟨(Below.refl _ _).drew,trivial⟩
 have hd9:=hHeld.1;refine zU 0 36 ?_;refine zU 1 37 ?_;refine zT 2 38 rfl (fun w hSw=>by
  have x_k0:=zb hSw.1 k0;go_simp;try with_reducible rfl) ?_
 refine zU 3 39 ?_;refine zT 4 40 rfl (fun w hSw=>by
  have x_q0:=zb hSw.1 q0;go_simp;try with_reducible rfl) ?_
 refine zU 5 41 ?_;refine zT 6 42 rfl (fun w hSw=>by
  have x_q1:=zb hSw.1 q1;go_simp;try with_reducible rfl) ?_
 refine zU 7 43 ?_;refine zT 8 44 rfl (fun w hSw=>by
  have x_q2:=zb hSw.1 q2;go_simp;try with_reducible rfl) ?_
 refine zU 9 45 ?_;refine zT 10 46 rfl (fun w hSw=>by
  have x_q3:=zb hSw.1 q3;go_simp;try with_reducible rfl) ?_
 refine zU 11 47 ?_;refine zU 12 48 ?_;clear k0 q0 q1 q2 q3;refine zR 13 (some 9) rfl (fun K hK=>?_);go_simp;go_split_ands;obtain ⟨W5,hW5⟩:=zN (World.drew (World.alloc W4 (Obj.cells cM 100)));obtain ⟨gx,hgx⟩:=zN W4.heap.size;have HX0:Hid (Blk W5 gx 100 cM):=qH (by rw [hW5,hgx];exact Blk.new W4 _ _);have hb9:Below W4.drew.heap.size W4.drew W5:=by rw [hW5];exact zc (Below.refl _ _) _
 have hgx4:W4.heap.size<=gx:=by omega
 replace hd9:=za hd9 hb9;rw [<-hW5,<-hgx];clear hW5 hgx hb9;refine zK hK ⟨hd9,trivial⟩ (fun hHeld=>?_);clear hK K;refine zR 14 none rfl (fun K hK=>?_)
 skip
 go_split_ands;refine wp_store_row 100 _ _ rfl gx #[.string nm,.int .i64 f.length,.int .i64 f.b,.int .i64 f.i,.int .i64 f.h,.int .i64 np] rfl rfl 100 cM HX0.out (by kernel_rfl) rfl (by simp [Value.oneCell']) ?_;have HX1:Hid (Blk (World.setRow W5 gx #[Value.string nm,Value.int .i64 f.length,Value.int .i64 f.b,Value.int .i64 f.i,Value.int .i64 f.h,Value.int .i64 np]) gx 100 #[.string nm,.int .i64 f.length,.int .i64 f.b,.int .i64 f.i,.int .i64 f.h,.int .i64 np]):=qH (setRow_heap _ _ _ _ _ _ HX0.out);have hd8:=zG hd9 hgx4 #[Value.string nm,Value.int .i64 f.length,Value.int .i64 f.b,Value.int .i64 f.i,Value.int .i64 f.h,Value.int .i64 np];clear HX0 hd9;obtain ⟨W6,hW6⟩:=zN (World.setRow W5 gx #[Value.string nm,Value.int .i64 f.length,Value.int .i64 f.b,Value.int .i64 f.i,Value.int .i64 f.h,Value.int .i64 np]);rw [<-hW6] at HX1 hd8 |-;clear hW6;refine hK.out _ _ ?_ (fun hHeld=>?_)
 ·(try dsimp only);go_split_ands;exact ⟨hd8,trivial⟩
 clear hK K;try simp only [Act.put]
 refine zD ?_;clear hHeld;have hb:=hd8;clear hd8;have HX:=HX1;clear HX1;replace HB:=qH (HB.out.below hb);replace hv:=za hv hb;clear hb;obtain ⟨x,hx⟩:=zN (mkL nm f p);have HX2:Hid (Blk W6 gx 100 (cL x)):=qH (by
  have h:=HX.out;rw [HNP.out] at h;rw [hx];exact h)
 have hxz:x.name.size<=4194304:=by rw [hx];exact Nat.le_trans hz1 hs
 have HXX:=qH hx;clear HX hx;cases b1
 case false=>
  have HR:=qH (vN (HNF.out _ _ _ _ HL.out (HFN.out rfl)))
  go_upto_if 59 with fail
  go_wp2_with (refine yS g cM HB.out ?_)
  have hF:Blk (World.setRow W6 g cM) g 100 cM:=setRow_heap _ _ _ _ _ _ HB.out;have hbF:=zG hv hgw cM;obtain ⟨WF,hWF⟩:=zN (World.setRow W6 g cM);rw [<-hWF] at hF hbF |-;clear hWF;obtain ⟨m0,m1,m2,m3,m4,m5⟩:=qC6 hF;go_wp2_with fail;try simp only [Exit.inBlock,Exit.then]
  refine bodyPost_ret (v:=.tuple #[.agg #[.string ⟨#[]⟩,.int .i64 0,.int .i64 0,.int .i64 0,.int .i64 0,.int .i64 0],.bool false]) (by simp [results,results170,go_sem,m0,m1,m2,m3,m4,m5]) rfl ?_;exact RetT.mk (HR.out).symm hbF
 have H4:=qH (H4R.out _ _ _ _ f HL.out (HFS.out rfl));cases b2
 case false=>
  have HR:=qH (vN (s:=s) (by rw [H4.out,HB2.out,Bool.and_false];rfl))
  go_upto_if 59 with fail
  go_wp2_with (refine yS g cM HB.out ?_)
  have hF:Blk (World.setRow W6 g cM) g 100 cM:=setRow_heap _ _ _ _ _ _ HB.out;have hbF:=zG hv hgw cM;obtain ⟨WF,hWF⟩:=zN (World.setRow W6 g cM);rw [<-hWF] at hF hbF |-;clear hWF;obtain ⟨m0,m1,m2,m3,m4,m5⟩:=qC6 hF;go_wp2_with fail;try simp only [Exit.inBlock,Exit.then]
  refine bodyPost_ret (v:=.tuple #[.agg #[.string ⟨#[]⟩,.int .i64 0,.int .i64 0,.int .i64 0,.int .i64 0,.int .i64 0],.bool false]) (by simp [results,results170,go_sem,m0,m1,m2,m3,m4,m5]) rfl ?_;exact RetT.mk (HR.out).symm hbF
 have HLT:=fun w=>tT x (by omega) w;rw [<-HXX.out] at H4;obtain ⟨c,hc⟩:=zN (zy x);rw [<-hc] at HLT;have HL9:=qH HLT;have HC:Hid (vt (wg s)=if c=true then vt (some x) else vt none):=qH (by
  rw [H4.out,HB2.out,Bool.and_true,HQP.out,decide_eq_true rfl,<-hc,Bool.true_and];cases c <;> rfl)
 clear hc HLT;obtain ⟨x0,x1,x2,x3,x4,x5⟩:=qC6 HX2.out;go_wp2_with fail;refine qS (HL9.out _) fun W7 hb=>?_;clear x0 x1 x2 x3 x4 x5;replace HB:=qH (HB.out.below hb);replace HX2:=qH (HX2.out.below hb);replace hv:=za hv hb;clear hb;cases c
 · have HR:=qH (HC.out:vt (wg s)=#[.agg #[.string ⟨#[]⟩,.int .i64 0,.int .i64 0,.int .i64 0,.int .i64 0,.int .i64 0],.bool false]);go_wp2_with (refine yS g cM HB.out ?_)
   have hF:Blk (World.setRow W7 g cM) g 100 cM:=setRow_heap _ _ _ _ _ _ HB.out;have hbF:=zG hv hgw cM;obtain ⟨WF,hWF⟩:=zN (World.setRow W7 g cM);rw [<-hWF] at hF hbF |-;clear hWF;obtain ⟨m0,m1,m2,m3,m4,m5⟩:=qC6 hF;go_wp2_with fail;(try simp only [Exit.inBlock,Exit.then]);refine bodyPost_ret (v:=.tuple #[.agg #[.string ⟨#[]⟩,.int .i64 0,.int .i64 0,.int .i64 0,.int .i64 0,.int .i64 0],.bool false]) (by simp [results,results170,go_sem,m0,m1,m2,m3,m4,m5]) rfl ?_;exact RetT.mk (HR.out).symm hbF
 have HR:=qH (HC.out:vt (wg s)=#[.agg #[.string x.name,.int .i64 x.length,.int .i64 x.b,.int .i64 x.i,.int .i64 x.h,.int .i64 x.p],.bool true]);go_wp2_with (first | (refine yL gx HX2.out underlying100 ?_) | (refine yS g (cL x) HB.out ?_))
 have hF:Blk (World.setRow W7 g (cL x)) g 100 (cL x):=setRow_heap _ _ _ _ _ _ HB.out;have hbF:=zG hv hgw (cL x);obtain ⟨WF,hWF⟩:=zN (World.setRow W7 g (cL x));rw [<-hWF] at hF hbF |-;clear hWF;obtain ⟨m0,m1,m2,m3,m4,m5⟩:=qC6 hF;go_wp2_with fail;try simp only [Exit.inBlock,Exit.then]
 refine bodyPost_ret (v:=.tuple #[.agg #[.string x.name,.int .i64 x.length,.int .i64 x.b,.int .i64 x.i,.int .i64 x.h,.int .i64 x.p],.bool true]) (by simp [results,results170,go_sem,m0,m1,m2,m3,m4,m5]) rfl ?_;exact RetT.mk (HR.out).symm hbF
def kH(p:Last × Int):Array Value:=#[.agg #[.string p.1.name,.int .i64 p.1.length,.int .i64 p.1.b,.int .i64 p.1.i,.int .i64 p.1.h,.int .i64 p.1.p],.int .i64 p.2]
theorem zah{x:Last}{k a:Int}(h:(zy x && xi k a)=false):xZ x k a=(ut,1):=by unfold xZ;rw [if_neg (by rw [h];simp)]
theorem nL{x:Last}{k a:Int}(h:(zy x && xi k a)=true)(h2:zy (xR x k a)=false):xZ x k a=(ut,10):=by unfold xZ;rw [if_pos h,if_neg (by simp [h2])]
theorem fA{x:Last}{k a:Int}(h:(zy x && xi k a)=true)(h2:zy (xR x k a)=true):xZ x k a=(xR x k a,0):=by unfold xZ;rw [if_pos h,if_pos h2]
theorem cx(x:Last)(k a:Int)(HX:Hid (zy x=true))(HC:Hid (xi k a=true))(w:World):Calls prog 136 #[.agg #[.string x.name,.int .i64 x.length,.int .i64 x.b,.int .i64 x.i,.int .i64 x.h,.int .i64 x.p],.agg #[.int .i64 k,.int .i64 a]] w (Ret (.agg #[.string (xR x k a).name,.int .i64 (xR x k a).length,.int .i64 (xR x k a).b,.int .i64 (xR x k a).i,.int .i64 (xR x k a).h,.int .i64 (xR x k a).p]) w):=by
 obtain ⟨h1,h5,h0,ha,hb⟩:=uX HC.out;rcases (show k=1\/k=2\/k=3\/k=4\/k=5 by omega) with rfl | rfl | rfl | rfl | rfl
 ·exact eG x a HX ha hb w
 ·exact eH x a HX ha hb w
 ·exact eJ x a HX ha hb w
 ·exact eK x a HX ha hb w
 ·exact eL x a HX ha hb w
theorem nG(x:Last)(k a:Int)(gc:Nat)(hs:x.name.size<=9223372036854775807)(w:World)(hB:Blk w gc 126 #[.int .i64 k,.int .i64 a]):Calls prog 80 #[.agg #[.string x.name,.int .i64 x.length,.int .i64 x.b,.int .i64 x.i,.int .i64 x.h,.int .i64 x.p],.slice (some ⟨gc,0,none⟩) 1 1] w (RetT (kH (xZ x k a)) w):=by
 have HI:=@zah x k a;have HG1:=@nL x k a;have HO1:=@fA x k a;have HC1:=fun h1 h2 w=>cx x k a (qH h1) (qH h2) w;have hyn:(xR x k a).name.size<=9223372036854775807:=by rw [pG];exact hs
 obtain ⟨y,hy⟩:=zN (xR x k a);rw [<-hy] at HG1 HO1 HC1 hyn;have HV1:=fun w=>uJ x hs w;have HV2:=fun w=>uJ y hyn w;have HV3:=fun w h=>nK k a gc w h;obtain ⟨b1,hb1⟩:=zN (zy x);obtain ⟨b2,hb2⟩:=zN (xi k a);obtain ⟨b3,hb3⟩:=zN (zy y);rw [<-hb1,<-hb2] at HI HG1 HO1 HC1;rw [<-hb1] at HV1;rw [<-hb2] at HV3;rw [<-hb3] at HV2 HG1 HO1;replace HI:=qH HI;replace HG1:=qH HG1;replace HO1:=qH HO1;replace HC1:=qH HC1;replace HV1:=qH HV1;replace HV2:=qH HV2;replace HV3:=qH HV3;obtain ⟨R,hR⟩:=zN (xZ x k a);rw [<-hR] at HI HG1 HO1 |-;clear hy hb1 hb2 hb3 hR hs hyn;obtain ⟨gx,hgx⟩:=zN w.heap.size;obtain ⟨gz,hgz⟩:=zN (w.heap.size + 1);obtain ⟨W,hW⟩:=zN ((w.alloc (Obj.cells (cL x) 100)).alloc (Obj.cells cM 100));have hv:Below w.heap.size w W:=by rw [hW];exact zc (zc (Below.refl _ _) _) _
 have HX:Hid (Blk W gx 100 (cL x)):=qH (by rw [hW,hgx];exact (Blk.new w _ _).alloc _);have HZ:Hid (Blk W gz 100 cM):=qH (by
  have h:=Blk.new (w.alloc (Obj.cells (cL x) 100)) 100 cM;rw [World.size_alloc] at h;rw [hW,hgz];exact h)
 have HB:Hid (Blk W gc 126 #[.int .i64 k,.int .i64 a]):=qH (by rw [hW];exact (hB.alloc _).alloc _);have hcx:gc < gx:=by rw [hgx];exact hB.lt
 have hzw:w.heap.size<=gz:=by omega
 have hxz:gx≠gz:=by omega
 have hxw:w.heap.size<=gx:=by omega
 have HW:=qH hW;have G1:=qH hgx;have G2:=qH hgz;clear hW hgx hgz hB;go_in;go_upto_region 1 with fail;rw [<-HW.out,<-G2.out,<-G1.out];clear HW G1 G2;go_wp2_with (refine yL gx HX.out underlying100 ?_)
 refine qS (HV1.out _) fun W1 hb=>?_;replace HX:=qH (HX.out.below hb);replace HZ:=qH (HZ.out.below hb);replace HB:=qH (HB.out.below hb);replace hv:=za hv hb;clear hb;cases b1
 case false=>
  have HR:=qH (HI.out rfl)
  go_upto_if 15 with fail
  go_wp2_with (refine yS gz cM HZ.out ?_)
  have hF:Blk (World.setRow W1 gz cM) gz 100 cM:=setRow_heap _ _ _ _ _ _ HZ.out;have hbF:=zG hv hzw cM;obtain ⟨WF,hWF⟩:=zN (World.setRow W1 gz cM);rw [<-hWF] at hF hbF |-;clear hWF;obtain ⟨m0,m1,m2,m3,m4,m5⟩:=qC6 hF;go_wp2_with fail;try simp only [Exit.inBlock,Exit.then]
  refine bodyPost_ret (v:=.tuple #[.agg #[.string ⟨#[]⟩,.int .i64 0,.int .i64 0,.int .i64 0,.int .i64 0,.int .i64 0],.int .i64 1]) (by simp [results,results80,go_sem,m0,m1,m2,m3,m4,m5]) rfl ?_;exact RetT.mk (by rw [HR.out];rfl) hbF
 go_wp2_with fail;refine qS (HV3.out _ HB.out) fun W2 hb=>?_;replace HX:=qH (HX.out.below hb);replace HZ:=qH (HZ.out.below hb);replace HB:=qH (HB.out.below hb);replace hv:=za hv hb;clear hb;cases b2
 case false=>
  have HR:=qH (HI.out rfl)
  go_upto_if 15 with fail
  go_wp2_with (refine yS gz cM HZ.out ?_)
  have hF:Blk (World.setRow W2 gz cM) gz 100 cM:=setRow_heap _ _ _ _ _ _ HZ.out;have hbF:=zG hv hzw cM;obtain ⟨WF,hWF⟩:=zN (World.setRow W2 gz cM);rw [<-hWF] at hF hbF |-;clear hWF;obtain ⟨m0,m1,m2,m3,m4,m5⟩:=qC6 hF;go_wp2_with fail;try simp only [Exit.inBlock,Exit.then]
  refine bodyPost_ret (v:=.tuple #[.agg #[.string ⟨#[]⟩,.int .i64 0,.int .i64 0,.int .i64 0,.int .i64 0,.int .i64 0],.int .i64 1]) (by simp [results,results80,go_sem,m0,m1,m2,m3,m4,m5]) rfl ?_;exact RetT.mk (by rw [HR.out];rfl) hbF
 have hk0:=yc0 HB.out;have hk1:=yc1 HB.out;clear hk0 hk1;go_wp2_with fail
 go_loopw [19] (fun i wr=>∃ j:Nat,j<=1/\i=.int .i64 j/\Hid (Blk wr gx 100 (if j=0 then (cL x) else (cL y)))/\Hid (j=1->b3=true)/\Hid (Blk wr gz 100 cM)/\Hid (Blk wr gc 126 #[.int .i64 k,.int .i64 a])/\Below w.heap.size w wr) (fun i _=>1 - (intOf i).toNat)
 case atStart=>exact ⟨0,by omega,rfl,HX,qH (by omega),HZ,HB,hv⟩
 case round=>
 clear HX HZ HB hv;obtain ⟨j,hj,rfl,HX,HJ,HZ,HB,hv⟩:=hrel;by_cases h0:j=0
 case pos=>
  subst h0;replace HX:Hid (Blk wr gx 100 (cL x)):=HX;have k0:=yc0 HB.out;have k1:=yc1 HB.out;go_upto_region 6 with fail;obtain ⟨W3,hWn⟩:=zN (World.alloc wr (Obj.cells #[.int .i64 k,.int .i64 a] 126));obtain ⟨gd,hgn⟩:=zN wr.heap.size;have hb:Below wr.heap.size wr W3:=by rw [hWn];exact zc (Below.refl _ _) _
  have HD:Hid (Blk W3 gd 126 #[.int .i64 k,.int .i64 a]):=qH (by rw [hWn,hgn];exact Blk.new _ _ _);rw [<-hWn,<-hgn];clear hWn hgn k0 k1;replace HX:=qH (HX.out.below hb);replace HZ:=qH (HZ.out.below hb);replace HB:=qH (HB.out.below hb);replace hv:=za hv hb;clear hb;go_wp2_with (first | (refine yL gx HX.out underlying100 ?_) | (refine yL gd HD.out underlying126 ?_))
  refine qS (HC1.out (by trivial) (by trivial) _) fun W4 hb=>?_;replace HX:=qH (HX.out.below hb);replace HZ:=qH (HZ.out.below hb);replace HB:=qH (HB.out.below hb);replace hv:=za hv hb;clear hb;go_upto_region 7 with (refine yS gx (cL y) HX.out ?_)
  have hXF:Blk (World.setRow W4 gx (cL y)) gx 100 (cL y):=setRow_heap _ _ _ _ _ _ HX.out;have hr9:World.grownBy W4 (World.setRow W4 gx (cL y)) (some gx):=⟨rfl,rfl,rfl,by simp,fun i _ hne=>setRow_other _ gx i (cL y) (fun e=>hne (by rw [e]))⟩
  have hZF:=HZ.out.grown hr9 (by intro e;injection e;omega);have hBF:=HB.out.grown hr9 (by intro e;injection e;omega);have hvF:=zG hv hxw (cL y);obtain ⟨W5,hW5⟩:=zN (World.setRow W4 gx (cL y));rw [<-hW5] at hXF hZF hBF hvF |-;clear hW5 hr9 HX HZ HB hv;have HX:=qH hXF;have HZ:=qH hZF;have HB:=qH hBF;have hv:=hvF;clear hXF hZF hBF hvF;go_wp2_with (refine yL gx HX.out underlying100 ?_)
  refine qS (HV2.out _) fun W6 hb=>?_;replace HX:=qH (HX.out.below hb);replace HZ:=qH (HZ.out.below hb);replace HB:=qH (HB.out.below hb);replace hv:=za hv hb;clear hb;cases b3
  · have HR:=qH (HG1.out (by trivial) (by trivial));go_wp2_with (refine yS gz cM HZ.out ?_)
    have hF:Blk (World.setRow W6 gz cM) gz 100 cM:=setRow_heap _ _ _ _ _ _ HZ.out;have hbF:=zG hv hzw cM;obtain ⟨WF,hWF⟩:=zN (World.setRow W6 gz cM);rw [<-hWF] at hF hbF |-;clear hWF;obtain ⟨m0,m1,m2,m3,m4,m5⟩:=qC6 hF;go_wp2_with fail;(try simp only [Exit.inBlock,Exit.then]);refine bodyPost_ret (v:=.tuple #[.agg #[.string ⟨#[]⟩,.int .i64 0,.int .i64 0,.int .i64 0,.int .i64 0,.int .i64 0],.int .i64 10]) (by simp [results,results80,go_sem,m0,m1,m2,m3,m4,m5]) rfl ?_;exact RetT.mk (by rw [HR.out];rfl) hbF
  go_wp2_with fail;exact ⟨⟨1,by omega,by go_num,HX,qH (by simp),HZ,HB,hv⟩,by simp [intOf]⟩
 case neg=>
 obtain rfl:j=1:=by omega
 obtain rfl:=HJ.out rfl;replace HX:Hid (Blk wr gx 100 (cL y)):=HX;have HR:=qH (HO1.out (by trivial) (by trivial));go_wp2_with (first | (refine yL gx HX.out underlying100 ?_) | (refine yS gz (cL y) HZ.out ?_))
 have hF:Blk (World.setRow wr gz (cL y)) gz 100 (cL y):=setRow_heap _ _ _ _ _ _ HZ.out;have hbF:=zG hv hzw (cL y);obtain ⟨WF,hWF⟩:=zN (World.setRow wr gz (cL y));rw [<-hWF] at hF hbF |-;clear hWF;obtain ⟨m0,m1,m2,m3,m4,m5⟩:=qC6 hF;go_wp2_with fail;try simp only [Exit.inBlock,Exit.then]
 refine bodyPost_ret (v:=.tuple #[.agg #[.string y.name,.int .i64 y.length,.int .i64 y.b,.int .i64 y.i,.int .i64 y.h,.int .i64 y.p],.int .i64 0]) (by simp [results,results80,go_sem,m0,m1,m2,m3,m4,m5]) rfl ?_;exact RetT.mk (by rw [HR.out];rfl) hbF
end Go.Proofs.YtpiehlfffjhoaaaGreatDoor
