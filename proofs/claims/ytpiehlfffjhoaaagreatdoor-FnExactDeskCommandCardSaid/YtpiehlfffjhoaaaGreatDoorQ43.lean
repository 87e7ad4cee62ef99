/- The console's reference: the command fit. -/
import Derived.Test.YtpiehlfffjhoaaaGreatDoorQ42
namespace Go.Proofs.YtpiehlfffjhoaaaGreatDoor
open Go.RowKit Go.Proofs.Tryz
set_option maxRecDepth 100000
set_option maxHeartbeats 8000000
theorem ke{P G:World->Nat->Nat->Prop}{goal:Prop}(h:Hid (∀ V a b,P V a b->G V a b)->goal)(k:∀ V a b,P V a b->G V a b):goal:=h (qH k)
theorem gF(A:Option Addr)(xs:List Last)(n c:Nat)(f:Foot)(lo hi gi:Int)(gw:Nat)(HN:Hid (xs.length=n))(hn30:n<=30)(HLB:Hid (yx xs=true))(HF:Hid (ym f=true))(w:World)(hA:Arr w A (zd Last.cells xs))(hWt:Blk w gw 2 #[.int .i64 1,.int .i64 1,.int .i64 1,.int .i64 1]) :
 Calls prog 167 #[.slice A n c,.agg #[.int .i64 f.length,.int .i64 f.b,.int .i64 f.i,.int .i64 f.h],.agg #[.int .i64 lo,.int .i64 hi,.int .i64 gi,.slice (some ⟨gw,0,none⟩) 4 4]] w (RetT #[.int .i64 (xE xs f lo hi gi).1,.int .i64 (xE xs f lo hi gi).2] w):=by
 obtain ⟨W,hW⟩:=zN ((w.alloc (Obj.cells (cF f) 27)).alloc (Obj.cells #[.int .i64 lo,.int .i64 hi,.int .i64 gi,.slice (some ⟨gw,0,none⟩) 4 4] 120));obtain ⟨gf,hgf⟩:=zN w.heap.size;obtain ⟨gp,hgp⟩:=zN (w.heap.size + 1);have hv:Below w.heap.size w W:=by rw [hW];exact zc (zc (Below.refl _ _) _) _
 have HFB:Hid (Blk W gf 27 (cF f)):=qH (by rw [hW,hgf];exact (Blk.new _ _ _).alloc _);have HPB:Hid (Blk W gp 120 #[.int .i64 lo,.int .i64 hi,.int .i64 gi,.slice (some ⟨gw,0,none⟩) 4 4]):=qH (by
  have h:=Blk.new (w.alloc (Obj.cells (cF f) 27)) 120 #[Value.int .i64 lo,Value.int .i64 hi,Value.int .i64 gi,Value.slice (some ⟨gw,0,none⟩) 4 4];rw [World.size_alloc] at h;rw [hW,hgp];exact h)
 have HRK:=fun w h1 h2=>kL A xs n c f lo hi gi gw HN hn30 HLB HF w h1 h2;unfold zbR at HRK;replace HRK:=qH HRK;have HW:=qH hW;have HGF:=qH hgf;have HGP:=qH hgp;clear hW hgf hgp;go_in;go_upto_region 1 with fail;rw [<-HW.out,<-HGP.out,<-HGF.out];clear HW HGP HGF;go_wp2_with (first
  | (refine yL gf HFB.out underlying27 ?_)
  | (refine yL gp HPB.out underlying120 ?_))
 refine (HRK.out _ (hA.below hv) (hWt.below hv)).mono ?_;rintro e W2 ⟨B,m,cb,K,rfl,hK,hb,hR⟩;have HV:=qH (za hv hb);have HR:=qH hR;clear hR hb hv hA hWt HRK HFB HPB;by_cases hft:va lo hi gi=true
 case neg=>
  replace hft:va lo hi gi=false:=by simpa using hft
  rw [hft] at hK;obtain rfl:K=1:=hK;have HE:=qH (kS (xs:=xs) (f:=f) hft);clear hft;go_wp2;go_returns;exact RetT.mk (by rw [HE.out];rfl) HV.out
 rw [hft] at hK;obtain rfl:K=0:=hK;have hbr:=zc1 (xs:=xs) (f:=f) (lo:=lo) (hi:=hi) (gi:=gi) (by rw [HLB.out,HF.out,hft];rfl);obtain ⟨hl,hAr⟩:=HR.out hft;obtain ⟨L,hL⟩:=zN (rkX f lo hi gi xs);rw [<-hL] at hl hAr hbr;have HAR:=qH hAr;clear hAr hL hft HR;cases L with
 | nil=>
   obtain rfl:m=0:=hl.symm;have HE:Hid (xE xs f lo hi gi=(0,10)):=qH hbr;clear hbr hl;go_wp2;go_returns;exact RetT.mk (by rw [HE.out];rfl) HV.out
 | cons p r=>
   have HE:Hid (xE xs f lo hi gi=((p.1:Int),0)):=qH hbr;have hm0:(m == 0)=false:=by rw [beq_eq_false_iff_ne,<-hl];simp
   have hm1:((m:Int) == 0)=false:=by rw [beq_eq_false_iff_ne,<-hl];simp;omega
   have hm2:¬ m=0:=by rw [<-hl];simp
   have hm3:(0:Int) < (m:Int):=by omega
   have hm4:0 < m:=by omega
   obtain ⟨ad,hB,_,d0⟩:=yn (k:=0) HAR.out (au (k:=0) (p:=p) rfl);subst hB;have d1:W2.cell? ad=some (.int .i64 (p.1:Int)):=by rw [<-show ad.add 0=ad from by unfold Addr.add;split <;> simp_all];exact d0
   obtain ⟨pv,hpv⟩:=zN (p.1:Int);rw [<-hpv] at HE d1;clear hbr d0 hpv hl;go_wp2;go_returns;exact RetT.mk (by rw [HE.out];rfl) HV.out
theorem zcW(w0 w:World)(g:Nat)(d:Dk)(O:List ByteArray)(ns:List Int)(ts:List ByteArray)(A Ao An At:Option Addr)(n c no co kn cn kt ct:Nat)(lo hi gi:Int)(h:SR w0 w g d O ns ts A Ao An At n c no co kn cn kt ct)(hno:no<=900000)(hd:d.ok=true)(hns:ns=[lo,hi,gi]) :
 Calls prog 102 #[.pointer (some ⟨g,0,none⟩)] w (vl w0 g (uQ d lo hi gi).1 (O ++ wS (uQ d lo hi gi)) ns ts w (.tuple #[])):=by
 subst hns;obtain ⟨ad,hAn,_,d0⟩:=yn (k:=0) h.nums rfl;obtain ⟨_,e1,_,d1⟩:=yn (k:=1) h.nums rfl;obtain ⟨_,e2,_,d2⟩:=yn (k:=2) h.nums rfl;subst hAn;injection e1 with e1;injection e2 with e2;subst e1 e2;obtain rfl:kn=3:=h.hk.symm;obtain ⟨hfB,hlB,hsB,hcB⟩:=yj hd;have hn30:n<=30:=by rw [<-h.hn];exact wj hlB
 have HBL:=qH (fun gw w h1 h2=>gF A d.xs n c d.f lo hi gi gw (qH h.hn) hn30 (qH hlB) (qH hfB) w h1 h2);have HN:=qH h.hn;have HYE:=qH (fun (hc:(xE d.xs d.f lo hi gi).2=0)=>(show uQ d lo hi gi=(d,[((d.xs[(xE d.xs d.f lo hi gi).1.toNat]?).getD ut).name],0) from if_pos hc));have HNO:=qH (fun (hc:¬ (xE d.xs d.f lo hi gi).2=0)=>(show uQ d lo hi gi=(d,[],(xE d.xs d.f lo hi gi).2) from if_neg hc));have HBZ:=qH (fun h=>pF (xs:=d.xs) (f:=d.f) (lo:=lo) (hi:=hi) (gi:=gi) h);obtain ⟨J,hJ⟩:=zN ((xE d.xs d.f lo hi gi).1);obtain ⟨K,hK⟩:=zN ((xE d.xs d.f lo hi gi).2);rw [<-hJ,<-hK] at HBL HYE HBZ;rw [<-hK] at HNO;have H:=qH h;have D0:=qH d0;have D1:=qH d1;have D2:=qH d2;clear hJ hK h hfB hlB hsB hcB hd d0 d1 d2;go_in;go_upto_region 0 with fail;apply ke (P:=fun V gt gw=>SR w0 V g d O [lo,hi,gi] ts A Ao (some ad) At n c no co 3 cn kt ct/\Blk V gt 120 #[.int .i64 lo,.int .i64 hi,.int .i64 gi,.slice (some ⟨gw,0,none⟩) 4 4]/\Blk V gw 2 #[.int .i64 1,.int .i64 1,.int .i64 1,.int .i64 1]/\w.heap.size<=V.heap.size)
 · intro key;have n0:w.cell? ad=some (.int .i64 lo):=by rw [<-show ad.add 0=ad from by unfold Addr.add;split <;> simp_all];exact D0.out
   have n1:w.cell? ⟨ad.block,ad.off + 1,none⟩=some (.int .i64 hi):=D1.out;have n2:w.cell? ⟨ad.block,ad.off + 2,none⟩=some (.int .i64 gi):=D2.out;have c16:=nF H.out.blk;refine zH (fun w'=>Below w.heap.size w w'/\True) ?_ (fun hHeld=>?_)
   ·exact ⟨(Below.refl _ _).drew,trivial⟩
   have hd9:=hHeld.1;refine zU 0 5 ?_;refine zU 1 6 ?_;refine zU 2 7 ?_;refine zT 3 8 rfl (fun w hSw=>by
    have x_c16:=zb hSw.1 c16;go_simp;try with_reducible rfl) ?_
   refine zU 4 9 ?_;refine zT 5 10 rfl (fun w hSw=>by
    have x_n0:=zb hSw.1 n0;go_simp;try with_reducible rfl) ?_
   refine zU 6 11 ?_;refine zU 7 12 ?_;refine zU 8 13 ?_;refine zT 9 14 rfl (fun w hSw=>by
    have x_c16:=zb hSw.1 c16;go_simp;try with_reducible rfl) ?_
   refine zU 10 15 ?_;refine zT 11 16 rfl (fun w hSw=>by
    have x_n1:=zb hSw.1 n1;go_simp;try with_reducible rfl) ?_
   refine zU 12 17 ?_;refine zU 13 18 ?_;refine zU 14 19 ?_;refine zT 15 20 rfl (fun w hSw=>by
    have x_c16:=zb hSw.1 c16;go_simp;try with_reducible rfl) ?_
   refine zU 16 21 ?_;refine zT 17 22 rfl (fun w hSw=>by
    have x_n2:=zb hSw.1 n2;go_simp;try with_reducible rfl) ?_
   clear n0 n1 n2 c16;refine wpAnyH_ready (rs:=[18,20]) (by as_aux_lemma=>kernel_rfl) (by simp) ?_;refine AllReadyH.cons (o:={ dst:=some 23,op:=_,type:=_,pos:=_,after:=_,guard:=_ }) rfl (fun K hK=>?_) (AllReadyH.cons (o:={ dst:=some 2,op:=_,type:=_,pos:=_,after:=_,guard:=_ }) rfl (fun K hK=>?_) AllReadyH.nil)
   · go_simp;go_split_ands;obtain ⟨gw,hgw⟩:=zN w.heap.size;obtain ⟨W3,hW3⟩:=zN (World.drew (World.alloc w (Obj.cells #[.int .i64 1,.int .i64 1,.int .i64 1,.int .i64 1] 2)));have HBW:Hid (Blk W3 gw 2 #[.int .i64 1,.int .i64 1,.int .i64 1,.int .i64 1]):=qH (by rw [hW3,hgw];exact Blk.new w _ _);have hb9:Below w.drew.heap.size w.drew W3:=by rw [hW3];exact zc (Below.refl _ _) _
     have hd8:=za hd9 hb9;have hz_gw:w.heap.size<=gw:=by omega
     rw [<-hW3,<-hgw];clear hb9 hgw hW3;refine zK hK ⟨hd8,trivial⟩ (fun hHeld=>?_);clear hK K;refine zU 19 24 ?_;refine zR 20 (some 2) rfl (fun K hK=>?_);go_simp;go_split_ands;obtain ⟨gt,hgt⟩:=zN W3.heap.size;obtain ⟨W4,hW4⟩:=zN (World.alloc W3 (Obj.cells #[.int .i64 0,.int .i64 0,.int .i64 0,.slice none 0 0] 120));have HBT:Hid (Blk W4 gt 120 #[.int .i64 0,.int .i64 0,.int .i64 0,.slice none 0 0]):=qH (by rw [hW4,hgt];exact Blk.new _ _ _);have hb9:Below W3.heap.size W3 W4:=by rw [hW4];exact zc (Below.refl _ _) _
     have hd7:=za hd8 hb9;have hz_gt:w.heap.size<=gt:=by have:=hd8.size;omega
     rw [<-hW4,<-hgt];have hne:gt≠gw:=by have:=HBW.out.lt;omega
     replace HBW:=qH (HBW.out.below hb9);clear hb9 hgt hW4;refine zK hK ⟨hd7,trivial⟩ (fun hHeld=>?_);clear hK K;refine zR 21 none rfl (fun K hK=>?_)
     skip
     go_split_ands;refine wp_store_row 120 _ _ rfl gt #[.int .i64 lo,.int .i64 hi,.int .i64 gi,.slice (some ⟨gw,0,none⟩) 4 4] rfl rfl 120 #[Value.int .i64 0,Value.int .i64 0,Value.int .i64 0,Value.slice none 0 0] HBT.out (by kernel_rfl) rfl (by simp [Value.oneCell']) ?_;have HF4:Hid (Blk (World.setRow W4 gt #[Value.int .i64 lo,Value.int .i64 hi,Value.int .i64 gi,Value.slice (some ⟨gw,0,none⟩) 4 4]) gt 120 #[.int .i64 lo,.int .i64 hi,.int .i64 gi,.slice (some ⟨gw,0,none⟩) 4 4]):=qH (setRow_heap _ _ _ _ _ _ HBT.out);have HG4:=qH (HBW.out.grown (yl W4 gt #[Value.int .i64 lo,Value.int .i64 hi,Value.int .i64 gi,Value.slice (some ⟨gw,0,none⟩) 4 4]) (fun e=>by injection e with e;omega));have hd6:=zg hd7 hz_gt #[Value.int .i64 lo,Value.int .i64 hi,Value.int .i64 gi,Value.slice (some ⟨gw,0,none⟩) 4 4];obtain ⟨W5,hW5⟩:=zN (World.setRow W4 gt #[Value.int .i64 lo,Value.int .i64 hi,Value.int .i64 gi,Value.slice (some ⟨gw,0,none⟩) 4 4]);rw [<-hW5] at HF4 HG4 hd6 |-;clear hW5;refine hK.out _ _ ?_ (fun hHeld=>?_)
     ·(try dsimp only);go_split_ands;exact ⟨hd6,trivial⟩
     clear hK K;(try simp only [Act.put]);refine zD ?_;clear hHeld;exact key.out W5 gt gw ⟨H.out.below hd6,HF4.out,HG4.out,hd6.size⟩
   · go_simp;go_split_ands;obtain ⟨gt,hgt⟩:=zN w.heap.size;obtain ⟨W3,hW3⟩:=zN (World.drew (World.alloc w (Obj.cells #[.int .i64 0,.int .i64 0,.int .i64 0,.slice none 0 0] 120)));have HBT:Hid (Blk W3 gt 120 #[.int .i64 0,.int .i64 0,.int .i64 0,.slice none 0 0]):=qH (by rw [hW3,hgt];exact Blk.new w _ _);have hb9:Below w.drew.heap.size w.drew W3:=by rw [hW3];exact zc (Below.refl _ _) _
     have hd8:=za hd9 hb9;have hz_gt:w.heap.size<=gt:=by omega
     rw [<-hW3,<-hgt];clear hb9 hgt hW3;refine zK hK ⟨hd8,trivial⟩ (fun hHeld=>?_);clear hK K;refine zR 18 (some 23) rfl (fun K hK=>?_);go_simp;go_split_ands;obtain ⟨gw,hgw⟩:=zN W3.heap.size;obtain ⟨W4,hW4⟩:=zN (World.alloc W3 (Obj.cells #[.int .i64 1,.int .i64 1,.int .i64 1,.int .i64 1] 2));have HBW:Hid (Blk W4 gw 2 #[.int .i64 1,.int .i64 1,.int .i64 1,.int .i64 1]):=qH (by rw [hW4,hgw];exact Blk.new _ _ _);have hb9:Below W3.heap.size W3 W4:=by rw [hW4];exact zc (Below.refl _ _) _
     have hd7:=za hd8 hb9;have hz_gw:w.heap.size<=gw:=by have:=hd8.size;omega
     rw [<-hW4,<-hgw];have hne:gt≠gw:=by have:=HBT.out.lt;omega
     replace HBT:=qH (HBT.out.below hb9);clear hb9 hgw hW4;refine zK hK ⟨hd7,trivial⟩ (fun hHeld=>?_);clear hK K;refine zU 19 24 ?_;refine zR 21 none rfl (fun K hK=>?_)
     skip
     go_split_ands;refine wp_store_row 120 _ _ rfl gt #[.int .i64 lo,.int .i64 hi,.int .i64 gi,.slice (some ⟨gw,0,none⟩) 4 4] rfl rfl 120 #[Value.int .i64 0,Value.int .i64 0,Value.int .i64 0,Value.slice none 0 0] HBT.out (by kernel_rfl) rfl (by simp [Value.oneCell']) ?_;have HF4:Hid (Blk (World.setRow W4 gt #[Value.int .i64 lo,Value.int .i64 hi,Value.int .i64 gi,Value.slice (some ⟨gw,0,none⟩) 4 4]) gt 120 #[.int .i64 lo,.int .i64 hi,.int .i64 gi,.slice (some ⟨gw,0,none⟩) 4 4]):=qH (setRow_heap _ _ _ _ _ _ HBT.out);have HG4:=qH (HBW.out.grown (yl W4 gt #[Value.int .i64 lo,Value.int .i64 hi,Value.int .i64 gi,Value.slice (some ⟨gw,0,none⟩) 4 4]) (fun e=>by injection e with e;omega));have hd6:=zg hd7 hz_gt #[Value.int .i64 lo,Value.int .i64 hi,Value.int .i64 gi,Value.slice (some ⟨gw,0,none⟩) 4 4];obtain ⟨W5,hW5⟩:=zN (World.setRow W4 gt #[Value.int .i64 lo,Value.int .i64 hi,Value.int .i64 gi,Value.slice (some ⟨gw,0,none⟩) 4 4]);rw [<-hW5] at HF4 HG4 hd6 |-;clear hW5;refine hK.out _ _ ?_ (fun hHeld=>?_)
     ·(try dsimp only);go_split_ands;exact ⟨hd6,trivial⟩
     clear hK K;(try simp only [Act.put]);refine zD ?_;clear hHeld;exact key.out W5 gt gw ⟨H.out.below hd6,HF4.out,HG4.out,hd6.size⟩
 intro V gt gw hP;obtain ⟨hS,hT,hW,hz⟩:=hP;have HS:=qH hS;have HTB:=qH hT;have HWB:=qH hW;have HZV:=qH hz;clear hS hT hW hz;have c4:=yc4 HS.out.blk;have f0:=yc0 HS.out.blk;have f1:=yc1 HS.out.blk;have f2:=yc2 HS.out.blk;have f3:=yc3 HS.out.blk;obtain ⟨t0,t1,t2,t3⟩:=qC4 HTB.out;go_upto_region 1 with fail;refine zH (fun w'=>Below V.heap.size V w'/\True) ?_ (fun hHeld=>?_)
 ·exact ⟨(Below.refl _ _).drew,trivial⟩
 have hd9:=hHeld.1;refine zU 0 26 ?_;refine zU 1 27 ?_;refine zU 2 28 ?_;refine zU 3 29 ?_;refine zT 4 30 rfl (fun w hSw=>by
  have x_c4:=zb hSw.1 c4;go_simp;try with_reducible rfl) ?_
 refine zU 5 31 ?_;refine zU 6 32 ?_;refine zU 7 33 ?_;refine zU 8 34 ?_;refine zT 9 35 rfl (fun w hSw=>by
  have x_f0:=zb hSw.1 f0;have x_f1:=zb hSw.1 f1;have x_f2:=zb hSw.1 f2;have x_f3:=zb hSw.1 f3;go_simp;try with_reducible rfl) ?_
 refine zT 10 36 rfl (fun w hSw=>by
  have x_t0:=zb hSw.1 t0;have x_t1:=zb hSw.1 t1;have x_t2:=zb hSw.1 t2;have x_t3:=zb hSw.1 t3;go_simp;try with_reducible rfl) ?_
 refine zR 11 (some 37) rfl (fun K hK=>?_);go_simp;go_split_ands;refine qS (HBL.out gw _ (Arr.own (ze HS.out.own hd9)) (HWB.out.below hd9)) fun W2 hb9=>?_;replace hd9:=za hd9 hb9;clear hb9;go_wp2_with fail;refine zK hK ⟨hd9,trivial⟩ (fun hHeld=>?_);clear hK K;refine zU 12 25 ?_;refine zU 13 38 ?_;refine zU 14 39 ?_;refine zU 15 3 ?_;refine zU 16 4 ?_;refine zD ?_;clear hHeld c4 f0 f1 f2 f3 t0 t1 t2 t3 HBL HTB HWB;have HSV:=qH (HS.out.below hd9);have HZ2:=qH hd9.size;clear hd9 HS;by_cases hc:K=0
 case neg=>
  have HE:=qH (HNO.out hc);have HCC:=qH hc;have HRP:=qH (yP w0 W2 g d O [lo,hi,gi] ts A Ao (some ad) At n c no co 3 cn kt ct HSV.out (by omega) K);rw [if_neg hc,decide_eq_true hc] at HRP;clear hc;go_wp2_with fail;refine HRP.out.mono ?_;rintro e W5 ⟨rfl,hz5,hr5⟩;go_wp2;go_returns;have hzv:=HZV.out;have hz2:=HZ2.out;rw [HE.out,show wS (d,[],K)=[wZ K] from if_neg HCC.out];exact ⟨rfl,by omega,hr5⟩
 subst hc;have HE0:=HYE.out rfl;obtain ⟨k,x,rfl,hx,_⟩:=HBZ.out rfl;rw [Int.toNat_natCast,hx] at HE0;have HE:Hid (uQ d lo hi gi=(d,[x.name],0)):=qH HE0;have HR0:=qH (fun W=>vG (.pointer (some ⟨g,0,none⟩)) W);obtain ⟨ad2,hA2,hab,e0,e1,e2,e3,e4,e5⟩:=Last.at_ (Arr.own HSV.out.own) hx;have hkn:k < n:=by rw [<-HN.out];exact (List.getElem?_eq_some_iff.1 hx).1
 have c4:=yc4 HSV.out.blk;have hk0:(0:Int)<=(k:Int):=by omega
 have hk1:(k:Int) < (n:Int):=by omega
 subst hA2;clear HE0 hx hab e1 e2 e3 e4 e5 HBZ HYE HNO;go_wp2_with fail;refine qR (HR0.out _) ?_;go_wp2_with fail;refine (sZ w0 W2 g d O [lo,hi,gi] ts (some ad2) Ao (some ad) At n c no co 3 cn kt ct HSV.out (by omega) x.name).mono ?_;rintro e W5 ⟨rfl,hz5,hr5⟩;go_wp2;go_returns;have hzv:=HZV.out;have hz2:=HZ2.out;rw [HE.out];exact ⟨rfl,by omega,hr5⟩
end Go.Proofs.YtpiehlfffjhoaaaGreatDoor
