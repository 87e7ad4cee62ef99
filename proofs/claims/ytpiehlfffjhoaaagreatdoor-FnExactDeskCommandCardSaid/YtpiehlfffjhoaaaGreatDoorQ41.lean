/- The console's reference: what a last costs for a foot. -/
import Derived.Test.YtpiehlfffjhoaaaGreatDoorQ40
namespace Go.Proofs.YtpiehlfffjhoaaaGreatDoor
open Go.RowKit Go.Proofs.Tryz
set_option maxRecDepth 100000
set_option maxHeartbeats 8000000
def csR(x:Last)(f:Foot)(lo hi gi:Int):Int:=if okC x f lo hi gi=true then vB x f lo else -1
theorem mN{x:Last}{f:Foot}{lo hi gi:Int}(h:okC x f lo hi gi=true):csR x f lo hi gi=vB x f lo:=if_pos h
theorem kX{x:Last}{f:Foot}{lo hi gi:Int}(h:okC x f lo hi gi=false):csR x f lo hi gi = -1:=if_neg (by simp [h])
theorem dt(v:Int)(h1:-10000<=v)(h2:v<=10000)(w:World):Calls prog 282 #[.int .i64 v] w (RetQ (.int .i64 (max v (-v))) w):=by
 have hw:IntKind.i64.wrap (-v) = -v:=IntWalk.i64_in _ (by omega);by_cases h:v < 0
 · have e:max v (-v) = -v:=by omega
   rw [e];go_in;go_wp2;go_returns;exact RetQ.mk rfl
 · have e:max v (-v)=v:=by omega
   rw [e];go_in;go_wp2;go_returns;exact RetQ.mk rfl
theorem zaj(a b:Int):max (a - b) (-(a - b))=apt a b:=by unfold apt;omega
theorem za8(lo hi gi:Int)(gp gw:Nat)(w:World)(hP:Blk w gp 120 #[.int .i64 lo,.int .i64 hi,.int .i64 gi,.slice (some ⟨gw,0,none⟩) 4 4])(hW:Blk w gw 2 #[.int .i64 1,.int .i64 1,.int .i64 1,.int .i64 1]):Calls prog 281 #[.pointer (some ⟨gp,0,none⟩)] w (Ret (.bool (va lo hi gi)) w):=by
 obtain ⟨p0,p1,p2,p3⟩:=qC4 hP;have HWK:=qH (fun (k:Nat) (h:k < 4)=>(show w.cell? ⟨gw,k,none⟩=some (.int .i64 1) by
  have hk:k=0\/k=1\/k=2\/k=3:=by omega
  rcases hk with rfl | rfl | rfl | rfl
  ·exact hW.cell 0
  ·exact hW.cell 1
  ·exact hW.cell 2
  ·exact hW.cell 3))
 have HI1:=fun w=>xJ 1 0 100 w;rw [show inB 1 0 100=true from by decide] at HI1;replace HI1:=qH HI1;have HA:=fun w=>xJ hi 0 500 w;have HB:=fun w=>xJ lo 0 hi w;have HC:=fun w=>xJ gi 0 500 w;have HE:va lo hi gi=(inB hi 0 500 && (inB lo 0 hi && inB gi 0 500)):=rfl;obtain ⟨b1,e1⟩:=zN (inB hi 0 500);obtain ⟨b2,e2⟩:=zN (inB lo 0 hi);obtain ⟨b3,e3⟩:=zN (inB gi 0 500);rw [<-e1] at HA HE;rw [<-e2] at HB HE;rw [<-e3] at HC HE;replace HA:=qH HA;replace HB:=qH HB;replace HC:=qH HC;replace HE:=qH HE;clear e1 e2 e3 hP hW;go_in;go_wp2_with fail
 go_loopw [3] (fun i wr=>∃ k:Nat,k<=4/\i=.int .i64 k/\Below w.heap.size w wr) (fun i _=>4 - (intOf i).toNat)
 case atStart=>exact ⟨0,by omega,rfl,Below.refl _ _⟩
 case round=>
 obtain ⟨k,hk,rfl,hv⟩:=hrel;have hk0:(0:Int)<=(k:Int):=by omega
 have y3:wr.cell? ⟨gp,3,none⟩=some (.slice (some ⟨gw,0,none⟩) 4 4):=zb hv p3;by_cases hlt:k < 4
 case pos=>
  have hi1:(k:Int) < 4:=by omega
  have yk:wr.cell? ⟨gw,k,none⟩=some (.int .i64 1):=zb hv (HWK.out k hlt);go_wp2_with fail;refine qR (HI1.out _) ?_;go_wp2_with fail;exact ⟨⟨k + 1,by omega,by go_num,hv⟩,by simp [intOf];omega⟩
 case neg=>
 have hi1:¬ (k:Int) < 4:=by omega
 obtain rfl:k=4:=by omega
 go_upto_region 6 with fail;clear y3 hi1 hlt hk hk0;cases b1
 · skip
   refine zH (fun w'=>Below w.heap.size w w'/\True) ?_ (fun hHeld=>?_)
   ·exact ⟨hv.drew,trivial⟩
   have hd9:=hHeld.1;refine zU 0 22 ?_;refine zU 1 23 ?_;refine zU 2 24 ?_;refine zT 3 25 rfl (fun w hSw=>by
    have x_p1:=zb hSw.1 p1;go_simp;try with_reducible rfl) ?_
   refine zR 4 (some 26) rfl (fun K hK=>?_);go_simp;go_split_ands;refine qR (HA.out _) ?_;go_wp2_with fail;refine zK hK ⟨hd9,trivial⟩ (fun hHeld=>?_);clear hK K;refine zU 5 27 ?_;refine zS 6 28 ?_;refine zS 7 29 ?_;refine zS 8 30 ?_;refine zS 9 31 ?_;refine zS 10 32 ?_;refine zS 11 33 ?_;refine zS 12 34 ?_;refine zS 13 35 ?_;refine zS 14 36 ?_;refine zU 15 37 ?_;refine zU 16 38 ?_;refine zS 17 39 ?_;refine zS 18 40 ?_;refine zS 19 41 ?_;refine zS 20 42 ?_;refine zS 21 43 ?_;refine zU 22 44 ?_;refine zU 23 45 ?_;refine zS 24 46 ?_;refine zS 25 47 ?_;refine zS 26 48 ?_;refine zS 27 49 ?_;refine zS 28 50 ?_;refine zS 29 51 ?_;refine zU 30 52 ?_;refine zU 31 2 ?_;refine zD ?_;clear hHeld;go_wp2;go_returns;exact Ret.mk (vb HE.out.symm) hv.drew
 cases b2
 · skip
   refine zH (fun w'=>Below w.heap.size w w'/\True) ?_ (fun hHeld=>?_)
   ·exact ⟨hv.drew,trivial⟩
   have hd9:=hHeld.1;refine zU 0 22 ?_;refine zU 1 23 ?_;refine zU 2 24 ?_;refine zT 3 25 rfl (fun w hSw=>by
    have x_p1:=zb hSw.1 p1;go_simp;try with_reducible rfl) ?_
   refine zR 4 (some 26) rfl (fun K hK=>?_);go_simp;go_split_ands;refine qR (HA.out _) ?_;go_wp2_with fail;refine zK hK ⟨hd9,trivial⟩ (fun hHeld=>?_);clear hK K;refine zU 5 27 ?_;refine zU 6 28 ?_;refine zU 7 29 ?_;refine zU 8 30 ?_;refine zT 9 31 rfl (fun w hSw=>by
    have x_p0:=zb hSw.1 p0;go_simp;try with_reducible rfl) ?_
   refine zU 10 32 ?_;refine zU 11 33 ?_;refine zU 12 34 ?_;refine zT 13 35 rfl (fun w hSw=>by
    have x_p1:=zb hSw.1 p1;go_simp;try with_reducible rfl) ?_
   refine zR 14 (some 36) rfl (fun K hK=>?_);go_simp;go_split_ands;refine qR (HB.out _) ?_;go_wp2_with fail;refine zK hK ⟨hd9,trivial⟩ (fun hHeld=>?_);clear hK K;refine zU 15 37 ?_;refine zU 16 38 ?_;refine zS 17 39 ?_;refine zS 18 40 ?_;refine zS 19 41 ?_;refine zS 20 42 ?_;refine zS 21 43 ?_;refine zU 22 44 ?_;refine zU 23 45 ?_;refine zS 24 46 ?_;refine zS 25 47 ?_;refine zS 26 48 ?_;refine zS 27 49 ?_;refine zS 28 50 ?_;refine zS 29 51 ?_;refine zU 30 52 ?_;refine zU 31 2 ?_;refine zD ?_;clear hHeld;go_wp2;go_returns;exact Ret.mk (vb HE.out.symm) hv.drew
 cases b3
 · skip
   refine zH (fun w'=>Below w.heap.size w w'/\True) ?_ (fun hHeld=>?_)
   ·exact ⟨hv.drew,trivial⟩
   have hd9:=hHeld.1;refine zU 0 22 ?_;refine zU 1 23 ?_;refine zU 2 24 ?_;refine zT 3 25 rfl (fun w hSw=>by
    have x_p1:=zb hSw.1 p1;go_simp;try with_reducible rfl) ?_
   refine zR 4 (some 26) rfl (fun K hK=>?_);go_simp;go_split_ands;refine qR (HA.out _) ?_;go_wp2_with fail;refine zK hK ⟨hd9,trivial⟩ (fun hHeld=>?_);clear hK K;refine zU 5 27 ?_;refine zU 6 28 ?_;refine zU 7 29 ?_;refine zU 8 30 ?_;refine zT 9 31 rfl (fun w hSw=>by
    have x_p0:=zb hSw.1 p0;go_simp;try with_reducible rfl) ?_
   refine zU 10 32 ?_;refine zU 11 33 ?_;refine zU 12 34 ?_;refine zT 13 35 rfl (fun w hSw=>by
    have x_p1:=zb hSw.1 p1;go_simp;try with_reducible rfl) ?_
   refine zR 14 (some 36) rfl (fun K hK=>?_);go_simp;go_split_ands;refine qR (HB.out _) ?_;go_wp2_with fail;refine zK hK ⟨hd9,trivial⟩ (fun hHeld=>?_);clear hK K;refine zU 15 37 ?_;refine zU 16 38 ?_;refine zU 17 39 ?_;refine zU 18 40 ?_;refine zU 19 41 ?_;refine zT 20 42 rfl (fun w hSw=>by
    have x_p2:=zb hSw.1 p2;go_simp;try with_reducible rfl) ?_
   refine zR 21 (some 43) rfl (fun K hK=>?_);go_simp;go_split_ands;refine qR (HC.out _) ?_;go_wp2_with fail;refine zK hK ⟨hd9,trivial⟩ (fun hHeld=>?_);clear hK K;refine zU 22 44 ?_;refine zU 23 45 ?_;refine zS 24 46 ?_;refine zS 25 47 ?_;refine zS 26 48 ?_;refine zS 27 49 ?_;refine zS 28 50 ?_;refine zS 29 51 ?_;refine zU 30 52 ?_;refine zU 31 2 ?_;refine zD ?_;clear hHeld;go_wp2;go_returns;exact Ret.mk (vb HE.out.symm) hv.drew
 · skip
   refine zH (fun w'=>Below w.heap.size w w'/\True) ?_ (fun hHeld=>?_)
   ·exact ⟨hv.drew,trivial⟩
   have hd9:=hHeld.1;refine zU 0 22 ?_;refine zU 1 23 ?_;refine zU 2 24 ?_;refine zT 3 25 rfl (fun w hSw=>by
    have x_p1:=zb hSw.1 p1;go_simp;try with_reducible rfl) ?_
   refine zR 4 (some 26) rfl (fun K hK=>?_);go_simp;go_split_ands;refine qR (HA.out _) ?_;go_wp2_with fail;refine zK hK ⟨hd9,trivial⟩ (fun hHeld=>?_);clear hK K;refine zU 5 27 ?_;refine zU 6 28 ?_;refine zU 7 29 ?_;refine zU 8 30 ?_;refine zT 9 31 rfl (fun w hSw=>by
    have x_p0:=zb hSw.1 p0;go_simp;try with_reducible rfl) ?_
   refine zU 10 32 ?_;refine zU 11 33 ?_;refine zU 12 34 ?_;refine zT 13 35 rfl (fun w hSw=>by
    have x_p1:=zb hSw.1 p1;go_simp;try with_reducible rfl) ?_
   refine zR 14 (some 36) rfl (fun K hK=>?_);go_simp;go_split_ands;refine qR (HB.out _) ?_;go_wp2_with fail;refine zK hK ⟨hd9,trivial⟩ (fun hHeld=>?_);clear hK K;refine zU 15 37 ?_;refine zU 16 38 ?_;refine zU 17 39 ?_;refine zU 18 40 ?_;refine zU 19 41 ?_;refine zT 20 42 rfl (fun w hSw=>by
    have x_p2:=zb hSw.1 p2;go_simp;try with_reducible rfl) ?_
   refine zR 21 (some 43) rfl (fun K hK=>?_);go_simp;go_split_ands;refine qR (HC.out _) ?_;go_wp2_with fail;refine zK hK ⟨hd9,trivial⟩ (fun hHeld=>?_);clear hK K;refine zU 22 44 ?_;refine zU 23 45 ?_;refine zU 24 46 ?_;refine zU 25 47 ?_;refine zU 26 48 ?_;refine zT 27 49 rfl (fun w hSw=>by
    have x_p3:=zb hSw.1 p3;go_simp;try with_reducible rfl) ?_
   refine zU 28 50 ?_;refine zU 29 51 ?_;refine zU 30 52 ?_;refine zU 31 2 ?_;refine zD ?_;clear hHeld;go_wp2;go_returns;exact Ret.mk (vb HE.out.symm) hv.drew
theorem lC(x:Last)(f:Foot)(lo hi gi:Int)(gp gw:Nat)(HX:Hid (zy x=true))(HF:Hid (ym f=true))(HT:Hid (va lo hi gi=true))(w:World)(hP:Blk w gp 120 #[.int .i64 lo,.int .i64 hi,.int .i64 gi,.slice (some ⟨gw,0,none⟩) 4 4])(hWt:Blk w gw 2 #[.int .i64 1,.int .i64 1,.int .i64 1,.int .i64 1]) :
 Calls prog 271 #[.agg #[.string x.name,.int .i64 x.length,.int .i64 x.b,.int .i64 x.i,.int .i64 x.h,.int .i64 x.p],.agg #[.int .i64 f.length,.int .i64 f.b,.int .i64 f.i,.int .i64 f.h],.pointer (some ⟨gp,0,none⟩)] w (Ret (.int .i64 (csR x f lo hi gi)) w):=by
 obtain ⟨⟨l1,l2⟩,⟨m1,m2⟩,⟨n1,n2⟩,⟨o1,o2⟩,_⟩:=uZ HX.out;obtain ⟨⟨q1,q2⟩,⟨r1,r2⟩,⟨s1,s2⟩,⟨t1,t2⟩⟩:=wH HF.out;have hft:=HT.out;unfold va at hft;simp only [Bool.and_eq_true,inB_iff] at hft;obtain ⟨⟨u1,u2⟩,⟨u3,u4⟩,u5,u6⟩:=hft;have HBD:=qH (fun k (hk:k<=4)=>(show -5500<=wO x f lo k/\wO x f lo k<=20000 by
  have a1:=wX m1 m2 r1 r2;have a2:=wX n1 n2 s1 s2;have a3:=wX o1 o2 t1 t2;unfold wO rmP
  repeat' split
  all_goals omega))
 have HLF:=qH (fun w=>rP x w);have HFX:=qH (fun w=>rO x.foot w);have HFF:=qH (fun w=>rO f w);obtain ⟨W,hW⟩:=zN ((w.alloc (Obj.cells (cL x) 100)).alloc (Obj.cells (cF f) 27));obtain ⟨gx,hgx⟩:=zN w.heap.size;obtain ⟨gf,hgf⟩:=zN (w.heap.size + 1);have hv:Below w.heap.size w W:=by rw [hW];exact zc (zc (Below.refl _ _) _) _
 have hX:Hid (Blk W gx 100 (cL x)):=qH (by rw [hW,hgx];exact (Blk.new _ _ _).alloc _);have hFB:Hid (Blk W gf 27 (cF f)):=qH (by
  have h:=Blk.new (w.alloc (Obj.cells (cL x) 100)) 27 (cF f);rw [World.size_alloc] at h;rw [hW,hgf];exact h)
 have HW:=qH hW;have HGX:=qH hgx;have HGF:=qH hgf;clear hW hgx hgf;go_in;go_upto_region 1 with fail;rw [<-HW.out,<-HGF.out,<-HGX.out];clear HW HGX HGF;go_wp2_with (refine yL gx hX.out underlying100 ?_)
 refine qS (HLF.out _) fun W1 hb=>?_;replace hv:=za hv hb;replace hFB:=qH (hFB.out.below hb);clear hb HLF hX;go_wp2_with fail;refine (HFX.out _).mono ?_;rintro e W2 ⟨ga,rfl,hga,hBA,hb⟩;have HBA:Hid (Blk W2 ga 2 (cH x)):=qH hBA;replace hv:=za hv hb;replace hFB:=qH (hFB.out.below hb);clear hb hBA HFX;go_wp2_with (refine yL gf hFB.out underlying27 ?_)
 refine (HFF.out _).mono ?_;rintro e W3 ⟨gb,rfl,hgb,hBB,hb⟩;have HBB:Hid (Blk W3 gb 2 (cF f)):=qH hBB;replace HBA:=qH (HBA.out.below hb);replace hv:=za hv hb;have HV:=qH hv;have HPB:=qH (hP.below hv);have HWB:=qH (hWt.below hv);clear hb hBB HFF hFB hga hgb hv hP hWt;have a0:=yc0 HBA.out;have b0:=yc0 HBB.out;obtain ⟨p0,p1,p2,p3⟩:=qC4 HPB.out;have w0:=yc0 HWB.out;have hrm:IntKind.i64.wrap (x.length - f.length)=x.length - f.length:=IntWalk.i64_in _ (by omega);go_upto_region 3 with fail;refine zH (fun w'=>Below W3.heap.size W3 w'/\True) ?_ (fun hHeld=>?_)
 ·exact ⟨(Below.refl _ _).drew,trivial⟩
 refine zU 0 18 ?_;refine zU 1 19 ?_;refine zT 2 20 rfl (fun w hSw=>by
  have x_a0:=zb hSw.1 a0;go_simp;try with_reducible rfl) ?_
 refine zU 3 21 ?_;refine zU 4 22 ?_;refine zT 5 23 rfl (fun w hSw=>by
  have x_b0:=zb hSw.1 b0;go_simp;try with_reducible rfl) ?_
 refine zU 6 24 ?_;refine zU 7 9 ?_;refine zD ?_;clear hHeld;obtain ⟨rm,hrm2⟩:=zN (x.length - f.length);rw [<-hrm2];have HRM:=qH (show rm=rmP x f from hrm2);have hrw:IntKind.i64.wrap (rm - lo)=rm - lo:=IntWalk.i64_in _ (by omega);have hrw2:IntKind.i64.wrap (1 * (rm - lo))=rm - lo:=by rw [Int.one_mul];exact hrw
 have HIN:=fun w=>xJ rm lo hi w;have HO0:=qH (show okK x f lo hi gi 1=inB rm lo hi by unfold okK;rw [HRM.out];simp);have HNO:=qH (fun (h:inB rm lo hi=false)=>(show okC x f lo hi gi=false by unfold okC;rw [<-HRM.out,h];rfl));have HK0:=qH (show rm - lo=wO x f lo 1 by unfold wO;rw [HRM.out];simp);obtain ⟨bi,hbi⟩:=zN (inB rm lo hi);rw [<-hbi] at HIN HO0 HNO;replace HIN:=qH HIN;clear hbi hrm2 hrm a0 b0;go_upto_region 4 with fail;refine zH (fun w'=>Below W3.heap.size W3 w'/\True) ?_ (fun hHeld=>?_)
 ·exact ⟨(Below.refl _ _).drew.drew,trivial⟩
 refine zU 0 25 ?_;refine zU 1 26 ?_;refine zU 2 27 ?_;refine zU 3 28 ?_;refine zT 4 29 rfl (fun w hSw=>by
  have x_p0:=zb hSw.1 p0;go_simp;try with_reducible rfl) ?_
 refine zU 5 30 ?_;refine zU 6 31 ?_;refine zU 7 32 ?_;refine zT 8 33 rfl (fun w hSw=>by
  have x_p1:=zb hSw.1 p1;go_simp;try with_reducible rfl) ?_
 refine zR 9 (some 34) rfl (fun K hK=>?_);go_simp;go_split_ands;refine qR (HIN.out _) ?_;go_wp2_with fail;refine zK hK ⟨(Below.refl _ _).drew.drew,trivial⟩ (fun hHeld=>?_);clear hK K;refine zU 10 35 ?_;refine zD ?_;clear hHeld HIN;cases bi
 case false=>
  have HE:=qH (kX (HNO.out rfl));go_wp2;go_returns;exact Ret.mk (vi HE.out.symm) (za HV.out (Below.refl _ _).drew.drew)
 go_upto_region 6 with fail;refine zH (fun w'=>Below W3.heap.size W3 w'/\True) ?_ (fun hHeld=>?_)
 ·exact ⟨(Below.refl _ _).drew.drew.drew,trivial⟩
 refine zU 0 36 ?_;refine zU 1 37 ?_;refine zU 2 38 ?_;refine zT 3 39 rfl (fun w hSw=>by
  have x_p3:=zb hSw.1 p3;go_simp;try with_reducible rfl) ?_
 refine zU 4 40 ?_;refine zT 5 41 rfl (fun w hSw=>by
  have x_w0:=zb hSw.1 w0;go_simp;try with_reducible rfl) ?_
 refine zU 6 42 ?_;refine zU 7 43 ?_;refine zU 8 44 ?_;refine zU 9 45 ?_;refine zT 10 46 rfl (fun w hSw=>by
  have x_p0:=zb hSw.1 p0;go_simp;try with_reducible rfl) ?_
 refine zU 11 47 ?_;refine zU 12 48 ?_;refine zU 13 10 ?_;refine zD ?_;clear hHeld p0 p1 w0 hrw hrw2;go_wp2_with fail
 go_loopw [6,10,11] (fun rv v i wr=>∃ (k:Nat) (s:Int),rv=.int .i64 0/\1<=k/\k<=4/\i=.int .i64 k/\v=.int .i64 s/\Hid (s=wO x f lo k)/\Hid (okK x f lo hi gi k=true)/\Below W3.heap.size W3 wr) (fun _ _ i _=>4 - (intOf i).toNat)
 case atStart=>exact ⟨1,rm - lo,rfl,by omega,by omega,rfl,rfl,HK0,HO0,(Below.refl _ _).drew.drew.drew⟩
 case round=>
 clear HK0 HO0;obtain ⟨k,s,rfl,hk1,hk4,rfl,rfl,HS,HO,hb⟩:=hrel;have hk0:(0:Int)<=(k:Int):=by omega
 by_cases hlt:k < 4
 case neg=>
  have hi1:¬ (k:Int) < 4:=by omega
  obtain rfl:k=4:=by omega
  have HE:=qH (show s=csR x f lo hi gi by rw [mN (show okC x f lo hi gi=true from HO.out),HS.out];rfl);clear HS HO;go_wp2;go_returns;exact Ret.mk (vi HE.out) (za HV.out hb)
 have hi1:(k:Int) < 4:=by omega
 obtain ⟨av,bv,hav,hbv,hck,hok,hno,hab0,hab1,hd0,hd1⟩:∃ av bv:Int,W3.cell? ⟨ga,k,none⟩=some (.int .i64 av)/\W3.cell? ⟨gb,k,none⟩=some (.int .i64 bv)/\wO x f lo (k + 1)=wO x f lo k + apt av bv/\okK x f lo hi gi (k + 1)=(okK x f lo hi gi k && decide (apt av bv<=gi))/\(¬ apt av bv<=gi->okC x f lo hi gi=false)/\0<=apt av bv/\apt av bv<=4500/\ -10000<=av - bv/\av - bv<=10000:=by
  have hkk:k=1\/k=2\/k=3:=by omega
  have a1:=wX m1 m2 r1 r2;have a2:=wX n1 n2 s1 s2;have a3:=wX o1 o2 t1 t2;rcases hkk with rfl | rfl | rfl
  ·exact ⟨x.b,f.b,HBA.out.cell 1,HBB.out.cell 1,by unfold wO;simp,dF _ _ _ _ _,fun h=>by unfold okC;rw [decide_eq_false h];simp,a1.1,a1.2,by omega,by omega⟩
  ·exact ⟨x.i,f.i,HBA.out.cell 2,HBB.out.cell 2,by unfold wO;simp,dG _ _ _ _ _,fun h=>by unfold okC;rw [decide_eq_false h];simp,a2.1,a2.2,by omega,by omega⟩
  ·exact ⟨x.h,f.h,HBA.out.cell 3,HBB.out.cell 3,by unfold wO;simp,dH _ _ _ _ _,fun h=>by unfold okC;rw [decide_eq_false h];simp,a3.1,a3.2,by omega,by omega⟩
 have hsb:=HBD.out k hk4;rw [<-HS.out] at hsb;obtain ⟨hs0,hs1⟩:=hsb;have HSZ:=fun w=>dt (av - bv) hd0 hd1 w;have hwd:IntKind.i64.wrap (av - bv)=av - bv:=IntWalk.i64_in _ (by omega);rw [zaj] at HSZ;obtain ⟨d,hd⟩:=zN (apt av bv);rw [<-hd] at HSZ hck hok hno hab0 hab1;replace HSZ:=qH HSZ;have HCK:=qH (show s + d=wO x f lo (k + 1) by rw [hck,HS.out]);have HOK:=qH (hok.trans (by rw [HO.out,Bool.true_and]));have HNO2:=qH hno;have hw1:IntKind.i64.wrap (1 * d)=d:=by rw [Int.one_mul];exact IntWalk.i64_in _ (by omega)
 have hw2:IntKind.i64.wrap (s + d)=s + d:=IntWalk.i64_in _ (by omega);have y2:wr.cell? ⟨gp,2,none⟩=some (.int .i64 gi):=zb hb p2;have y3:wr.cell? ⟨gp,3,none⟩=some (.slice (some ⟨gw,0,none⟩) 4 4):=zb hb p3;have yk:wr.cell? ⟨gw,k,none⟩=some (.int .i64 1):=zb hb (by
  have hkk:k=1\/k=2\/k=3:=by omega
  rcases hkk with rfl | rfl | rfl
  ·exact HWB.out.cell 1
  ·exact HWB.out.cell 2
  ·exact HWB.out.cell 3)
 clear hd hck hok hno HS HO;go_upto_region 10 with fail;refine zH (fun w'=>Below W3.heap.size W3 w'/\True) ?_ (fun hHeld=>?_)
 ·exact ⟨hb.drew,trivial⟩
 refine zU 0 53 ?_;refine zU 1 54 ?_;refine zU 2 55 ?_;refine zT 3 56 rfl (fun w hSw=>by
  have x_hav:=zb hSw.1 hav;go_simp;try with_reducible rfl) ?_
 refine zU 4 57 ?_;refine zU 5 58 ?_;refine zU 6 59 ?_;refine zT 7 60 rfl (fun w hSw=>by
  have x_hbv:=zb hSw.1 hbv;go_simp;try with_reducible rfl) ?_
 refine zU 8 61 ?_;refine zR 9 (some 62) rfl (fun K hK=>?_);go_simp;go_split_ands;refine qR (HSZ.out _) ?_;go_wp2_with fail;refine zK hK ⟨hb.drew,trivial⟩ (fun hHeld=>?_);clear hK K;refine zU 10 12 ?_;refine zD ?_;clear hHeld HSZ;by_cases hdg:d<=gi
 case neg=>
  have hgd:gi < d:=by omega
  have HE:=qH (kX (HNO2.out (by omega)));go_wp2;go_returns;exact Ret.mk (vi HE.out.symm) (za HV.out hb.drew)
 have hgd:¬ gi < d:=by omega
 have HOK2:=qH (HOK.out.trans (decide_eq_true hdg));go_wp2_with fail
 go_roundw
 ·exact ⟨_,_,_,⟨rfl,k + 1,by omega,by omega,by go_num,s + d,rfl,HCK,HOK2⟩,rfl,rfl,rfl⟩
 ·simp [intOf];omega
end Go.Proofs.YtpiehlfffjhoaaaGreatDoor
