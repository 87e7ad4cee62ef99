/- Lemmas for the law on the console: the parts CnB,CnW,CnS. -/
import Derived.Test.YtpiehlfffjhoaaaGreatDoorQ17
namespace Go.Proofs.YtpiehlfffjhoaaaGreatDoor
open Go.RowKit Go.Proofs.Tryz
set_option maxRecDepth 100000
set_option maxHeartbeats 4000000
theorem yH{x:Last}(h:zy x=true):x.name.size<=12:=by
 have h2:=(yU h).1;simp only [zo,sV,Bool.and_eq_true,decide_eq_true_eq,zu] at h2;omega
theorem lH{x:Last}(h:zy x=true):(xT x).size<=140:=by
 obtain ⟨_,hf,p0,p1⟩:=yU h;have s1:=yH h;have s2:=vK hf;have s3:=xg (v:=x.p) (by omega) (by omega);have z1:(⟨#[32]⟩:ByteArray).size=1:=rfl;have z2:(⟨#[32,112,105,116,99,104,32]⟩:ByteArray).size=7:=rfl;unfold xT;simp only [zv,z1,z2];omega
theorem oQ(f:Foot)(w:World)(hT:Tabs w):Calls prog 37 #[.agg #[.int .i64 f.length,.int .i64 f.b,.int .i64 f.i,.int .i64 f.h]] w (Ret (.string (ftB f)) w):=by
 cases hf:ym f
 case true=>
  rw [fF hf];exact qt f (qH hf) w hT
 rw [bu hf];have HV:=fun w=>uA f w;rw [hf] at HV;replace HV:=qH HV;obtain ⟨W,hW⟩:=zN (w.alloc (Obj.cells (cF f) 27));obtain ⟨g,hg⟩:=zN w.heap.size;have hv:Below w.heap.size w W:=by rw [hW];exact zc (Below.refl _ _) _
 have hB:Hid (Blk W g 27 (cF f)):=qH (by rw [hW,hg];exact Blk.new _ _ _);have HW:=qH hW;have HG:=qH hg;clear hW hg hf;obtain ⟨k0,k1,k2,k3⟩:=qC4 hB.out;go_in;go_upto_region 1 with fail;rw [<-HW.out,<-HG.out];clear HW HG;go_wp2_with fail;refine qS (HV.out _) fun W1 hb=>?_;replace hv:=za hv hb;go_wp2;go_returns;exact Ret.mk rfl hv
theorem lD(x:Last)(HX:Hid (zy x=true))(w:World):Calls prog 160 #[.agg #[.string x.name,.int .i64 x.length,.int .i64 x.b,.int .i64 x.i,.int .i64 x.h,.int .i64 x.p]] w (Ret (.string (xT x)) w):=by
 have D1:=fun w=>rP x w;have D2:=fun w=>pM x.foot (qH (yU HX.out).2.1) w;have D3:=fun w=>xh x.p (by have:=yU HX.out;omega) (by have:=yU HX.out;omega) w;unfold Last.foot at D2;change ∀ w,Calls prog 169 #[.agg #[.int .i64 x.length,.int .i64 x.b,.int .i64 x.i,.int .i64 x.h]] w (Ret (.string (xb x.foot)) w) at D2;obtain ⟨hnm,hf,p0,p1⟩:=yU HX.out;have y0:=yH HX.out;have y1:=vK hf;have y2:=xg (v:=x.p) (by omega) (by omega);have hP:xT x=((((x.name ++ (⟨#[32]⟩:ByteArray)) ++ xb x.foot) ++ (⟨#[32,112,105,116,99,104,32]⟩:ByteArray)) ++ zm x.p):=rfl;have l1:(⟨#[32]⟩:ByteArray).size=1:=rfl;have l2:(⟨#[32,112,105,116,99,104,32]⟩:ByteArray).size=7:=rfl;obtain ⟨d1,e1⟩:=zN (xb x.foot);obtain ⟨d2,e2⟩:=zN (zm x.p);rw [<-e1] at D2 y1 hP;rw [<-e2] at D3 y2 hP;replace D1:=qH D1;replace D2:=qH D2;replace D3:=qH D3;have a0:=fun (w:World)=>run_string_add_sum (P:=prog) w x.name (⟨#[32]⟩:ByteArray) (by omega);have a1:=fun (w:World)=>run_string_add_sum (P:=prog) w (x.name ++ (⟨#[32]⟩:ByteArray)) d1 (by simp only [zv];omega);have a2:=fun (w:World)=>run_string_add_sum (P:=prog) w ((x.name ++ (⟨#[32]⟩:ByteArray)) ++ d1) (⟨#[32,112,105,116,99,104,32]⟩:ByteArray) (by simp only [zv];omega);have a3:=fun (w:World)=>run_string_add_sum (P:=prog) w (((x.name ++ (⟨#[32]⟩:ByteArray)) ++ d1) ++ (⟨#[32,112,105,116,99,104,32]⟩:ByteArray)) d2 (by simp only [zv];omega);have HP:=qH hP;clear hP e1 e2 y0 y1 y2 l1 l2 hf hnm p0 p1;obtain ⟨W,hW⟩:=zN (w.alloc (Obj.cells (cL x) 100));obtain ⟨g,hg⟩:=zN w.heap.size;have hv:Below w.heap.size w W:=by rw [hW];exact zc (Below.refl _ _) _
 have hB:Hid (Blk W g 100 (cL x)):=qH (by rw [hW,hg];exact Blk.new _ _ _);have HW:=qH hW;have HG:=qH hg;clear hW hg;obtain ⟨k0,k1,k2,k3,k4,k5⟩:=qC6 hB.out;go_in;go_upto_region 1 with fail;rw [<-HW.out,<-HG.out];clear HW HG hB;refine zH (fun w'=>Below W.heap.size W w'/\True) ?_ (fun hHeld=>?_)
 ·exact ⟨(Below.refl _ _).drew,trivial⟩
 have hd9:=hHeld.1;refine zU 0 3 ?_;refine zT 1 4 rfl (fun w hSw=>by
  have x_k0:=zb hSw.1 k0;go_simp;try with_reducible rfl) ?_
 refine zU 2 5 ?_;refine zT 3 6 rfl (fun w hSw=>by
  have x_k0:=zb hSw.1 k0;have x_k1:=zb hSw.1 k1;have x_k2:=zb hSw.1 k2;have x_k3:=zb hSw.1 k3;have x_k4:=zb hSw.1 k4;have x_k5:=zb hSw.1 k5;go_simp;try with_reducible rfl) ?_
 refine zU 8 11 ?_;refine zT 9 12 rfl (fun w hSw=>by
  have x_k5:=zb hSw.1 k5;go_simp;try with_reducible rfl) ?_
 refine zR 4 (some 7) rfl (fun K hK=>?_);go_simp;go_split_ands;refine qS (D1.out _) fun V1 hb9=>?_;replace hd9:=za hd9 hb9;clear hb9;go_wp2_with fail;refine zK hK ⟨hd9,trivial⟩ (fun hHeld=>?_);clear hK K;refine zR 5 (some 8) rfl (fun K hK=>?_);go_simp;go_split_ands;refine qS (D2.out _) fun V2 hb9=>?_;replace hd9:=za hd9 hb9;clear hb9;go_wp2_with fail;refine zK hK ⟨hd9,trivial⟩ (fun hHeld=>?_);clear hK K;refine zU 6 9 ?_;refine zU 7 10 ?_;refine zR 10 (some 13) rfl (fun K hK=>?_);go_simp;go_split_ands;refine qS (D3.out _) fun V3 hb9=>?_;replace hd9:=za hd9 hb9;clear hb9;go_wp2_with fail;refine zK hK ⟨hd9,trivial⟩ (fun hHeld=>?_);clear hK K;refine zU 11 14 ?_;refine zU 12 2 ?_;refine zD ?_;clear hHeld;replace hv:=za hv hd9;go_wp2;go_returns;exact Ret.mk (vs HP.out.symm) hv
theorem qu(x:Last)(hs:x.name.size<=9223372036854775807)(w:World)(hT:Tabs w):Calls prog 73 #[.agg #[.string x.name,.int .i64 x.length,.int .i64 x.b,.int .i64 x.i,.int .i64 x.h,.int .i64 x.p]] w (Ret (.string (ltB x)) w):=by
 have HT:=qH hT;clear hT;have HVL:=fun w=>uJ x hs w;obtain ⟨b,hb⟩:=zN (zy x);rw [<-hb] at HVL;replace HVL:=qH HVL;have HBE:=qH hb.symm;clear hb;obtain ⟨W,hW⟩:=zN (w.alloc (Obj.cells (cL x) 100));obtain ⟨g,hg⟩:=zN w.heap.size;have hv:Below w.heap.size w W:=by rw [hW];exact zc (Below.refl _ _) _
 have hB:Hid (Blk W g 100 (cL x)):=qH (by rw [hW,hg];exact Blk.new _ _ _);have HW:=qH hW;have HG:=qH hg;clear hW hg;obtain ⟨k0,k1,k2,k3,k4,k5⟩:=qC6 hB.out;go_in;go_upto_region 1 with fail;rw [<-HW.out,<-HG.out];clear HW HG;go_wp2_with fail;refine qS (HVL.out _) fun W1 hb=>?_;replace hv:=za hv hb;replace hB:=qH (hB.out.below hb);clear hb HVL;clear k0 k1 k2 k3 k4 k5;obtain ⟨k0,k1,k2,k3,k4,k5⟩:=qC6 hB.out;cases b
 ·have HE:=qH (aj HBE.out);go_wp2;go_returns;exact Ret.mk (vs HE.out.symm) hv
 have HX:Hid (zy x=true):=HBE;have HE:=qH (qi HX.out);have HT1:=qH (HT.out.below hv);have D1:=fun w=>jp x w;have D2:=fun w h=>qt x.foot (qH (yU HX.out).2.1) w h;have D3:=fun w h=>xp x.p (by have:=yU HX.out;omega) (by have:=yU HX.out;omega) w h;change ∀ w,Tabs w->Calls prog 37 #[.agg #[.int .i64 x.length,.int .i64 x.b,.int .i64 x.i,.int .i64 x.h]] w (Ret (.string (xb x.foot)) w) at D2;obtain ⟨hnm,hf,p0,p1⟩:=yU HX.out;have y0:=yH HX.out;have y1:=vK hf;have y2:=xg (v:=x.p) (by omega) (by omega);have hP:xT x=((((x.name ++ (⟨#[32]⟩:ByteArray)) ++ xb x.foot) ++ (⟨#[32,112,105,116,99,104,32]⟩:ByteArray)) ++ zm x.p):=rfl;have l1:(⟨#[32]⟩:ByteArray).size=1:=rfl;have l2:(⟨#[32,112,105,116,99,104,32]⟩:ByteArray).size=7:=rfl;obtain ⟨d1,e1⟩:=zN (xb x.foot);obtain ⟨d2,e2⟩:=zN (zm x.p);rw [<-e1] at D2 y1 hP;rw [<-e2] at D3 y2 hP;replace D1:=qH D1;replace D2:=qH D2;replace D3:=qH D3;have a0:=fun (w:World)=>run_string_add_sum (P:=prog) w x.name (⟨#[32]⟩:ByteArray) (by omega);have a1:=fun (w:World)=>run_string_add_sum (P:=prog) w (x.name ++ (⟨#[32]⟩:ByteArray)) d1 (by simp only [zv];omega);have a2:=fun (w:World)=>run_string_add_sum (P:=prog) w ((x.name ++ (⟨#[32]⟩:ByteArray)) ++ d1) (⟨#[32,112,105,116,99,104,32]⟩:ByteArray) (by simp only [zv];omega);have a3:=fun (w:World)=>run_string_add_sum (P:=prog) w (((x.name ++ (⟨#[32]⟩:ByteArray)) ++ d1) ++ (⟨#[32,112,105,116,99,104,32]⟩:ByteArray)) d2 (by simp only [zv];omega);have HP:=qH hP;clear hP e1 e2 y0 y1 y2 l1 l2 hf hnm p0 p1;go_upto_region 3 with fail;clear hB;refine zH (fun w'=>Below W1.heap.size W1 w'/\True) ?_ (fun hHeld=>?_)
 ·exact ⟨(Below.refl _ _).drew,trivial⟩
 have hd9:=hHeld.1;refine zU 0 6 ?_;refine zT 1 7 rfl (fun w hSw=>by
  have x_k0:=zb hSw.1 k0;go_simp;try with_reducible rfl) ?_
 refine zU 2 8 ?_;refine zT 3 9 rfl (fun w hSw=>by
  have x_k0:=zb hSw.1 k0;have x_k1:=zb hSw.1 k1;have x_k2:=zb hSw.1 k2;have x_k3:=zb hSw.1 k3;have x_k4:=zb hSw.1 k4;have x_k5:=zb hSw.1 k5;go_simp;try with_reducible rfl) ?_
 refine zU 8 14 ?_;refine zT 9 15 rfl (fun w hSw=>by
  have x_k5:=zb hSw.1 k5;go_simp;try with_reducible rfl) ?_
 refine zR 4 (some 10) rfl (fun K hK=>?_);go_simp;go_split_ands;refine qS (D1.out _) fun V1 hb9=>?_;replace hd9:=za hd9 hb9;clear hb9;go_wp2_with fail;refine zK hK ⟨hd9,trivial⟩ (fun hHeld=>?_);clear hK K;refine zR 5 (some 11) rfl (fun K hK=>?_);go_simp;go_split_ands;refine qS (D2.out _ (HT1.out.below hd9)) fun V2 hb9=>?_;replace hd9:=za hd9 hb9;clear hb9;go_wp2_with fail;refine zK hK ⟨hd9,trivial⟩ (fun hHeld=>?_);clear hK K;refine zU 6 12 ?_;refine zU 7 13 ?_;refine zR 10 (some 16) rfl (fun K hK=>?_);go_simp;go_split_ands;refine qS (D3.out _ (HT1.out.below hd9).pow) fun V3 hb9=>?_;replace hd9:=za hd9 hb9;clear hb9;go_wp2_with fail;refine zK hK ⟨hd9,trivial⟩ (fun hHeld=>?_);clear hK K;refine zU 11 17 ?_;refine zU 12 2 ?_;refine zD ?_;clear hHeld;replace hv:=za hv hd9;go_wp2;go_returns;exact Ret.mk (vs (HE.out.trans HP.out).symm) hv
theorem zbf(x:Last)(f:Foot)(HX:Hid (zy x=true))(HF:Hid (ym f=true))(w:World):Calls prog 78 #[.agg #[.string x.name,.int .i64 x.length,.int .i64 x.b,.int .i64 x.i,.int .i64 x.h,.int .i64 x.p],.agg #[.int .i64 f.length,.int .i64 f.b,.int .i64 f.i,.int .i64 f.h]] w (em (wK x f) w):=by
 obtain ⟨_,hf,p0,p1⟩:=yU HX.out;obtain ⟨⟨a1,a2⟩,⟨b1,b2⟩,⟨c1,c2⟩,⟨d1,d2⟩⟩:=wH hf;obtain ⟨⟨e1,e2⟩,⟨g1,g2⟩,⟨h1,h2⟩,⟨i1,i2⟩⟩:=wH HF.out;unfold Last.foot at *;dsimp only at *;obtain ⟨gx,hgx⟩:=zN w.heap.size;obtain ⟨gf,hgf⟩:=zN (w.heap.size + 1);obtain ⟨W,hW⟩:=zN ((w.alloc (Obj.cells (cL x) 100)).alloc (Obj.cells (cF f) 27));have hv:Below w.heap.size w W:=by rw [hW];exact zc (zc (Below.refl _ _) _) _
 have HX1:Blk W gx 100 (cL x):=by rw [hW,hgx];exact (Blk.new w _ _).alloc _
 have HF1:Blk W gf 27 (cF f):=by
  have h:=Blk.new (w.alloc (Obj.cells (cL x) 100)) 27 (cF f);rw [World.size_alloc] at h;rw [hW,hgf];exact h
 have k2:=yc2 HX1;have k3:=yc3 HX1;have k4:=yc4 HX1;have q1:=yc1 HF1;have q2:=yc2 HF1;have q3:=yc3 HF1;have r1:IntKind.i64.wrap (f.b - x.b)=f.b - x.b:=IntWalk.i64_in _ (by omega);have r2:IntKind.i64.wrap (f.i - x.i)=f.i - x.i:=IntWalk.i64_in _ (by omega);have r3:IntKind.i64.wrap (f.h - x.h)=f.h - x.h:=IntWalk.i64_in _ (by omega);have hN:=qH (show wK x f=[max (f.b - x.b) 0,max (f.i - x.i) 0,max (f.h - x.h) 0] from rfl);obtain ⟨n1,hn1⟩:=zN (max (f.b - x.b) 0);obtain ⟨n2,hn2⟩:=zN (max (f.i - x.i) 0);obtain ⟨n3,hn3⟩:=zN (max (f.h - x.h) 0);rw [<-hn1,<-hn2,<-hn3] at hN;have s1:max (f.b - x.b) 0=n1:=hn1.symm;have s2:max (f.i - x.i) 0=n2:=hn2.symm;have s3:max (f.h - x.h) 0=n3:=hn3.symm;have HW:=qH hW;have G1:=qH hgx;have G2:=qH hgf;clear hW hgx hgf HX1 HF1 hn1 hn2 hn3;go_in;go_upto_region 1 with fail;rw [<-HW.out,<-G2.out,<-G1.out];clear HW G1 G2;go_wp2;go_returns;exact ⟨_,3,3,rfl,by rw [hN.out];rfl,by rw [hN.out];exact vR _ _ _,zc hv _⟩
def ChgN(w:World):Prop:=∀ k:Nat,k<=5->w.cell? ⟨1,k,none⟩=some (.string (chW k))
theorem ChgN.below{w w':World}(h:ChgN w)(hb:Below w.heap.size w w'):ChgN w':=fun k hk=>zb hb (h k hk)
theorem zay(k:Int):(chW k).size<=6:=by
 unfold chW
 repeat' split
 all_goals decide
theorem kJ(k a:Int)(w:World)(hT:Pow10 w)(hN:ChgN w):Calls prog 134 #[.agg #[.int .i64 k,.int .i64 a]] w (Ret (.string (chT k a)) w):=by
 have HT:=qH hT;have HN:=qH hN;have HV:=fun w=>pz k a w;have HTX:Hid (chT k a=if xi k a=true then (if 0 < a then ((chW k ++ ⟨#[32,43]⟩) ++ zm a) else ((chW k ++ ⟨#[32]⟩) ++ zm a)) else ⟨#[]⟩):=qH rfl;have hbd:=fun h=>uX (k:=k) (a:=a) h;obtain ⟨b,hb⟩:=zN (xi k a);rw [<-hb] at HV HTX hbd;have HVV:=qH HV;have HBD:=qH hbd;clear hb HV hT hN hbd;obtain ⟨W,hW⟩:=zN (w.alloc (Obj.cells #[.int .i64 k,.int .i64 a] 126));obtain ⟨g,hg⟩:=zN w.heap.size;have hv:Below w.heap.size w W:=by rw [hW];exact zc (Below.refl _ _) _
 have HB:Hid (Blk W g 126 #[.int .i64 k,.int .i64 a]):=qH (by rw [hW,hg];exact Blk.new _ _ _);have HW:=qH hW;have HG:=qH hg;clear hW hg;go_in;go_upto_region 1 with fail;rw [<-HW.out,<-HG.out];clear HW HG;go_wp2_with (refine yL g HB.out underlying126 ?_)
 refine qS (HVV.out _) fun W1 hb=>?_;replace HB:=qH (HB.out.below hb);replace hv:=za hv hb;clear hb HVV;cases b
 ·go_wp2;go_returns;exact Ret.mk (vs (by rw [HTX.out];rfl)) hv
 obtain ⟨h1,h5,h0,ha,hb⟩:=HBD.out rfl;obtain ⟨j,hj⟩:∃ j:Nat,k=(j:Int):=⟨k.toNat,by omega⟩
 have hj0:(0:Int)<=(j:Int):=by omega
 have hj6:(j:Int) < 6:=by omega
 have k0:W1.cell? ⟨g,0,none⟩=some (.int .i64 (j:Int)):=by rw [<-hj];exact HB.out.cell 0
 have k1:=yc1 HB.out;have n0:W1.cell? ⟨1,j,none⟩=some (.string (chW k)):=by rw [hj];exact (HN.out.below hv) j (by omega)
 have HT1:=qH (HT.out.below hv);have D1:=qH (fun w h=>xp a (by omega) (by omega) w h);have z1:=zay k;have z2:=xg (v:=a) (by omega) (by omega);obtain ⟨d,hd⟩:=zN (zm a);obtain ⟨nm,hnm⟩:=zN (chW k);rw [<-hd] at D1 HTX z2;rw [<-hnm] at n0 HTX z1;have l1:(⟨#[32,43]⟩:ByteArray).size=2:=rfl;have l2:(⟨#[32]⟩:ByteArray).size=1:=rfl;have s1:=fun (w:World)=>run_string_add_sum (P:=prog) w nm ⟨#[32,43]⟩ (by omega);have s2:=fun (w:World)=>run_string_add_sum (P:=prog) w nm ⟨#[32]⟩ (by omega);have s3:=fun (w:World)=>run_string_add_sum (P:=prog) w (nm ++ ⟨#[32,43]⟩) d (by simp only [zv];omega);have s4:=fun (w:World)=>run_string_add_sum (P:=prog) w (nm ++ ⟨#[32]⟩) d (by simp only [zv];omega);clear hd hnm z1 z2 l1 l2 HB hj HBD h1 h5 ha hb;by_cases hp:0 < a
 · skip
   have HE:=qH (show chT k a=(nm ++ ⟨#[32,43]⟩) ++ d by rw [HTX.out];simp [hp]);go_upto_region 4 with fail;refine zH (fun w'=>Below W1.heap.size W1 w'/\True) ?_ (fun hHeld=>?_)
   ·exact ⟨(Below.refl _ _).drew,trivial⟩
   have hd9:=hHeld.1;refine zU 0 11 ?_;refine zT 1 12 rfl (fun w hSw=>by
    have x_k0:=zb hSw.1 k0;go_simp;try with_reducible rfl) ?_
   refine zU 2 13 ?_;refine zT 3 14 rfl (fun w hSw=>by
    have x_n0:=zb hSw.1 n0;go_simp;try with_reducible rfl) ?_
   refine zU 4 15 ?_;refine zU 5 16 ?_;refine zT 6 17 rfl (fun w hSw=>by
    have x_k1:=zb hSw.1 k1;go_simp;try with_reducible rfl) ?_
   refine zR 7 (some 18) rfl (fun K hK=>?_);go_simp;go_split_ands;refine qS (D1.out _ (HT1.out.below hd9)) fun V1 hb9=>?_;replace hd9:=za hd9 hb9;clear hb9;go_wp2_with fail;refine zK hK ⟨hd9,trivial⟩ (fun hHeld=>?_);clear hK K;refine zU 8 19 ?_;refine zU 9 2 ?_;refine zD ?_;clear hHeld;replace hv:=za hv hd9;go_wp2;go_returns;exact Ret.mk (vs HE.out.symm) hv
 · skip
   have HE:=qH (show chT k a=(nm ++ ⟨#[32]⟩) ++ d by rw [HTX.out];simp [hp]);go_upto_region 5 with fail;refine zH (fun w'=>Below W1.heap.size W1 w'/\True) ?_ (fun hHeld=>?_)
   ·exact ⟨(Below.refl _ _).drew,trivial⟩
   have hd9:=hHeld.1;refine zU 0 20 ?_;refine zT 1 21 rfl (fun w hSw=>by
    have x_k0:=zb hSw.1 k0;go_simp;try with_reducible rfl) ?_
   refine zU 2 22 ?_;refine zT 3 23 rfl (fun w hSw=>by
    have x_n0:=zb hSw.1 n0;go_simp;try with_reducible rfl) ?_
   refine zU 4 24 ?_;refine zU 5 25 ?_;refine zT 6 26 rfl (fun w hSw=>by
    have x_k1:=zb hSw.1 k1;go_simp;try with_reducible rfl) ?_
   refine zR 7 (some 27) rfl (fun K hK=>?_);go_simp;go_split_ands;refine qS (D1.out _ (HT1.out.below hd9)) fun V1 hb9=>?_;replace hd9:=za hd9 hb9;clear hb9;go_wp2_with fail;refine zK hK ⟨hd9,trivial⟩ (fun hHeld=>?_);clear hK K;refine zU 8 28 ?_;refine zU 9 2 ?_;refine zD ?_;clear hHeld;replace hv:=za hv hd9;go_wp2;go_returns;exact Ret.mk (vs HE.out.symm) hv
def tk(p q:Nat × Int):Prop:=p.2<=q.2
def ubR(n:Int):List (Nat × Int)->Nat
 | []=>0
 | p :: r=>if p.2<=n then ubR n r + 1 else 0
theorem gh(n:Int):∀ l:List (Nat × Int),ubR n l<=l.length
 | []=>by simp [ubR]
 | p :: r=>by
   have:=gh n r;simp only [ubR,List.length_cons];split <;> omega
theorem oK(n:Int):∀ (l:List (Nat × Int)),l.Pairwise tk->∀ k p,l[k]?=some p->(p.2<=n ↔ k < ubR n l)
 | [],_,k,p,h=>by simp at h
 | q :: r,hp,k,p,h=>by
   obtain ⟨h1,h2⟩:=List.pairwise_cons.1 hp;cases k with
   | zero=>
     simp only [List.getElem?_cons_zero,Option.some.injEq] at h;subst h;simp only [ubR];split <;> omega
   | succ k=>
     simp only [List.getElem?_cons_succ] at h;have ih:=oK n r h2 k p h;have h3:=h1 p (List.mem_of_getElem? h);unfold tk at h3;simp only [ubR];split <;> omega
def vd(l:List (Nat × Int))(k:Nat)(p:Nat × Int):List (Nat × Int):=l.take k ++ p :: l.drop k
theorem ru(l:List (Nat × Int))(k:Nat)(p:Nat × Int)(h:k<=l.length):(vd l k p).length=l.length + 1:=by simp [vd];omega
theorem bE{l:List (Nat × Int)}(p:Nat × Int)(hp:l.Pairwise tk):(vd l (ubR p.2 l) p).Pairwise tk:=by
 unfold vd;rw [List.pairwise_append];have hlo:∀ a ∈ l.take (ubR p.2 l),a.2<=p.2:=by
  intro a ha;obtain ⟨j,hj⟩:=List.getElem?_of_mem ha;rw [List.getElem?_take] at hj;split at hj
  ·rename_i hlt;exact (oK p.2 l hp j a hj).2 hlt
  ·cases hj
 have hhi:∀ a ∈ l.drop (ubR p.2 l),p.2<=a.2:=by
  intro a ha;obtain ⟨j,hj⟩:=List.getElem?_of_mem ha;rw [List.getElem?_drop] at hj;have:=oK p.2 l hp _ a hj;omega
 refine ⟨hp.take,List.pairwise_cons.2 ⟨hhi,hp.drop⟩,?_⟩;intro a ha b hb;rcases List.mem_cons.1 hb with rfl | hb
 ·exact hlo a ha
 ·have h1:=hlo a ha;have h2:=hhi b hb;unfold tk;omega
theorem bD(l:List (Nat × Int))(p:Nat × Int):(vd l (ubR p.2 l) p)[0]?=wt l[0]? p:=by
 cases l with
 | nil=>rfl
 | cons q r=>
   by_cases h:q.2<=p.2
   · have e:wt (q :: r)[0]? p=some q:=by simp only [List.getElem?_cons_zero,wt];exact if_neg (by omega)
     rw [e];simp only [vd,ubR];rw [if_pos h];rfl
   · have e:wt (q :: r)[0]? p=some p:=by simp only [List.getElem?_cons_zero,wt];exact if_pos (by omega)
     rw [e];simp only [vd,ubR];rw [if_neg h];rfl
theorem zaX{l:List (Nat × Int)}{k:Nat}{p q:Nat × Int}(h:q ∈ vd l k p):q=p\/q ∈ l:=by
 unfold vd at h;rcases List.mem_append.1 h with h | h
 ·exact .inr (List.mem_of_mem_take h)
 · rcases List.mem_cons.1 h with h | h
   ·exact .inl h
   ·exact .inr (List.mem_of_mem_drop h)
end Go.Proofs.YtpiehlfffjhoaaaGreatDoor
