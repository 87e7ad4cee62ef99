/- Lemmas for the law on the console: the parts CnN,LogG,CoD,CpB. -/
import Derived.Test.YtpiehlfffjhoaaaGreatDoorQ1
import Derived.Test.YtpiehlfffjhoaaaGreatDoorQ0
import Derived.Test.YtpiehlfffjhoaaaGreatDoorQ15
import Derived.Test.YtpiehlfffjhoaaaGreatDoorQ17
import Derived.Test.YtpiehlfffjhoaaaGreatDoorQ24
import Derived.Test.YtpiehlfffjhoaaaGreatDoorQ25
import Derived.Deep.MidRow
import Derived.Test.YtpiehlfffjhoaaaGreatDoorQ21
import Derived.Test.YtpiehlfffjhoaaaGreatDoorQ22
import Derived.Test.YtpiehlfffjhoaaaGreatDoorQ4
import Derived.Test.YtpiehlfffjhoaaaGreatDoorQ14
namespace Go.Proofs.YtpiehlfffjhoaaaGreatDoor
open Go.RowKit
set_option maxRecDepth 100000
set_option maxHeartbeats 8000000
def lP (p:Last × Int):Array Value:=#[.agg #[.string p.1.name,.int .i64 p.1.length,.int .i64 p.1.b,.int .i64 p.1.i,.int .i64 p.1.h,.int .i64 p.1.p],.int .i64 p.2]
theorem bF {x:Last} {k a:Int} (h:(zy x && xg k a)=false):xY x k a=(ug,1):=by unfold xY;rw [if_neg (by rw [h];simp)]
theorem nh {x:Last} {k a:Int} (h:(zy x && xg k a)=true) (h2:zy (xR x k a)=false):xY x k a=(ug,10):=by unfold xY;rw [if_pos h,if_neg (by simp [h2])]
theorem jX {x:Last} {k a:Int} (h:(zy x && xg k a)=true) (h2:zy (xR x k a)=true):xY x k a=(xR x k a,0):=by unfold xY;rw [if_pos h,if_pos h2]
theorem eS (x:Last) (k a:Int) (HX:Hid (zy x=true)) (HC:Hid (xg k a=true)) (w:World):Calls Tryz.prog 136 #[.agg #[.string x.name,.int .i64 x.length,.int .i64 x.b,.int .i64 x.i,.int .i64 x.h,.int .i64 x.p],.agg #[.int .i64 k,.int .i64 a]] w (Ret (.agg #[.string (xR x k a).name,.int .i64 (xR x k a).length,.int .i64 (xR x k a).b,.int .i64 (xR x k a).i,.int .i64 (xR x k a).h,.int .i64 (xR x k a).p]) w):=by
 obtain ⟨h1,h5,h0,ha,hb⟩:=uK HC.out;rcases (show k=1∨k=2∨k=3∨k=4∨k=5 by omega) with rfl | rfl | rfl | rfl | rfl
 · exact fp x a HX ha hb w
 · exact fq x a HX ha hb w
 · exact fs x a HX ha hb w
 · exact fu x a HX ha hb w
 · exact fv x a HX ha hb w
theorem oY (x:Last) (k a:Int) (gc:Nat) (hs:x.name.size≤9223372036854775807) (w:World) (hB:Blk w gc 126 #[.int .i64 k,.int .i64 a]):Calls Tryz.prog 80 #[.agg #[.string x.name,.int .i64 x.length,.int .i64 x.b,.int .i64 x.i,.int .i64 x.h,.int .i64 x.p],.slice (some ⟨gc,0,none⟩) 1 1] w (RetT (lP (xY x k a)) w):=by
 have HI:=@bF x k a;have HG1:=@nh x k a;have HO1:=@jX x k a;have HC1:=fun h1 h2 w=>eS x k a (qH h1) (qH h2) w;have hyn:(xR x k a).name.size≤9223372036854775807:=by rw [pi];exact hs
 obtain ⟨y,hy⟩:=zN (xR x k a);rw [←hy] at HG1 HO1 HC1 hyn;have HV1:=fun w=>uv x hs w;have HV2:=fun w=>uv y hyn w;have HV3:=fun w h=>nf k a gc w h;obtain ⟨b1,hb1⟩:=zN (zy x);obtain ⟨b2,hb2⟩:=zN (xg k a);obtain ⟨b3,hb3⟩:=zN (zy y);rw [←hb1,←hb2] at HI HG1 HO1 HC1;rw [←hb1] at HV1;rw [←hb2] at HV3;rw [←hb3] at HV2 HG1 HO1;replace HI:=qH HI;replace HG1:=qH HG1;replace HO1:=qH HO1;replace HC1:=qH HC1;replace HV1:=qH HV1;replace HV2:=qH HV2;replace HV3:=qH HV3;obtain ⟨R,hR⟩:=zN (xY x k a);rw [←hR] at HI HG1 HO1 ⊢;clear hy hb1 hb2 hb3 hR hs hyn;obtain ⟨gx,hgx⟩:=zN w.heap.size;obtain ⟨gz,hgz⟩:=zN (w.heap.size + 1);obtain ⟨W,hW⟩:=zN ((w.alloc (Obj.cells (cL x) 100)).alloc (Obj.cells cM 100));have hv:Below w.heap.size w W:=by rw [hW];exact zc (zc (Below.refl _ _) _) _
 have HX:Hid (Blk W gx 100 (cL x)):=qH (by rw [hW,hgx];exact (Blk.new w _ _).alloc _);have HZ:Hid (Blk W gz 100 cM):=qH (by
  have h:=Blk.new (w.alloc (Obj.cells (cL x) 100)) 100 cM;rw [World.size_alloc] at h;rw [hW,hgz];exact h)
 have HB:Hid (Blk W gc 126 #[.int .i64 k,.int .i64 a]):=qH (by rw [hW];exact (hB.alloc _).alloc _);have hcx:gc < gx:=by rw [hgx];exact hB.lt
 have hzw:w.heap.size≤gz:=by omega
 have hxz:gx≠gz:=by omega
 have hxw:w.heap.size≤gx:=by omega
 have HW:=qH hW;have G1:=qH hgx;have G2:=qH hgz;clear hW hgx hgz hB;go_enter Tryz.func80,Tryz.ntmps80;go_upto_region 1 with fail;rw [←HW.out,←G2.out,←G1.out];clear HW G1 G2;go_wp2_with (refine yL gx HX.out Tryz.underlying100 ?_)
 refine qS (HV1.out _) fun W1 hb=>?_;replace HX:=qH (HX.out.below hb);replace HZ:=qH (HZ.out.below hb);replace HB:=qH (HB.out.below hb);replace hv:=za hv hb;clear hb;cases b1
 case false=>
  have HR:=qH (HI.out rfl)
  go_upto_if 15 with fail
  go_wp2_with (refine yS gz cM HZ.out ?_)
  have hF:Blk (World.setRow W1 gz cM) gz 100 cM:=setRow_heap _ _ _ _ _ _ HZ.out;have hbF:=zF hv hzw cM;obtain ⟨WF,hWF⟩:=zN (World.setRow W1 gz cM);rw [←hWF] at hF hbF ⊢;clear hWF;obtain ⟨m0,m1,m2,m3,m4,m5⟩:=qC6 hF;go_wp2_with fail;try simp only [Exit.inBlock,Exit.then]
  refine bodyPost_ret (v:=.tuple #[.agg #[.string ⟨#[]⟩,.int .i64 0,.int .i64 0,.int .i64 0,.int .i64 0,.int .i64 0],.int .i64 1]) (by simp [results,Tryz.results80,go_sem,m0,m1,m2,m3,m4,m5]) rfl ?_;exact RetT.mk (by rw [HR.out];rfl) hbF
 go_wp2_with fail;refine qS (HV3.out _ HB.out) fun W2 hb=>?_;replace HX:=qH (HX.out.below hb);replace HZ:=qH (HZ.out.below hb);replace HB:=qH (HB.out.below hb);replace hv:=za hv hb;clear hb;cases b2
 case false=>
  have HR:=qH (HI.out rfl)
  go_upto_if 15 with fail
  go_wp2_with (refine yS gz cM HZ.out ?_)
  have hF:Blk (World.setRow W2 gz cM) gz 100 cM:=setRow_heap _ _ _ _ _ _ HZ.out;have hbF:=zF hv hzw cM;obtain ⟨WF,hWF⟩:=zN (World.setRow W2 gz cM);rw [←hWF] at hF hbF ⊢;clear hWF;obtain ⟨m0,m1,m2,m3,m4,m5⟩:=qC6 hF;go_wp2_with fail;try simp only [Exit.inBlock,Exit.then]
  refine bodyPost_ret (v:=.tuple #[.agg #[.string ⟨#[]⟩,.int .i64 0,.int .i64 0,.int .i64 0,.int .i64 0,.int .i64 0],.int .i64 1]) (by simp [results,Tryz.results80,go_sem,m0,m1,m2,m3,m4,m5]) rfl ?_;exact RetT.mk (by rw [HR.out];rfl) hbF
 have hk0:W2.cell? ⟨gc,0,none⟩=some (.int .i64 k):=HB.out.cell 0;have hk1:W2.cell? ⟨gc,1,none⟩=some (.int .i64 a):=HB.out.cell 1;clear hk0 hk1;go_wp2_with fail
 go_loopw [19] (fun i wr=>∃ j:Nat,j≤1∧i=.int .i64 j∧Hid (Blk wr gx 100 (if j=0 then (cL x) else (cL y)))∧Hid (j=1→b3=true)∧Hid (Blk wr gz 100 cM)∧Hid (Blk wr gc 126 #[.int .i64 k,.int .i64 a])∧Below w.heap.size w wr) (fun i _=>1 - (intOf i).toNat)
 case atStart=>exact ⟨0,by omega,rfl,HX,qH (by omega),HZ,HB,hv⟩
 case round=>
 clear HX HZ HB hv;obtain ⟨j,hj,rfl,HX,HJ,HZ,HB,hv⟩:=hrel;by_cases h0:j=0
 case pos=>
  subst h0;replace HX:Hid (Blk wr gx 100 (cL x)):=HX;have k0:wr.cell? ⟨gc,0,none⟩=some (.int .i64 k):=HB.out.cell 0;have k1:wr.cell? ⟨gc,1,none⟩=some (.int .i64 a):=HB.out.cell 1;go_upto_region 6 with fail;obtain ⟨W3,hWn⟩:=zN (World.alloc wr (Obj.cells #[.int .i64 k,.int .i64 a] 126));obtain ⟨gd,hgn⟩:=zN wr.heap.size;have hb:Below wr.heap.size wr W3:=by rw [hWn];exact zc (Below.refl _ _) _
  have HD:Hid (Blk W3 gd 126 #[.int .i64 k,.int .i64 a]):=qH (by rw [hWn,hgn];exact Blk.new _ _ _);rw [←hWn,←hgn];clear hWn hgn k0 k1;replace HX:=qH (HX.out.below hb);replace HZ:=qH (HZ.out.below hb);replace HB:=qH (HB.out.below hb);replace hv:=za hv hb;clear hb;go_wp2_with (first | (refine yL gx HX.out Tryz.underlying100 ?_) | (refine yL gd HD.out Tryz.underlying126 ?_))
  refine qS (HC1.out (by trivial) (by trivial) _) fun W4 hb=>?_;replace HX:=qH (HX.out.below hb);replace HZ:=qH (HZ.out.below hb);replace HB:=qH (HB.out.below hb);replace hv:=za hv hb;clear hb;go_upto_region 7 with (refine yS gx (cL y) HX.out ?_)
  have hXF:Blk (World.setRow W4 gx (cL y)) gx 100 (cL y):=setRow_heap _ _ _ _ _ _ HX.out;have hr9:World.grownBy W4 (World.setRow W4 gx (cL y)) (some gx):=⟨rfl,rfl,rfl,by simp,fun i _ hne=>setRow_other _ gx i (cL y) (fun e=>hne (by rw [e]))⟩
  have hZF:=HZ.out.grown hr9 (by intro e;injection e;omega);have hBF:=HB.out.grown hr9 (by intro e;injection e;omega);have hvF:=zF hv hxw (cL y);obtain ⟨W5,hW5⟩:=zN (World.setRow W4 gx (cL y));rw [←hW5] at hXF hZF hBF hvF ⊢;clear hW5 hr9 HX HZ HB hv;have HX:=qH hXF;have HZ:=qH hZF;have HB:=qH hBF;have hv:=hvF;clear hXF hZF hBF hvF;go_wp2_with (refine yL gx HX.out Tryz.underlying100 ?_)
  refine qS (HV2.out _) fun W6 hb=>?_;replace HX:=qH (HX.out.below hb);replace HZ:=qH (HZ.out.below hb);replace HB:=qH (HB.out.below hb);replace hv:=za hv hb;clear hb;cases b3
  · have HR:=qH (HG1.out (by trivial) (by trivial));go_wp2_with (refine yS gz cM HZ.out ?_)
    have hF:Blk (World.setRow W6 gz cM) gz 100 cM:=setRow_heap _ _ _ _ _ _ HZ.out;have hbF:=zF hv hzw cM;obtain ⟨WF,hWF⟩:=zN (World.setRow W6 gz cM);rw [←hWF] at hF hbF ⊢;clear hWF;obtain ⟨m0,m1,m2,m3,m4,m5⟩:=qC6 hF;go_wp2_with fail;(try simp only [Exit.inBlock,Exit.then]);refine bodyPost_ret (v:=.tuple #[.agg #[.string ⟨#[]⟩,.int .i64 0,.int .i64 0,.int .i64 0,.int .i64 0,.int .i64 0],.int .i64 10]) (by simp [results,Tryz.results80,go_sem,m0,m1,m2,m3,m4,m5]) rfl ?_;exact RetT.mk (by rw [HR.out];rfl) hbF
  go_wp2_with fail;exact ⟨⟨1,by omega,by go_num,HX,qH (by simp),HZ,HB,hv⟩,by simp [intOf]⟩
 case neg=>
 obtain rfl:j=1:=by omega
 obtain rfl:=HJ.out rfl;replace HX:Hid (Blk wr gx 100 (cL y)):=HX;have HR:=qH (HO1.out (by trivial) (by trivial));go_wp2_with (first | (refine yL gx HX.out Tryz.underlying100 ?_) | (refine yS gz (cL y) HZ.out ?_))
 have hF:Blk (World.setRow wr gz (cL y)) gz 100 (cL y):=setRow_heap _ _ _ _ _ _ HZ.out;have hbF:=zF hv hzw (cL y);obtain ⟨WF,hWF⟩:=zN (World.setRow wr gz (cL y));rw [←hWF] at hF hbF ⊢;clear hWF;obtain ⟨m0,m1,m2,m3,m4,m5⟩:=qC6 hF;go_wp2_with fail;try simp only [Exit.inBlock,Exit.then]
 refine bodyPost_ret (v:=.tuple #[.agg #[.string y.name,.int .i64 y.length,.int .i64 y.b,.int .i64 y.i,.int .i64 y.h,.int .i64 y.p],.int .i64 0]) (by simp [results,Tryz.results80,go_sem,m0,m1,m2,m3,m4,m5]) rfl ?_;exact RetT.mk (by rw [HR.out];rfl) hbF
theorem gY (s:ByteArray) (hs:s.size≤1048576) (x:Entry) (hxs:x.what.size≤9223372036854775807) (w:World) (hT:Tabs w) :
 Calls Tryz.prog 85 #[.string s,.agg #[.int .i64 x.day,.string x.what,.int .i64 x.value]] w (RetT #[.string (xK s x).1,.int .i64 (xK s x).2] w):=by
 have HT:=qH hT;clear hT;obtain ⟨W0,hW0⟩:=zN (w.alloc (Obj.cells #[.int .i64 x.day,.string x.what,.int .i64 x.value] 141));obtain ⟨gX,hgX⟩:=zN w.heap.size;have hv:Below w.heap.size w W0:=by rw [hW0];exact zc (Below.refl _ _) _
 have hX:Blk W0 gX 141 #[.int .i64 x.day,.string x.what,.int .i64 x.value]:=by rw [hW0,hgX];exact Blk.new _ _ _
 have HW0:=qH hW0;have HGX:=qH hgX;clear hW0 hgX;go_enter Tryz.func85,Tryz.ntmps85;go_wp2_with fail;rw [←HW0.out,←HGX.out];refine (py s hs _ (HT.out.below hv)).mono ?_;rintro e W ⟨A,c,m,es,st,n,rfl,hG,hm,hown,hok,hno,hb⟩;replace hv:=za hv hb;replace hX:=hX.below hb;clear hb;have x0:∀ O,(W.alloc O).cell? ⟨gX,0,none⟩=some (.int .i64 x.day):=fun O=>(hX.alloc O).cell 0;have x1:∀ O,(W.alloc O).cell? ⟨gX,1,none⟩=some (.string x.what):=fun O=>(hX.alloc O).cell 1;have x2:∀ O,(W.alloc O).cell? ⟨gX,2,none⟩=some (.int .i64 x.value):=fun O=>(hX.alloc O).cell 2;by_cases h0:cdL s=0
 · have HR:=qH (mg (x:=x) h0 (hok h0));have hle:=hG.le;have hmb:m≤1048576:=by have:=hG.few;omega
   have HM:=qH hm;have hs0:=hG.s0;have hs1:=hG.s1;rw [h0];clear h0 hok hno hm;go_wp2_with fail;refine qS (zaR s hs A es m c st n x hxs HM hmb hs0 hs1 _ (Arr.own (hown.alloc _)) (HT.out.below (zc hv _))) fun W2 hb=>?_;go_wp2_with fail;go_returns;exact RetT.mk (by rw [HR.out];rfl) (za (zc hv _) hb)
 · have HR:=qH (jV (x:=x) h0);have hne:(cdL s != 0)=true:=by rw [bne_iff_ne];exact h0
   clear hok hno;generalize cdL s=C at *;clear h0;go_wp2_with fail;go_returns;exact RetT.mk (by rw [HR.out];rfl) (zc hv _)
theorem ju (s:ByteArray) (hs:s.size≤1048576) (x:Entry) (hxs:x.what.size≤9223372036854775807) (w:World) :
 Calls Tryz.prog 163 #[.string s,.agg #[.int .i64 x.day,.string x.what,.int .i64 x.value]] w (RetT #[.string (xK s x).1,.int .i64 (xK s x).2] w):=by
 obtain ⟨W0,hW0⟩:=zN (w.alloc (Obj.cells #[.int .i64 x.day,.string x.what,.int .i64 x.value] 141));obtain ⟨gX,hgX⟩:=zN w.heap.size;have hv:Below w.heap.size w W0:=by rw [hW0];exact zc (Below.refl _ _) _
 have hX:Blk W0 gX 141 #[.int .i64 x.day,.string x.what,.int .i64 x.value]:=by rw [hW0,hgX];exact Blk.new _ _ _
 have HW0:=qH hW0;have HGX:=qH hgX;clear hW0 hgX;go_enter Tryz.func163,Tryz.ntmps163;go_wp2_with fail;rw [←HW0.out,←HGX.out];refine (pt s hs _).mono ?_;rintro e W ⟨g,rfl,hg,hRS,hb⟩;replace hv:=za hv hb;replace hX:=hX.below hb;clear hb;by_cases h0:cdL s=0
 case neg=>
  have HR:=qH (jV (x:=x) h0);have hne:(cdL s != 0)=true:=by rw [bne_iff_ne];exact h0
  clear hRS;generalize cdL s=C at *;clear h0;go_wp2_with fail;go_returns;exact RetT.mk (by rw [HR.out];rfl) hv
 obtain ⟨A,c,hB,hown,_⟩:=hRS h0;have hG:=vH s;have HR0:=qH (mg (x:=x) (es:=(rdL s).1) (st:=(rdL s).2.1) (n:=(rdL s).2.2) h0 rfl);rw [h0];clear hRS h0;generalize (rdL s).1=es at *;generalize (rdL s).2.1=st at *;generalize (rdL s).2.2=n at *;obtain ⟨m,hm0⟩:=zN es.length;rw [←hm0] at hB hown;have hm:=qH hm0.symm;have hmb:m≤1048576:=by have:=hG.few;have:=hG.le;omega
 have hs0:=hG.s0;have hs1:=hG.s1;clear hm0;go_wp2_with fail;refine qR (mr ⟨gX,0,none⟩ x hxs _ (hX.cell 0) (hX.cell 1) (hX.cell 2)) ?_;cases hx:yX x
 · have HR:=qH (HR0.out.trans (oH (s:=s) (es:=es) (st:=st) hx));clear hx;go_wp2_with fail;go_returns;exact RetT.mk (by rw [HR.out];rfl) hv
 have HX:=qH hx;clear hx;go_wp2_with fail;replace hv:Below w.heap.size w W.drew:=hv.drew;replace hB:=hB.below (Below.refl W.heap.size W).drew;replace hX:=hX.below (Below.refl W.heap.size W).drew;replace hown:=ze hown (Below.refl W.heap.size W).drew;refine zH (fun w'=>Blk w' g 201 (RV s n st A m c)∧Blk w' gX 141 #[Value.int .i64 x.day,Value.string x.what,Value.int .i64 x.value]) ?_ (fun hHeld=>?_)
 · exact ⟨hB,hX⟩
 refine zU 0 19 ?_;refine zT 1 20 rfl (fun w hSw=>by
  have k0:w.cell? ⟨g,0,none⟩=some (.string s):=hSw.1.cell 0;have k1:w.cell? ⟨g,1,none⟩=some (.int .i64 n):=hSw.1.cell 1;have k2:w.cell? ⟨g,2,none⟩=some (.int .i64 st):=hSw.1.cell 2;have k3:w.cell? ⟨g,3,none⟩=some (.slice A m c):=hSw.1.cell 3;have x0:w.cell? ⟨gX,0,none⟩=some (.int .i64 x.day):=hSw.2.cell 0;have x1:w.cell? ⟨gX,1,none⟩=some (.string x.what):=hSw.2.cell 1;have x2:w.cell? ⟨gX,2,none⟩=some (.int .i64 x.value):=hSw.2.cell 2;go_simp;try with_reducible rfl) ?_
 refine zU 2 21 ?_;refine zR 3 (some 22) rfl (fun K hK=>?_);go_simp;go_split_ands;refine qS (zaF s g es st n m c A hm hmb _ hB (Arr.own hown)) fun W2 hb=>?_;replace hv:=za hv hb;replace hB:=hB.below hb;replace hX:=hX.below hb;replace hown:=ze hown hb;clear hb;go_wp2_with fail;refine zK hK ⟨hB,hX⟩ (fun hHeld=>?_);clear hK K;refine zU 4 23 ?_;refine zD ?_;clear hHeld;by_cases hday:x.day < xx es
 · have hdd:decide (x.day < xx es)=true:=decide_eq_true hday;have HR:=qH (HR0.out.trans (oG (s:=s) (es:=es) (st:=st) HX.out hday));go_wp2_with fail;go_returns;exact RetT.mk (by rw [HR.out];rfl) hv
 have hdd:decide (x.day < xx es)=false:=decide_eq_false hday;have HD:=qH hday;obtain ⟨t0,t1⟩:=ri st x;have hwz:(yd x).size≤9223372036854775807:=by have:=vu HX.out;omega
 have hlz:=qB HX.out (stp st x) t0 t1;have hWD:Hid (∀ w c0 c1 c2,Calls Tryz.prog 174 #[.pointer (some ⟨gX,0,none⟩)] w (Ret (.string (yd x)) w)):=qH (fun w c0 c1 c2=>sE ⟨gX,0,none⟩ x HX.out w c0 c1 c2);have hST:Hid (∀ w,Calls Tryz.prog 232 #[.int .i64 st,.string (yd x)] w (RetQ (.int .i64 (stp st x)) w)):=qH (fun w=>nC st _ hs0 hs1 hwz w);have hLN:=qH (fun w c0 c1 c2=>mU (stp st x) ⟨gX,0,none⟩ x HX.out t0 t1 w c0 c1 c2);obtain ⟨ln,hln⟩:=zN (yG (stp st x) x);obtain ⟨b,hb0⟩:=zN (s ++ ln);rw [←hln] at hLN hlz;have hadd:=fun (w:World)=>run_string_add_sum (P:=Tryz.prog) w s ln (by omega);have hbz:b.size≤9223372036854775807:=by rw [hb0,ByteArray.size_append'];omega
 rw [←hb0] at hadd;have HB:Hid (s ++ yG (stp st x) x=b):=qH (by rw [←hln];exact hb0.symm);obtain ⟨sv,hsv⟩:=zN (stp st x);rw [←hsv] at hLN hST;obtain ⟨wd,hwd⟩:=zN (yd x);rw [←hwd] at hWD hST;clear hsv hwd hln hb0 hwz hlz t0 t1;go_wp2_with fail;replace hv:Below w.heap.size w W2.drew:=hv.drew;replace hB:=hB.below (Below.refl W2.heap.size W2).drew;replace hX:=hX.below (Below.refl W2.heap.size W2).drew;replace hown:=ze hown (Below.refl W2.heap.size W2).drew;refine zH (fun w'=>Blk w' g 201 (RV s n st A m c)∧Blk w' gX 141 #[Value.int .i64 x.day,Value.string x.what,Value.int .i64 x.value]) ?_ (fun hHeld=>?_)
 · exact ⟨hB,hX⟩
 refine zU 0 24 ?_;refine zU 1 25 ?_;refine zU 2 26 ?_;refine zU 3 27 ?_;refine zT 4 28 rfl (fun w hSw=>by
  have k0:w.cell? ⟨g,0,none⟩=some (.string s):=hSw.1.cell 0;have k1:w.cell? ⟨g,1,none⟩=some (.int .i64 n):=hSw.1.cell 1;have k2:w.cell? ⟨g,2,none⟩=some (.int .i64 st):=hSw.1.cell 2;have k3:w.cell? ⟨g,3,none⟩=some (.slice A m c):=hSw.1.cell 3;have x0:w.cell? ⟨gX,0,none⟩=some (.int .i64 x.day):=hSw.2.cell 0;have x1:w.cell? ⟨gX,1,none⟩=some (.string x.what):=hSw.2.cell 1;have x2:w.cell? ⟨gX,2,none⟩=some (.int .i64 x.value):=hSw.2.cell 2;go_simp;try with_reducible rfl) ?_
 refine zR 5 (some 29) rfl (fun K hK=>?_);go_simp;go_split_ands;refine qS (hWD.out _ (hX.cell 0) (hX.cell 1) (hX.cell 2)) fun W3 hb=>?_;replace hv:=za hv hb;replace hB:=hB.below hb;replace hX:=hX.below hb;replace hown:=ze hown hb;clear hb;go_wp2_with fail;refine zK hK ⟨hB,hX⟩ (fun hHeld=>?_);clear hK K;refine zR 6 (some 30) rfl (fun K hK=>?_);go_simp;go_split_ands;refine qR (hST.out _) ?_;go_wp2_with fail;refine zK hK ⟨hB,hX⟩ (fun hHeld=>?_);clear hK K;refine zR 7 (some 31) rfl (fun K hK=>?_);go_simp;go_split_ands;refine qS (hLN.out _ (hX.cell 0) (hX.cell 1) (hX.cell 2)) fun W4 hb=>?_;replace hv:=za hv hb;replace hB:=hB.below hb;replace hX:=hX.below hb;replace hown:=ze hown hb;clear hb;go_wp2_with fail;refine zK hK ⟨hB,hX⟩ (fun hHeld=>?_);clear hK K;refine zU 8 32 ?_;refine zU 9 8 ?_;refine zD ?_;clear hHeld hadd;by_cases hbig:4000 < (b.size:Int)
 · have HR:=qH (HR0.out.trans (qd (s:=s) (es:=es) (st:=st) HX.out (by have h:=HD.out;omega) (by rw [HB.out];omega)));go_wp2_with fail;go_returns;exact RetT.mk (by rw [HR.out];rfl) hv
 · have HR:=qH (HR0.out.trans (qe (s:=s) (es:=es) (st:=st) HX.out (by have h:=HD.out;omega) (by rw [HB.out];omega)));have hbd:decide (4000 < (b.size:Int))=false:=decide_eq_false hbig;go_wp2_with fail;go_returns;exact RetT.mk (by rw [HR.out,HB.out];rfl) hv
def zcy (w:World) (lo hi g:Nat) (d:Dk):Prop:=∃ (A:Option Addr) (n c:Nat),Blk w g 32 ((cD d.f A n c d.s d.lg))∧d.xs.length=n∧Own w lo hi 100 6 n (.slice A n c) (zd Last.cells d.xs)
structure XIn (w0 w:World) (gd ga:Nat) (f:Foot) (xs:List Last) (s:Style) (lg:ByteArray) (n c:Nat) (A An:Option Addr) (ws:List ByteArray) (ns:List Int) (nw kn:Nat):Prop where
 hbw:Below w0.heap.size w0 w
 hws:Arr w0 (some ⟨ga,0,none⟩) (zd zn ws)
 hns:Arr w An (zd zp ns)
 hdk:Blk w gd 32 (cD f A n c s lg)
 hgd:w0.heap.size≤gd
 hown:w.ownsRow w0.heap.size 100 6 (.slice A n c) n (zd Last.cells xs)
 hne:∀ k,(Value.slice A n c).ownBlock=some k→k≠gd
 hn:Hid (xs.length=n)
 hnw:Hid (ws.length=nw)
 hkn:Hid (ns.length=kn)
 nw0:0 < nw
 nw1:nw≤1048577
 htabs:Tabs w0
 hchg:ChgN w0
 hok:(Dk.mk f xs s lg).ok=true
 hsz:∀ y ∈ ws,y.size≤1048576
 hrsz:(yx ws).size≤1048576
def OutX (w0:World) (gd:Nat) (r:xX) (e:Ending) (w':World):Prop:=∃ (A:Option Addr) (k c:Nat),e=.returned (.tuple #[.slice A k c,.int .i64 r.2.2])∧Below w0.heap.size w0 w'∧(r.2.2=0→r.2.1.length=k∧∃ mid,w'.ownsRow mid 9 1 (.slice A k c) k (zd zn r.2.1)∧zcy w' w0.heap.size mid gd r.1)
theorem pY {w:World} {g lo:Nat} {t:ByteArray} (h:Blk w g 9 #[.string t]) (hg:lo≤g):w.ownsRow lo 9 1 (.slice (some ⟨g,0,none⟩) 1 1) 1 (zd zn [t]):=
 ⟨rfl,.inr ⟨g,1,#[.string t],rfl,hg,h,Nat.le_refl _,by unfold maxLen;omega,rfl,rfl⟩⟩
theorem OutX.no {w0 w':World} {gd:Nat} {r:xX} {c:Int} (hc:r.2.2=c) (h0:c≠0) (hb:Below w0.heap.size w0 w'):OutX w0 gd r (.returned (.tuple #[.slice none 0 0,.int .i64 c])) w':=by
 subst hc;exact ⟨none,0,0,rfl,hb,fun h=>absurd h h0⟩
theorem OutX.one {w0 W:World} {gd n c:Nat} {A:Option Addr} {f:Foot} {xs:List Last} {s:Style} {lg t:ByteArray} {r:xX} (hr:r=(⟨f,xs,s,lg⟩,[t],0)) (hn:xs.length=n) (hb:Below w0.heap.size w0 W)
 (hO:W.ownsRow w0.heap.size 100 6 (.slice A n c) n (zd Last.cells xs)) (hD:Blk W gd 32 ((cD f A n c s lg))):OutX w0 gd r (.returned (.tuple #[.slice (some ⟨W.heap.size,0,none⟩) 1 1,.int .i64 0])) (W.alloc (Obj.cells #[.string t] 9)):=by
 subst hr;exact ⟨_,1,1,rfl,zc hb _,fun _=>⟨rfl,W.heap.size,pY (Blk.new _ _ _) (Nat.le_refl _),A,n,c,hD.alloc _,hn,(Own.of hO hb).below (zc (Below.refl _ _) _)⟩⟩
theorem OutX.many {w0 W W5:World} {gd n c c5:Nat} {A A5:Option Addr} {f:Foot} {xs:List Last} {s:Style} {lg:ByteArray} {L:List ByteArray} {r:xX} (hr:r=(⟨f,xs,s,lg⟩,L,0)) (hn:xs.length=n) (hb:Below w0.heap.size w0 W)
 (hO:W.ownsRow w0.heap.size 100 6 (.slice A n c) n (zd Last.cells xs)) (hD:Blk W gd 32 ((cD f A n c s lg))) (hb5:Below W.heap.size W W5) (h5:W5.ownsRow W.heap.size 9 1 (.slice A5 L.length c5) L.length (zd zn L)) :
 OutX w0 gd r (.returned (.tuple #[.slice A5 L.length c5,.int .i64 0])) W5:=by
 subst hr;exact ⟨A5,L.length,c5,rfl,za hb hb5,fun _=>⟨rfl,W.heap.size,h5,A,n,c,hD.below hb5,hn,(Own.of hO hb).below hb5⟩⟩
section
variable {w0 w:World} {gd ga:Nat} {f:Foot} {xs:List Last} {s:Style} {lg:ByteArray} {n c:Nat} {A An:Option Addr} {ws:List ByteArray} {ns:List Int} {nw kn:Nat}
theorem XIn.n30 (h:XIn w0 w gd ga f xs s lg n c A An ws ns nw kn):n≤30:=by
 have h1:=wg (ym h.hok).2.1;have h2:=h.hn.out;dsimp only at h1;omega
theorem XIn.word (h:XIn w0 w gd ga f xs s lg n c A An ws ns nw kn) {k:Nat} (hk:k < nw):w.cell? ⟨ga,k,none⟩=some (.string (zf ws k)):=by
 have h1:ws[k]?=some (zf ws k):=by
  unfold zf;have h3:k < ws.length:=by rw [h.hnw.out];exact hk
  rw [List.getD_eq_getElem?_getD,List.getElem?_eq_getElem h3];rfl
 exact zb h.hbw (zW h.hws h1)
theorem XIn.word0 (h:XIn w0 w gd ga f xs s lg n c A An ws ns nw kn) {t:ByteArray} (hk:zf ws 0=t):w.cell? ⟨ga,0,none⟩=some (.string t):=by
 rw [←hk];exact h.word h.nw0
theorem XIn.join (h:XIn w0 w gd ga f xs s lg n c A An ws ns nw kn):Calls Tryz.prog 69 #[.slice (some ⟨ga,1,none⟩) (nw - 1) (nw - 1),.string ⟨#[32]⟩] w (Ret (.string (yx ws)) w):=by
 have hl:(ws.drop 1).length=nw - 1:=by rw [List.length_drop,h.hnw.out]
 have hga:ga < w.heap.size:=block_lt_of_cell (h.word h.nw0);have hz:(yx ws).size=(Lib.join ((ws.drop 1).map (·.data.toList)) (ByteArray.mk #[32]).data.toList).length:=by
  unfold yx yA;rw [←zv]
 have hr:=h.hrsz;rw [hz] at hr;have hjn:=Tryz.strings_Join ga 1 (nw - 1) (ws.drop 1) ⟨#[32]⟩ w (fun i y hy=>by
  rw [List.getElem?_drop] at hy;have h1:=zb h.hbw (zW h.hws hy);exact h1) hga (by rw [hl];have:=h.nw1;omega) (by rw [hl];exact Nat.le_refl _) (Nat.le_trans hr (by omega))
 rw [hl] at hjn;refine qS hjn fun W3 hb3=>?_;exact Ret.mk rfl hb3
theorem XIn.numO (h:XIn w0 w gd ga f xs s lg n c A An ws ns nw kn) {gn:Nat} (hA:An=some ⟨gn,0,none⟩) {k:Nat} (hk:k < kn):w.cell? ⟨gn,k,none⟩=some (.int .i64 (yR ns k)):=by
 have h1:ns[k]?=some (yR ns k):=by
  unfold yR;have h3:k < ns.length:=by rw [h.hkn.out];exact hk
  rw [List.getD_eq_getElem?_getD,List.getElem?_eq_getElem h3];rfl
 obtain ⟨ad,e,_,hc⟩:=yn h.hns h1;rw [hA] at e;injection e with e;subst e;rw [show (⟨gn,0,none⟩:Addr).add k=⟨gn,k,none⟩ by unfold Addr.add;split <;> simp_all] at hc;exact hc
theorem XIn.join1 (h:XIn w0 w gd ga f xs s lg n c A An ws ns 1 kn):Calls Tryz.prog 69 #[.slice (some ⟨ga,0,none⟩) 0 0,.string ⟨#[32]⟩] w (Ret (.string (yx ws)) w):=by
 have hga:ga < w.heap.size:=block_lt_of_cell (h.word h.nw0);have hl:ws.drop 1=[]:=List.drop_eq_nil_of_le (by rw [h.hnw.out];exact Nat.le_refl _);have hr:yx ws=⟨#[]⟩:=by unfold yx yA;rw [hl];rfl
 have hjn:=Tryz.strings_Join ga 0 0 [] ⟨#[32]⟩ w (fun i y hy=>by cases hy) hga (by simp) (by simp) (by simp [Lib.join_nil]);refine qS hjn fun W3 hb3=>?_;exact Ret.mk (by rw [hr];rfl) hb3
end
theorem vS {w:World} {g:Nat} {t:TypeId} {cs:Array Value} (h:Blk w g t cs) {o n:Nat} (hn:o + n≤cs.size):w.there g o n:=fun j hj=>
 ⟨by rw [h.cell,Array.getElem?_eq_getElem (by omega)];rfl,h.frozen _⟩
theorem xh (w:World) (g o:Nat) (v:Value):w.grownBy (w.setCell ⟨g,o,none⟩ v) (some g):=
 ⟨rfl,rfl,rfl,by simp [World.setCell],fun k _ hk=>Below.heap_setCell w ⟨g,o,none⟩ v k (fun e=>hk (by rw [e]))⟩
theorem xv (g:Nat):∀ (vs:List Value) (o:Nat) (w:World),w.grownBy (w.setCells g o vs) (some g)
 | [],_,_=>yU (Below.refl _ _) _
 | v :: r,o,w=>vL (xh w g o v) (xv g r (o + 1) _)
theorem qg {a w:World} {g:Nat} (h:Below a.heap.size a w) (hg:a.heap.size≤g) (o:Nat) (vs:List Value):Below a.heap.size a (w.setCells g o vs):=
 zh h (xv g vs o w) (fun k e=>by injection e with e;omega)
theorem tz {w:World} {g g' o:Nat} {t:TypeId} {cs:Array Value} (h:Blk w g t cs) (hg:g≠g') (vs:List Value):Blk (w.setCells g' o vs) g t cs:=
 h.grown (xv g' vs o w) (fun e=>hg (by injection e))
theorem tZ {w:World} {base e size n g:Nat} {v:Value} {cs:List Value} (h:w.ownsRow base e size v n cs) (hp:∀ k,v.ownBlock=some k→k≠g) (o:Nat) (vs:List Value):(w.setCells g o vs).ownsRow base e size v n cs:=
 h.kept (xv g vs o w) (by
  cases hv:v.ownBlock with
  | none=>exact .inl rfl
  | some k=>exact .inr (fun e=>hp k hv (by injection e)))
def sS:ByteArray:=⟨#[63]⟩
def xN:Nat→Dk→List ByteArray→List ByteArray
 | _,_,[]=>[]
 | 0,_,_ :: _=>[xw 5]
 | k + 1,d,l :: r=>if (wK d l).2.2=0 then (wK d l).2.1 ++ xN k (wK d l).1 r else [sS] ++ xN k d r
def lnT (L:List ByteArray):ByteArray:=L.foldl (fun a l=>a ++ (l ++ ⟨#[10]⟩)) ⟨#[]⟩
def ux (L:List ByteArray):List ByteArray:=if L.getLast?=some ⟨#[]⟩ then L.dropLast else L
def rf (t:ByteArray):ByteArray:=lnT (xN 60 newDk (ux (zi 10 t)))
theorem oT (L:List ByteArray) (l:ByteArray):lnT (L ++ [l])=lnT L ++ (l ++ ⟨#[10]⟩):=by
 unfold lnT;rw [List.foldl_append];rfl
theorem qT {k:Nat} {d:Dk} {l:ByteArray} {r:List ByteArray} (h:(wK d l).2.2=0):xN (k + 1) d (l :: r)=(wK d l).2.1 ++ xN k (wK d l).1 r:=by
 rw [xN,if_pos h]
theorem pI {k:Nat} {d:Dk} {l:ByteArray} {r:List ByteArray} (h:¬ (wK d l).2.2=0):xN (k + 1) d (l :: r)=[sS] ++ xN k d r:=by
 rw [xN,if_neg h]
theorem jl (k:Nat) (d:Dk):xN k d []=[]:=by cases k <;> rfl
theorem kX:newDk.ok=true:=by
 refine qF (by decide) (by decide) (by decide) ?_
 show cdL ⟨#[]⟩=0
 decide
def rT (L:List ByteArray):Prop:=L.length≤5000∧∀ y ∈ L,y.size≤2000000
theorem xz {t:ByteArray} (h:t.size≤2000000):rT [t]:=⟨by simp,fun y hy=>by
 obtain rfl:y=t:=by simpa using hy
 exact h⟩
theorem nS:rT []:=⟨by simp,fun y hy=>by cases hy⟩
theorem pQ {v:Int} (h0:-9223372036854775808≤v) (h1:v≤9223372036854775807):(zm v).size≤21:=xd h0 h1
theorem jc {n:Nat} (h:n≤1000000):(okW n).size≤24:=by
 have h1:=pQ (v:=(n:Int)) (by omega) (by omega);have h3:(⟨#[111,107,32]⟩:ByteArray).size=3:=rfl;unfold okW;rw [zu,h3];omega
theorem lr {l:List Int} (hl:l.length≤3) (h:∀ v ∈ l,-100000≤v∧v≤100000):(vZ l).size≤75:=by
 have h1:=qr ⟨#[32]⟩ (by decide) (xL l) (fun y hy=>by
  obtain ⟨v,hv,rfl⟩:=List.mem_map.1 hy;obtain ⟨a,b⟩:=h v hv;exact pQ (by omega) (by omega))
 have h2:(xL l).length=l.length:=by unfold xL;rw [List.length_map]
 have h3:(vZ l).size=(Lib.join ((xL l).map (·.data.toList)) (ByteArray.mk #[32]).data.toList).length:=by
  unfold vZ yA;rw [←zv]
 rw [h3];rw [h2] at h1;omega
theorem pU {x:Last} {f:Foot} (hx:zy x=true) (hf:yo f=true):(wG x f).length≤3∧∀ v ∈ wG x f,-100000≤v∧v≤100000:=by
 obtain ⟨_,hf2,_,_⟩:=yP hx;obtain ⟨⟨a1,a2⟩,⟨b1,b2⟩,⟨c1,c2⟩,⟨d1,d2⟩⟩:=wE hf2;obtain ⟨⟨e1,e2⟩,⟨g1,g2⟩,⟨h1,h2⟩,⟨i1,i2⟩⟩:=wE hf;simp only [Last.foot] at a1 a2 b1 b2 c1 c2 d1 d2;refine ⟨by simp [wG],fun v hv=>?_⟩;simp only [wG,List.mem_cons,List.not_mem_nil,or_false] at hv;rcases hv with rfl | rfl | rfl <;> omega
theorem ji (a b c e:Int):(xy a b c e).1.length≤3∧∀ v ∈ (xy a b c e).1,-100000≤v∧v≤100000:=by
 unfold xy;by_cases h:(shB a && (shB b && (shB c && shB e)))=true
 · rw [if_pos h];simp only [shB,Bool.and_eq_true,inB_iff] at h;split
   · exact ⟨by simp,fun v hv=>by cases hv⟩
   · refine ⟨by simp,fun v hv=>?_⟩;simp only [List.mem_cons,List.not_mem_nil,or_false] at hv;rcases hv with rfl | rfl | rfl <;> omega
 · rw [if_neg h];exact ⟨by simp,fun v hv=>by cases hv⟩
theorem nX:∀ l:List Int,(∀ v ∈ l,-1000000≤v∧v≤1000000)→-1000000 * (l.length:Int)≤l.sum∧l.sum≤1000000 * (l.length:Int)
 | [],_=>by simp
 | a :: r,h=>by
   have h1:=nX r (fun v hv=>h v (by simp [hv]));have h2:=h a (by simp);rw [List.sum_cons,List.length_cons];omega
theorem mz (s t:ByteArray):(uI s t).length≤4000∧∀ v ∈ uI s t,-1000000≤v∧v≤1000000:=by
 by_cases h:cdW s t=0
 · rw [mA h];have h0:=bQ h;refine ⟨Nat.le_trans (zax _ _) (Nat.le_trans (sN s) (wP h0)),fun v hv=>?_⟩;unfold wJ at hv;obtain ⟨e,he,rfl⟩:=List.mem_map.1 hv;have h1:=ue ((vH s).ent e (List.mem_filter.1 he).1);omega
 · rw [oh h];exact ⟨by simp,fun v hv=>by cases hv⟩
theorem mJ {d:Dk} (h:d.ok=true) (ws:List ByteArray) (ns:List Int):rT (yj d ws ns).2.1:=by
 obtain ⟨h1,h2,h3,h4⟩:=ym h;have hno:∀ c,rT (noD d c).2.1:=fun c=>nS;have hlen:=wg h2;unfold yj;split
 · unfold vd;split
   · rename_i f hf;exact xz (Nat.le_trans (vD (se hf).2) (by omega))
   · exact hno _
 split
 · unfold xt;split
   · rename_i x hx;split
     · rename_i ha;have hl:=wg (lW ha).1;have hd:=pQ (v:=(((yO d.xs x).1.length:Nat):Int)) (by omega) (by omega);have hf:=vD h1;have e1:(⟨#[32]⟩:ByteArray).size=1:=rfl;have e2:(⟨#[32,108,97,115,116,115]⟩:ByteArray).size=6:=rfl;refine xz ?_;unfold uW;rw [zu,zu,zu,e1,e2];omega
     · exact hno _
   · exact hno _
 split
 · refine ⟨?_,fun y hy=>?_⟩
   · show (d.xs.map xS ++ [okW d.xs.length]).length≤5000
     rw [List.length_append,List.length_map,List.length_singleton];omega
   · rcases List.mem_append.1 (show y ∈ d.xs.map xS ++ [okW d.xs.length] from hy) with hy | hy
     · obtain ⟨x,hx,rfl⟩:=List.mem_map.1 hy;exact Nat.le_trans (mX (yV h2 x hx)) (by omega)
     · obtain rfl:y=okW d.xs.length:=by simpa using hy
       exact Nat.le_trans (jc (by omega)) (by omega)
 split
 · unfold uC;split
   · rename_i hb;obtain ⟨k,x,e1,e2,_⟩:=pg hb;rw [e1,Int.toNat_natCast,e2];exact xz (Nat.le_trans (yB (yV h2 x (List.mem_of_getElem? e2))) (by omega))
   · exact hno _
 split
 · unfold vP;split
   · rename_i hb;have hx:=yV h2 _ (List.mem_of_getElem? (ni hb).1);obtain ⟨e1,e2⟩:=pU hx h1;exact xz (Nat.le_trans (lr e1 e2) (by omega))
   · exact hno _
 split
 · unfold xC;split
   · exact hno _
   · rename_i k a _;split
     · split
       · rename_i ha;obtain ⟨e1,e2⟩:=rk ha;refine xz ?_;rw [e1,rQ e2];exact Nat.le_trans (mX e2) (by omega)
       · exact hno _
     · exact hno _
 split
 · have ho:=fun hc=>(ym (rI h (t:=yx ws) hc).1).2.2.1;unfold wC at ho ⊢;split
   · rename_i hc;rw [if_pos hc] at ho;exact xz (Nat.le_trans (qO (ho rfl)).1 (by omega))
   · exact hno _
 split
 · have ho:=fun hc=>(ym (sz h (t:=yx ws) hc).1).2.2.1;unfold xV at ho ⊢;split
   · rename_i hc;rw [if_pos hc] at ho;exact xz (Nat.le_trans (qO (ho rfl)).1 (by omega))
   · exact hno _
 split
 · unfold vo;split
   · obtain ⟨e1,e2⟩:=ji (yR ns 0) (yR ns 1) (yR ns 2) (yR ns 3);exact xz (Nat.le_trans (lr e1 e2) (by omega))
   · exact hno _
 split
 · unfold vj;split
   · obtain ⟨e1,e2⟩:=mz (xK d.lg ⟨yR ns 0,zf ws 2,yR ns 1⟩).1 (zf ws 2);have e3:=nX _ e2;exact xz (Nat.le_trans (pQ (by omega) (by omega)) (by omega))
   · exact hno _
 · have hg:=vH d.lg;have hf:=Nat.le_trans (sN d.lg) (wP h4);refine ⟨?_,fun y hy=>?_⟩
   · show ((rdL d.lg).1.map yd ++ [okW (rdL d.lg).1.length]).length≤5000
     rw [List.length_append,List.length_map,List.length_singleton];omega
   · rcases List.mem_append.1 (show y ∈ (rdL d.lg).1.map yd ++ [okW (rdL d.lg).1.length] from hy) with hy | hy
     · obtain ⟨x,hx,rfl⟩:=List.mem_map.1 hy;exact Nat.le_trans (vu (hg.ent x hx)) (by omega)
     · obtain rfl:y=okW (rdL d.lg).1.length:=by simpa using hy
       exact Nat.le_trans (jc (by omega)) (by omega)
theorem sY (c:Int):(xw c).size≤2000000:=by
 have e1:=rq c;have e2:(⟨#[101,114,114,111,114,32]⟩:ByteArray).size=6:=rfl;unfold xw;rw [zu,e2];omega
theorem eY {d:Dk} (h:d.ok=true) (line:ByteArray):rT (wK d line).2.1:=by
 unfold wK;rw [if_pos h];split
 · unfold wt;split
   · exact xz (sY 7)
   · split
     · exact mJ h _ _
     · exact xz (sY _)
 · exact nS
end Go.Proofs.YtpiehlfffjhoaaaGreatDoor
