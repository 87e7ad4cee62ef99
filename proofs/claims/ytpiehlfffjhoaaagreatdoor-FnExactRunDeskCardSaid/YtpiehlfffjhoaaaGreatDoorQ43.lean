/- The console's reference: a last changed. -/
import Derived.Test.YtpiehlfffjhoaaaGreatDoorQ1
import Derived.Test.YtpiehlfffjhoaaaGreatDoorQ0
import Derived.Test.YtpiehlfffjhoaaaGreatDoorQ38
import Derived.Test.YtpiehlfffjhoaaaGreatDoorQ26
namespace Go.Proofs.YtpiehlfffjhoaaaGreatDoor
open Go.RowKit
set_option maxRecDepth 100000
set_option maxHeartbeats 8000000
theorem al (x:Last) (k a:Int) (h:xg k a=true) (hx:zy x=true):∃ (q:Nat) (mv:Int),k=((q + 1:Nat):Int)∧q < 5∧(∀ (V:World) (gn:Nat),Blk V gn 2 #[.int .i64 x.length,.int .i64 x.b,.int .i64 x.i,.int .i64 x.h,.int .i64 x.p]→V.cell? ⟨gn,q,none⟩=some (.int .i64 mv)∧V.frozen? ⟨gn,q,none⟩=false∧Blk (V.setCell ⟨gn,q,none⟩ (.int .i64 (mv + a))) gn 2 #[Value.int .i64 (xR x k a).length,Value.int .i64 (xR x k a).b,Value.int .i64 (xR x k a).i,Value.int .i64 (xR x k a).h,Value.int .i64 (xR x k a).p])∧0≤mv∧mv≤5000:=by
 obtain ⟨h1,h5,h0,ha,hb⟩:=uK h;obtain ⟨⟨l1,l2⟩,⟨m1,m2⟩,⟨n1,n2⟩,⟨o1,o2⟩,p1,p2⟩:=uM hx;rcases (show k=1∨k=2∨k=3∨k=4∨k=5 by omega) with rfl | rfl | rfl | rfl | rfl
 · exact ⟨0,x.length,rfl,by omega,fun V gn hB=>⟨hB.cell 0,hB.frozen 0,hB.set_ 0 _⟩,by omega,by omega⟩
 · exact ⟨1,x.b,rfl,by omega,fun V gn hB=>⟨hB.cell 1,hB.frozen 1,hB.set_ 1 _⟩,by omega,by omega⟩
 · exact ⟨2,x.i,rfl,by omega,fun V gn hB=>⟨hB.cell 2,hB.frozen 2,hB.set_ 2 _⟩,by omega,by omega⟩
 · exact ⟨3,x.h,rfl,by omega,fun V gn hB=>⟨hB.cell 3,hB.frozen 3,hB.set_ 3 _⟩,by omega,by omega⟩
 · exact ⟨4,x.p,rfl,by omega,fun V gn hB=>⟨hB.cell 4,hB.frozen 4,hB.set_ 4 _⟩,by omega,by omega⟩
theorem oF (x:Last) (k a:Int) (gc:Nat) (HX:Hid (zy x=true)) (HC:Hid (xg k a=true)) (w:World) (hB:Blk w gc 126 #[.int .i64 k,.int .i64 a]) :
 Calls Tryz.prog 159 #[.agg #[.string x.name,.int .i64 x.length,.int .i64 x.b,.int .i64 x.i,.int .i64 x.h,.int .i64 x.p],.slice (some ⟨gc,0,none⟩) 1 1] w (RetT (lP (xY x k a)) w):=by
 have H1:=fun w=>tG x (Nat.le_trans (yB HX.out) (by omega)) w;rw [HX.out] at H1;replace H1:=qH H1;have H2:=fun w h=>aN k a gc w h;rw [HC.out] at H2;replace H2:=qH H2;have H5:=qH (fun w=>dV x w);obtain ⟨q,mv,hkq,hq5,hset,hm0,hm1⟩:=al x k a HC.out HX.out;have HKQ:=qH hkq;clear hkq;have hab:=uK HC.out;have HSET:=qH hset;have hxc:zy x=true∧xg k a=true:=⟨HX.out,HC.out⟩
 have HTI:=qH (fun h=>nh (x:=x) (k:=k) (a:=a) (by rw [HX.out,HC.out];rfl) h);have HOK:=qH (fun h=>jX (x:=x) (k:=k) (a:=a) (by rw [HX.out,HC.out];rfl) h);have hnz:(xR x k a).name=x.name:=pi x k a;have HCY:=fun w=>tG (xR x k a) (by rw [hnz];exact Nat.le_trans (yB HX.out) (by omega)) w;obtain ⟨by_,hby⟩:=zN (zy (xR x k a));rw [←hby] at HCY HTI HOK;obtain ⟨y,hy⟩:=zN (xR x k a);have HSY:=qH (fun V gn (h:Blk V gn 2 #[.int .i64 (xR x k a).length,.int .i64 (xR x k a).b,.int .i64 (xR x k a).i,.int .i64 (xR x k a).h,.int .i64 (xR x k a).p])=>(show Blk V gn 2 (#[Value.int .i64 y.length,Value.int .i64 y.b,Value.int .i64 y.i,Value.int .i64 y.h,Value.int .i64 y.p]) by rw [hy];exact h));rw [←hy] at HCY HOK hnz;have HNZ:=qH hnz;replace HCY:=qH HCY;clear hy hby hset hxc hnz;obtain ⟨W,hW⟩:=zN ((w.alloc (Obj.cells #[.string x.name,.int .i64 x.length,.int .i64 x.b,.int .i64 x.i,.int .i64 x.h,.int .i64 x.p] 100)).alloc (Obj.cells #[.string ⟨#[]⟩,.int .i64 0,.int .i64 0,.int .i64 0,.int .i64 0,.int .i64 0] 100));obtain ⟨gx,hgx⟩:=zN w.heap.size;obtain ⟨gr,hgr⟩:=zN (w.heap.size + 1);have hv:Below w.heap.size w W:=by rw [hW];exact zc (zc (Below.refl _ _) _) _
 have hX:Hid (Blk W gx 100 #[.string x.name,.int .i64 x.length,.int .i64 x.b,.int .i64 x.i,.int .i64 x.h,.int .i64 x.p]):=qH (by rw [hW,hgx];exact (Blk.new _ _ _).alloc _);have hR:Hid (Blk W gr 100 #[.string ⟨#[]⟩,.int .i64 0,.int .i64 0,.int .i64 0,.int .i64 0,.int .i64 0]):=qH (by
  have h:=Blk.new (w.alloc (Obj.cells #[.string x.name,.int .i64 x.length,.int .i64 x.b,.int .i64 x.i,.int .i64 x.h,.int .i64 x.p] 100)) 100 #[Value.string ⟨#[]⟩,Value.int .i64 0,Value.int .i64 0,Value.int .i64 0,Value.int .i64 0,Value.int .i64 0];rw [World.size_alloc] at h;rw [hW,hgr];exact h)
 have hge:w.heap.size≤gr:=by omega
 have hgxw:w.heap.size≤gx:=by omega
 have hxr:gx≠gr:=by omega
 have hcx:gc < w.heap.size:=hB.lt;have HCB:=qH hB;have HW:=qH hW;have HG1:=qH hgx;have HG2:=qH hgr;clear hW hgx hgr hB;go_enter Tryz.func159,Tryz.ntmps159;go_upto_region 1 with fail;rw [←HW.out,←HG2.out,←HG1.out];clear HW HG1 HG2;go_wp2_with (refine yL gx hX.out Tryz.underlying100 ?_)
 refine qS (H1.out _) fun W1 hb=>?_;replace hv:=za hv hb;replace hX:=qH (hX.out.below hb);replace hR:=qH (hR.out.below hb);clear hb;go_wp2_with fail;refine qS (H2.out _ (HCB.out.below hv)) fun W2 hb=>?_;replace hv:=za hv hb;replace hX:=qH (hX.out.below hb);replace hR:=qH (hR.out.below hb);clear hb;go_wp2_with (refine yL gx hX.out Tryz.underlying100 ?_)
 refine (H5.out _).mono ?_;rintro e W3 ⟨gn,rfl,hgn,hN,hb⟩;have hgnw:w.heap.size≤gn:=Nat.le_trans hv.size hgn;have hnx:gx≠gn:=by have:=hX.out.lt;omega
 have hnr:gr≠gn:=by have:=hR.out.lt;omega
 have hnc:gc≠gn:=by omega
 replace hv:=za hv hb;replace hX:=qH (hX.out.below hb);replace hR:=qH (hR.out.below hb);replace HCB:=qH (HCB.out.below hv);have HN3:=qH hN;clear hN hb H1 H2 H5 hgn;go_wp2_with fail
 go_loopw [5,7] (fun rv iv wr=>∃ (j:Nat) (z:Last),rv=.int .i64 0∧j≤1∧iv=.int .i64 j∧Hid (j=0→z=x)∧Hid (j=1→z=y∧by_=true)∧Hid (Blk wr gx 100 #[.string z.name,.int .i64 z.length,.int .i64 z.b,.int .i64 z.i,.int .i64 z.h,.int .i64 z.p])∧Hid (Blk wr gn 2 #[.int .i64 z.length,.int .i64 z.b,.int .i64 z.i,.int .i64 z.h,.int .i64 z.p])∧Hid (Blk wr gr 100 #[.string ⟨#[]⟩,.int .i64 0,.int .i64 0,.int .i64 0,.int .i64 0,.int .i64 0])∧Hid (Blk wr gc 126 #[.int .i64 k,.int .i64 a])∧Below w.heap.size w wr) (fun _ i _=>1 - (intOf i).toNat)
 case atStart=>exact ⟨0,x,rfl,by omega,rfl,qH (fun _=>rfl),qH (by omega),hX,HN3,hR,HCB,hv⟩
 case round=>
 clear hX HN3 hR HCB hv;obtain ⟨j,z,rfl,hj,rfl,hz0,hz1,hX,hN,hR,HCB,hv⟩:=hrel;by_cases h0:j=0
 case neg=>
  obtain rfl:j=1:=by omega
  obtain ⟨hzy,hb9⟩:=hz1.out rfl;have HN:=qH (HOK.out hb9);rw [←hzy] at HN;clear hzy hb9 h0 hj;go_wp2_with (first
   | (refine yL gx hX.out Tryz.underlying100 ?_)
   | (refine yS gr #[.string z.name,.int .i64 z.length,.int .i64 z.b,.int .i64 z.i,.int .i64 z.h,.int .i64 z.p] hR.out ?_))
  refine bodyPost_ret (zk (P:=Tryz.prog) rfl _ _ gr 100 _ (0,0) _ rfl (setRow_heap _ _ _ _ _ _ hR.out) Tryz.underlying100 rfl (by kernel_rfl)) rfl ?_;exact RetT.mk (by rw [HN.out];rfl) (zg hv hge _)
 subst h0;obtain rfl:=hz0.out rfl;have c0:wr.cell? ⟨gc,0,none⟩=some (.int .i64 k):=HCB.out.cell 0;have c1:wr.cell? ⟨gc,1,none⟩=some (.int .i64 a):=HCB.out.cell 1;obtain ⟨m0,mf,hnext⟩:=HSET.out wr gn hN.out;have HNX:=qH hnext;have hwk:IntKind.i64.wrap (k - 1)=(q:Int):=by
  have h:=IntWalk.i64_in (k - 1) (by omega);have h2:=HKQ.out;omega
 have hwm:IntKind.i64.wrap (mv + a)=mv + a:=IntWalk.i64_in _ (by omega);have hq0:(0:Int)≤(q:Int):=by omega
 have hq5':(q:Int) < 5:=by omega
 have hqw:IntKind.i64.wrap (q:Int)=(q:Int):=IntWalk.i64_in _ (by omega);clear hnext hz0 hz1;go_upto_region 7 with fail;refine zH (fun w'=>Blk w' gc 126 #[Value.int .i64 k,Value.int .i64 a]∧Below w.heap.size w w') ?_ (fun hHeld=>?_)
 · exact ⟨HCB.out.below (Below.refl _ _).drew,hv.drew⟩
 refine zU 0 25 ?_;refine zU 1 26 ?_;refine zU 2 27 ?_;refine zU 3 28 ?_;refine zU 4 29 ?_;refine zT 5 30 rfl (fun w hSw=>by
  have x_c0:w.cell? ⟨gc,0,none⟩=some (.int .i64 k):=hSw.1.cell 0;have x_c1:w.cell? ⟨gc,1,none⟩=some (.int .i64 a):=hSw.1.cell 1;go_simp;try with_reducible rfl) ?_
 refine zU 6 31 ?_;refine zU 7 32 ?_;refine zU 9 34 ?_;refine zU 10 35 ?_;refine zU 11 36 ?_;refine zU 12 37 ?_;refine zT 13 38 rfl (fun w hSw=>by
  have x_c0:w.cell? ⟨gc,0,none⟩=some (.int .i64 k):=hSw.1.cell 0;have x_c1:w.cell? ⟨gc,1,none⟩=some (.int .i64 a):=hSw.1.cell 1;go_simp;try with_reducible rfl) ?_
 refine zR 8 (some 33) rfl (fun K hK=>?_);have m9:World.cell? wr.drew ⟨gn,q,none⟩=some (.int .i64 mv):=m0;have mf9:World.frozen? wr.drew ⟨gn,q,none⟩=false:=mf;go_simp;clear m9 mf9;go_split_ands
 skip
 refine zK hK ⟨HCB.out.below (Below.refl _ _).drew,hv.drew⟩ (fun hHeld=>?_);clear hK K;refine zU 14 39 ?_;refine zU 15 40 ?_;refine zR 16 none rfl (fun K hK=>?_);have m9:World.cell? wr.drew ⟨gn,q,none⟩=some (.int .i64 mv):=m0;have mf9:World.frozen? wr.drew ⟨gn,q,none⟩=false:=mf;go_simp;clear m9 mf9;go_split_ands;have hY9:=(HSET.out wr.drew gn (hN.out.below (Below.refl _ _).drew)).2.2;have hN9:=HSY.out _ _ hY9;have hX9:=(hX.out.below (Below.refl _ _).drew).far (p:=⟨gn,q,none⟩) (by simp only;exact hnx) (.int .i64 (mv + a));have hR9:=(hR.out.below (Below.refl _ _).drew).far (p:=⟨gn,q,none⟩) (by simp only;exact hnr) (.int .i64 (mv + a));have hC9:=(HCB.out.below (Below.refl _ _).drew).far (p:=⟨gn,q,none⟩) (by simp only;exact hnc) (.int .i64 (mv + a));have hv9:=zt hv.drew (p:=⟨gn,q,none⟩) hgnw (.int .i64 (mv + a));have eW:World.setCell wr.drew ⟨gn,q,none⟩ (.int .i64 (mv + a))=(World.setCell wr ⟨gn,q,none⟩ (.int .i64 (mv + a))).drew:=rfl;rw [eW] at hN9 hX9 hR9 hC9 hv9;obtain ⟨V,hV⟩:=zN ((World.setCell wr ⟨gn,q,none⟩ (.int .i64 (mv + a))).drew);rw [←hV] at hN9 hX9 hR9 hC9 hv9 ⊢;clear hV hY9 eW;refine hK.out _ _ ?_ (fun hHeld=>?_)
 · (try dsimp only);go_split_ands;exact ⟨hC9,hv9⟩
 clear hK K;try simp only [Act.put]
 refine zD ?_;clear hHeld m0 mf c0 c1 hX hN hR HCB hv;have HR9:=qH hR9;have HX9:=qH hX9;have HC9:=qH hC9;have HN9:=qH hN9;clear hR9 hX9 hC9 hN9;go_upto_region 8 with fail;refine zH (fun w'=>(Blk w' gn 2 #[Value.int .i64 y.length,Value.int .i64 y.b,Value.int .i64 y.i,Value.int .i64 y.h,Value.int .i64 y.p]∧World.cell? w' ⟨gx,0,none⟩=some (.string z.name))∧Below w.heap.size w w') ?_ (fun hHeld=>?_)
 · exact ⟨⟨HN9.out.below (Below.refl _ _).drew,(HX9.out.below (Below.refl _ _).drew).cell 0⟩,hv9.drew⟩
 refine zU 0 41 ?_;refine zT 1 42 rfl (fun w hSw=>by
  have x_n0:w.cell? ⟨gn,0,none⟩=some (.int .i64 y.length):=hSw.1.1.cell 0;have x_n1:w.cell? ⟨gn,1,none⟩=some (.int .i64 y.b):=hSw.1.1.cell 1;have x_n2:w.cell? ⟨gn,2,none⟩=some (.int .i64 y.i):=hSw.1.1.cell 2;have x_n3:w.cell? ⟨gn,3,none⟩=some (.int .i64 y.h):=hSw.1.1.cell 3;have x_n4:w.cell? ⟨gn,4,none⟩=some (.int .i64 y.p):=hSw.1.1.cell 4;have x_0:w.cell? ⟨gx,0,none⟩=some (.string z.name):=hSw.1.2;go_simp;try with_reducible rfl) ?_
 refine zU 2 43 ?_;refine zU 3 44 ?_;refine zT 4 45 rfl (fun w hSw=>by
  have x_n0:w.cell? ⟨gn,0,none⟩=some (.int .i64 y.length):=hSw.1.1.cell 0;have x_n1:w.cell? ⟨gn,1,none⟩=some (.int .i64 y.b):=hSw.1.1.cell 1;have x_n2:w.cell? ⟨gn,2,none⟩=some (.int .i64 y.i):=hSw.1.1.cell 2;have x_n3:w.cell? ⟨gn,3,none⟩=some (.int .i64 y.h):=hSw.1.1.cell 3;have x_n4:w.cell? ⟨gn,4,none⟩=some (.int .i64 y.p):=hSw.1.1.cell 4;have x_0:w.cell? ⟨gx,0,none⟩=some (.string z.name):=hSw.1.2;go_simp;try with_reducible rfl) ?_
 refine zU 5 46 ?_;refine zU 6 47 ?_;refine zT 7 48 rfl (fun w hSw=>by
  have x_n0:w.cell? ⟨gn,0,none⟩=some (.int .i64 y.length):=hSw.1.1.cell 0;have x_n1:w.cell? ⟨gn,1,none⟩=some (.int .i64 y.b):=hSw.1.1.cell 1;have x_n2:w.cell? ⟨gn,2,none⟩=some (.int .i64 y.i):=hSw.1.1.cell 2;have x_n3:w.cell? ⟨gn,3,none⟩=some (.int .i64 y.h):=hSw.1.1.cell 3;have x_n4:w.cell? ⟨gn,4,none⟩=some (.int .i64 y.p):=hSw.1.1.cell 4;have x_0:w.cell? ⟨gx,0,none⟩=some (.string z.name):=hSw.1.2;go_simp;try with_reducible rfl) ?_
 refine zU 8 49 ?_;refine zU 9 50 ?_;refine zT 10 51 rfl (fun w hSw=>by
  have x_n0:w.cell? ⟨gn,0,none⟩=some (.int .i64 y.length):=hSw.1.1.cell 0;have x_n1:w.cell? ⟨gn,1,none⟩=some (.int .i64 y.b):=hSw.1.1.cell 1;have x_n2:w.cell? ⟨gn,2,none⟩=some (.int .i64 y.i):=hSw.1.1.cell 2;have x_n3:w.cell? ⟨gn,3,none⟩=some (.int .i64 y.h):=hSw.1.1.cell 3;have x_n4:w.cell? ⟨gn,4,none⟩=some (.int .i64 y.p):=hSw.1.1.cell 4;have x_0:w.cell? ⟨gx,0,none⟩=some (.string z.name):=hSw.1.2;go_simp;try with_reducible rfl) ?_
 refine zU 11 52 ?_;refine zU 12 53 ?_;refine zT 13 54 rfl (fun w hSw=>by
  have x_n0:w.cell? ⟨gn,0,none⟩=some (.int .i64 y.length):=hSw.1.1.cell 0;have x_n1:w.cell? ⟨gn,1,none⟩=some (.int .i64 y.b):=hSw.1.1.cell 1;have x_n2:w.cell? ⟨gn,2,none⟩=some (.int .i64 y.i):=hSw.1.1.cell 2;have x_n3:w.cell? ⟨gn,3,none⟩=some (.int .i64 y.h):=hSw.1.1.cell 3;have x_n4:w.cell? ⟨gn,4,none⟩=some (.int .i64 y.p):=hSw.1.1.cell 4;have x_0:w.cell? ⟨gx,0,none⟩=some (.string z.name):=hSw.1.2;go_simp;try with_reducible rfl) ?_
 refine zU 14 55 ?_;refine zU 15 56 ?_;refine zT 16 57 rfl (fun w hSw=>by
  have x_n0:w.cell? ⟨gn,0,none⟩=some (.int .i64 y.length):=hSw.1.1.cell 0;have x_n1:w.cell? ⟨gn,1,none⟩=some (.int .i64 y.b):=hSw.1.1.cell 1;have x_n2:w.cell? ⟨gn,2,none⟩=some (.int .i64 y.i):=hSw.1.1.cell 2;have x_n3:w.cell? ⟨gn,3,none⟩=some (.int .i64 y.h):=hSw.1.1.cell 3;have x_n4:w.cell? ⟨gn,4,none⟩=some (.int .i64 y.p):=hSw.1.1.cell 4;have x_0:w.cell? ⟨gx,0,none⟩=some (.string z.name):=hSw.1.2;go_simp;try with_reducible rfl) ?_
 refine zU 17 58 ?_;refine zR 18 none rfl (fun K hK=>?_)
 skip
 go_split_ands;refine wp_store_row 100 _ _ rfl gx #[.string z.name,.int .i64 y.length,.int .i64 y.b,.int .i64 y.i,.int .i64 y.h,.int .i64 y.p] rfl rfl 100 #[Value.string z.name,Value.int .i64 z.length,Value.int .i64 z.b,Value.int .i64 z.i,Value.int .i64 z.h,Value.int .i64 z.p] (HX9.out.below (Below.refl _ _).drew) (by kernel_rfl) rfl (by simp [Value.oneCell']) ?_;have hX8:Blk (World.setRow V.drew gx #[Value.string z.name,Value.int .i64 y.length,Value.int .i64 y.b,Value.int .i64 y.i,Value.int .i64 y.h,Value.int .i64 y.p]) gx 100 #[.string z.name,.int .i64 y.length,.int .i64 y.b,.int .i64 y.i,.int .i64 y.h,.int .i64 y.p]:=setRow_heap _ _ _ _ _ _ (HX9.out.below (Below.refl _ _).drew);have hg8:=yh V.drew gx #[Value.string z.name,Value.int .i64 y.length,Value.int .i64 y.b,Value.int .i64 y.i,Value.int .i64 y.h,Value.int .i64 y.p];have hN8:=(HN9.out.below (Below.refl _ _).drew).grown hg8 (fun e=>by injection e with e;exact hnx e.symm);have hR8:=(HR9.out.below (Below.refl _ _).drew).grown hg8 (fun e=>by injection e with e;exact hxr e.symm);have hC8:=(HC9.out.below (Below.refl _ _).drew).grown hg8 (fun e=>by injection e with e;omega);have hv8:=zg hv9.drew hgxw #[Value.string z.name,Value.int .i64 y.length,Value.int .i64 y.b,Value.int .i64 y.i,Value.int .i64 y.h,Value.int .i64 y.p];obtain ⟨V8,hV8⟩:=zN (World.setRow V.drew gx #[Value.string z.name,Value.int .i64 y.length,Value.int .i64 y.b,Value.int .i64 y.i,Value.int .i64 y.h,Value.int .i64 y.p]);rw [←hV8] at hX8 hN8 hR8 hC8 hv8 ⊢;clear hV8 hg8;refine hK.out _ _ ?_ (fun hHeld=>?_)
 · (try dsimp only);go_split_ands;exact ⟨⟨hN8,hX8.cell 0⟩,hv8⟩
 clear hK K;try simp only [Act.put]
 refine zD ?_;clear hHeld;have hX:=qH hX8;have hR:=qH hR8;have hN2:=qH hN8;have HCB2:=qH hC8;have hv:=hv8;have HCY2:=qH (fun w=>(show Calls Tryz.prog 149 #[.agg #[.string z.name,.int .i64 y.length,.int .i64 y.b,.int .i64 y.i,.int .i64 y.h,.int .i64 y.p]] w (Ret (.bool by_) w) by
  have h:=HCY.out w;rw [HNZ.out] at h;exact h))
 clear hX8 hR8 hN8 hC8 hv8 HX9 HR9 HC9 HN9 hv9;go_wp2_with (refine yL gx hX.out Tryz.underlying100 ?_)
 refine qS (HCY2.out _) fun V6 hb=>?_;replace hv:=za hv hb;replace hX:=qH (hX.out.below hb);replace hR:=qH (hR.out.below hb);replace hN2:=qH (hN2.out.below hb);replace HCB2:=qH (HCB2.out.below hb);clear hb;cases by_
 case false=>
  have HN:=qH (HTI.out rfl);go_wp2_with (first
   | (refine yL gx hX.out Tryz.underlying100 ?_)
   | (refine yS gr #[.string ⟨#[]⟩,.int .i64 0,.int .i64 0,.int .i64 0,.int .i64 0,.int .i64 0] hR.out ?_))
  refine bodyPost_ret (zk (P:=Tryz.prog) rfl _ _ gr 100 _ (0,0) _ rfl (setRow_heap _ _ _ _ _ _ hR.out) Tryz.underlying100 rfl (by kernel_rfl)) rfl ?_;exact RetT.mk (by rw [HN.out];rfl) (zg hv hge _)
 go_wp2_with fail;exact ⟨⟨1,y,rfl,by omega,by go_num,qH (by omega),qH (fun _=>by simp),qH (by rw [HNZ.out];exact hX.out),hN2,hR,HCB2,hv⟩,by simp [intOf]⟩
end Go.Proofs.YtpiehlfffjhoaaaGreatDoor
