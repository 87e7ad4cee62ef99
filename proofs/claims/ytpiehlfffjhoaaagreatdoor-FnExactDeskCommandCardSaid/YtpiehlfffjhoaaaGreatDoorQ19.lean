/- A last changed: the program's and the reference's functions. -/
import Derived.Test.YtpiehlfffjhoaaaGreatDoorQ18
namespace Go.Proofs.YtpiehlfffjhoaaaGreatDoor
open Go.RowKit Go.Proofs.Tryz
set_option maxRecDepth 100000
set_option maxHeartbeats 4000000
def zbP(x:Last)(w:World)(e:Ending)(w':World):Prop:=∃ g,e=.returned (.slice (some ⟨g,0,none⟩) 5 5)/\w.heap.size<=g/\Blk w' g 2 #[Value.int .i64 x.length,Value.int .i64 x.b,Value.int .i64 x.i,Value.int .i64 x.h,Value.int .i64 x.p]/\Below w.heap.size w w'
theorem uZ{x:Last}(h:zy x=true):(500<=x.length/\x.length<=5000)/\(500<=x.b/\x.b<=5000)/\(500<=x.i/\x.i<=5000)/\(500<=x.h/\x.h<=5000)/\0<=x.p/\x.p<=1000:=by
 obtain ⟨_,hf,p0,p1⟩:=yU h;obtain ⟨h1,h2,h3,h4⟩:=wH hf;exact ⟨h1,h2,h3,h4,p0,p1⟩
theorem su(x:Last)(w:World):Calls prog 206 #[.agg #[.string x.name,.int .i64 x.length,.int .i64 x.b,.int .i64 x.i,.int .i64 x.h,.int .i64 x.p]] w (zbP x w):=by
 obtain ⟨W,hW⟩:=zN (w.alloc (Obj.cells (cL x) 100));obtain ⟨g,hg⟩:=zN w.heap.size;have hv:Below w.heap.size w W:=by rw [hW];exact zc (Below.refl _ _) _
 have hB:Blk W g 100 (cL x):=by rw [hW,hg];exact Blk.new _ _ _
 obtain ⟨k0,k1,k2,k3,k4,k5⟩:=qC6 hB;have HW:=qH hW;have HG:=qH hg;clear hW hg hB;go_in;go_upto_region 1 with fail;rw [<-HW.out,<-HG.out];clear HW HG;go_wp2;go_returns;exact ⟨_,rfl,hv.size,Blk.new _ _ _,zc hv _⟩
theorem bQ(x:Last)(w:World):Calls prog 227 #[.agg #[.string x.name,.int .i64 x.length,.int .i64 x.b,.int .i64 x.i,.int .i64 x.h,.int .i64 x.p]] w (zbP x w):=by
 obtain ⟨W,hW⟩:=zN (w.alloc (Obj.cells (cL x) 100));obtain ⟨g,hg⟩:=zN w.heap.size;have hv:Below w.heap.size w W:=by rw [hW];exact zc (Below.refl _ _) _
 have hB:Blk W g 100 (cL x):=by rw [hW,hg];exact Blk.new _ _ _
 obtain ⟨k0,k1,k2,k3,k4,k5⟩:=qC6 hB;have HW:=qH hW;have HG:=qH hg;clear hW hg hB;go_in;go_upto_region 1 with fail;rw [<-HW.out,<-HG.out];clear HW HG;go_wp2;go_returns;exact ⟨_,rfl,hv.size,Blk.new _ _ _,zc hv _⟩
theorem vC{w:World}{p:Addr}(u:Value):World.grownBy w (w.setCell p u) (some p.block):=zF (World.grownBy.refl w (some p.block)) (.inl rfl) u
theorem eG(x:Last)(a:Int)(HX:Hid (zy x=true))(a0:-300<=a)(a1:a<=300)(w:World):Calls prog 136 #[.agg #[.string x.name,.int .i64 x.length,.int .i64 x.b,.int .i64 x.i,.int .i64 x.h,.int .i64 x.p],.agg #[.int .i64 1,.int .i64 a]] w (Ret (.agg #[.string x.name,.int .i64 (x.length + a),.int .i64 x.b,.int .i64 x.i,.int .i64 x.h,.int .i64 x.p]) w):=by
 obtain ⟨⟨l0,l1⟩,⟨b0,b1⟩,⟨i0,i1⟩,⟨h0,h1⟩,p0,p1⟩:=uZ HX.out;have hwk:IntKind.i64.wrap 0=0:=IntWalk.i64_in _ (by omega);have hwa:IntKind.i64.wrap (x.length + a)=x.length + a:=IntWalk.i64_in _ (by omega);obtain ⟨gx,hgx⟩:=zN w.heap.size;obtain ⟨gc,hgc⟩:=zN (w.heap.size + 1);obtain ⟨gz,hgz⟩:=zN (w.heap.size + 1 + 1);obtain ⟨W,hW⟩:=zN (((w.alloc (Obj.cells (cL x) 100)).alloc (Obj.cells #[.int .i64 1,.int .i64 a] 126)).alloc (Obj.cells cM 100));have hv:Below w.heap.size w W:=by rw [hW];exact zc (zc (zc (Below.refl _ _) _) _) _
 have HX1:Hid (Blk W gx 100 (cL x)):=qH (by rw [hW,hgx];exact ((Blk.new w _ _).alloc _).alloc _);have HC:Hid (Blk W gc 126 #[.int .i64 1,.int .i64 a]):=qH (by
  have h:=(Blk.new (w.alloc (Obj.cells (cL x) 100)) 126 #[Value.int .i64 1,Value.int .i64 a]).alloc (Obj.cells cM 100);rw [World.size_alloc] at h;rw [hW,hgc];exact h)
 have HZ:Hid (Blk W gz 100 cM):=qH (by
  have h:=Blk.new ((w.alloc (Obj.cells (cL x) 100)).alloc (Obj.cells #[.int .i64 1,.int .i64 a] 126)) 100 cM;rw [World.size_alloc,World.size_alloc] at h;rw [hW,hgz];exact h)
 have hzw:w.heap.size<=gz:=by omega
 have hxz:gx≠gz:=by omega
 have hWz:W.heap.size=gz + 1:=by rw [hW,World.size_alloc,World.size_alloc,World.size_alloc,hgz]
 have HW:=qH hW;have G1:=qH hgx;have G2:=qH hgc;have G3:=qH hgz;obtain ⟨k0,k1,k2,k3,k4,k5⟩:=qC6 HX1.out;clear hW hgx hgc hgz;go_in;go_upto_region 1 with fail;rw [<-HW.out]
 first | rw [<-G3.out,<-G2.out,<-G1.out] | rw [show w.heap.size + 2=gz from G3.out.symm,<-G2.out,<-G1.out]
 clear HW G1 G2 G3;go_wp2_with fail;refine (su x _).mono ?_;rintro e W1 ⟨gn,rfl,hgn,hN,hb⟩;have HN:=qH hN;clear hN k0 k1 k2 k3 k4 k5;replace HX1:=qH (HX1.out.below hb);replace HC:=qH (HC.out.below hb);replace HZ:=qH (HZ.out.below hb);replace hv:=za hv hb;have hne:gz≠gn:=by omega
 have hnw:w.heap.size<=gn:=by omega
 have hxn:gx≠gn:=by have:=HX1.out.lt;intro e;subst e;have h1:=HN.out;have h2:=HX1.out;unfold Blk at h1 h2;rw [h1] at h2;simp at h2
 clear hb hWz;go_upto_region 2 with fail;have HXD:=qH (HX1.out.below (Below.refl W1.heap.size W1).drew);have HCD:=qH (HC.out.below (Below.refl W1.heap.size W1).drew);have HZD:=qH (HZ.out.below (Below.refl W1.heap.size W1).drew);have HND:=qH (HN.out.below (Below.refl W1.heap.size W1).drew);clear HX1 HC HZ HN;refine zH (fun w'=>Blk w' gc 126 #[Value.int .i64 1,Value.int .i64 a]) ?_ (fun hHeld=>?_)
 ·exact HCD.out
 refine zU 0 8 ?_;refine zU 1 9 ?_;refine zT 2 10 rfl (fun w hSw=>by
  have y0:=yc0 hSw;have y1:=yc1 hSw;go_simp;try with_reducible rfl) ?_
 refine zU 3 11 ?_;refine zU 4 12 ?_;refine zU 6 14 ?_;refine zT 7 15 rfl (fun w hSw=>by
  have y0:=yc0 hSw;have y1:=yc1 hSw;go_simp;try with_reducible rfl) ?_
 refine zR 5 (some 13) rfl (fun K hK=>?_);have n0:World.cell? (W1.drew) ⟨gn,0,none⟩=some (.int .i64 x.length):=HND.out.cell 0;go_simp;refine hK.out _ _ (by assumption) (fun hHeld2=>?_);clear hK K n0;try simp only [Act.put,zA,zB,zC]
 refine zU 8 16 ?_;refine zU 9 17 ?_;refine zR 10 none rfl (fun K hK=>?_);have n0:World.cell? (W1.drew) ⟨gn,0,none⟩=some (.int .i64 x.length):=HND.out.cell 0;have f0:World.frozen? (W1.drew) ⟨gn,0,none⟩=false:=HND.out.frozen 0;go_simp;clear n0 f0;have eW:World.setCell W1.drew ⟨gn,0,none⟩ (Value.int .i64 (x.length + a))=(World.setCell W1 ⟨gn,0,none⟩ (Value.int .i64 (x.length + a))).drew:=rfl;obtain ⟨W2,hW2⟩:=zN ((World.setCell W1 ⟨gn,0,none⟩ (Value.int .i64 (x.length + a))).drew);have HN2:=qH (HND.out.set_ 0 (Value.int .i64 (x.length + a)));have HX2:=qH (HXD.out.far (p:=⟨gn,0,none⟩) (by simp only;omega) (Value.int .i64 (x.length + a)));have HZ2:=qH (HZD.out.far (p:=⟨gn,0,none⟩) (by simp only;omega) (Value.int .i64 (x.length + a)));have hcn:gc≠gn:=by intro e;subst e;have h1:=HND.out;have h2:=HCD.out;unfold Blk at h1 h2;rw [h1] at h2;simp at h2
 have HC2:=qH (HCD.out.far (p:=⟨gn,0,none⟩) (by simp only;omega) (Value.int .i64 (x.length + a)));have hv2:=zi hv.drew (vC (p:=⟨gn,0,none⟩) (Value.int .i64 (x.length + a))) (fun k e=>by injection e with e;have e2:gn=k:=e;omega);rw [eW,<-hW2] at HN2 HX2 HZ2 HC2 hv2;rw [<-hW2];clear hW2 eW HND HXD HZD hcn;replace HN2:Hid (Blk W2 gn 2 #[.int .i64 (x.length + a),.int .i64 x.b,.int .i64 x.i,.int .i64 x.h,.int .i64 x.p]):=HN2;refine hK.out _ _ HC2.out (fun hHeld3=>?_);clear hK K;try simp only [Act.put]
 refine zD ?_;clear hv;have hv:=hv2;clear hv2;go_upto_region 3 with fail;obtain ⟨n0,n1,n2,n3,n4⟩:=qC5 HN2.out;have x0:=yc0 HX2.out;have HZ3:=qH (HZ2.out.below (Below.refl W2.heap.size W2).drew);refine zH (fun w'=>World.cell? w' ⟨gn,0,none⟩=some (.int .i64 (x.length + a))/\World.cell? w' ⟨gn,1,none⟩=some (.int .i64 x.b)/\World.cell? w' ⟨gn,2,none⟩=some (.int .i64 x.i)/\World.cell? w' ⟨gn,3,none⟩=some (.int .i64 x.h)/\World.cell? w' ⟨gn,4,none⟩=some (.int .i64 x.p)/\World.cell? w' ⟨gx,0,none⟩=some (.string x.name)) ?_ (fun hHeld=>?_)
 ·exact ⟨n0,n1,n2,n3,n4,x0⟩
 refine zU 0 18 ?_;refine zT 1 19 rfl (fun w hSw=>by
  obtain ⟨y0,y1,y2,y3,y4,y5⟩:=hSw;go_simp;try with_reducible rfl) ?_
 refine zU 2 20 ?_;refine zU 3 21 ?_;refine zT 4 22 rfl (fun w hSw=>by
  obtain ⟨y0,y1,y2,y3,y4,y5⟩:=hSw;go_simp;try with_reducible rfl) ?_
 refine zU 5 23 ?_;refine zU 6 24 ?_;refine zT 7 25 rfl (fun w hSw=>by
  obtain ⟨y0,y1,y2,y3,y4,y5⟩:=hSw;go_simp;try with_reducible rfl) ?_
 refine zU 8 26 ?_;refine zU 9 27 ?_;refine zT 10 28 rfl (fun w hSw=>by
  obtain ⟨y0,y1,y2,y3,y4,y5⟩:=hSw;go_simp;try with_reducible rfl) ?_
 refine zU 11 29 ?_;refine zU 12 30 ?_;refine zT 13 31 rfl (fun w hSw=>by
  obtain ⟨y0,y1,y2,y3,y4,y5⟩:=hSw;go_simp;try with_reducible rfl) ?_
 refine zU 14 32 ?_;refine zU 15 33 ?_;refine zT 16 34 rfl (fun w hSw=>by
  obtain ⟨y0,y1,y2,y3,y4,y5⟩:=hSw;go_simp;try with_reducible rfl) ?_
 refine zU 17 35 ?_;refine zR 18 none rfl (fun K hK=>?_);refine wp_store_row 100 _ _ rfl gz #[.string x.name,.int .i64 (x.length + a),.int .i64 x.b,.int .i64 x.i,.int .i64 x.h,.int .i64 x.p] rfl rfl 100 cM HZ3.out (by kernel_rfl) rfl (by simp [Value.oneCell']) ?_;refine hK.out _ _ ⟨zQ n0 (by simp only;omega),zQ n1 (by simp only;omega),zQ n2 (by simp only;omega),zQ n3 (by simp only;omega),zQ n4 (by simp only;omega),zQ x0 (by simp only;omega)⟩ (fun hHeld4=>?_);clear hK K;try simp only [Act.put]
 refine zD ?_;go_wp2_with fail;try simp only [Exit.inBlock,Exit.then]
 refine bodyPost_ret (results_cell_row (P:=prog) rfl _ _ gz 100 #[Value.string x.name,Value.int .i64 (x.length + a),Value.int .i64 x.b,Value.int .i64 x.i,Value.int .i64 x.h,Value.int .i64 x.p] (0,0) _ rfl ?_ underlying100 rfl (by kernel_rfl)) rfl ?_
 ·exact setRow_heap _ _ _ _ _ _ HZ3.out
 ·exact Ret.mk rfl (zG hv.drew hzw _)
theorem eH(x:Last)(a:Int)(HX:Hid (zy x=true))(a0:-300<=a)(a1:a<=300)(w:World):Calls prog 136 #[.agg #[.string x.name,.int .i64 x.length,.int .i64 x.b,.int .i64 x.i,.int .i64 x.h,.int .i64 x.p],.agg #[.int .i64 2,.int .i64 a]] w (Ret (.agg #[.string x.name,.int .i64 x.length,.int .i64 (x.b + a),.int .i64 x.i,.int .i64 x.h,.int .i64 x.p]) w):=by
 obtain ⟨⟨l0,l1⟩,⟨b0,b1⟩,⟨i0,i1⟩,⟨h0,h1⟩,p0,p1⟩:=uZ HX.out;have hwk:IntKind.i64.wrap 1=1:=IntWalk.i64_in _ (by omega);have hwa:IntKind.i64.wrap (x.b + a)=x.b + a:=IntWalk.i64_in _ (by omega);obtain ⟨gx,hgx⟩:=zN w.heap.size;obtain ⟨gc,hgc⟩:=zN (w.heap.size + 1);obtain ⟨gz,hgz⟩:=zN (w.heap.size + 1 + 1);obtain ⟨W,hW⟩:=zN (((w.alloc (Obj.cells (cL x) 100)).alloc (Obj.cells #[.int .i64 2,.int .i64 a] 126)).alloc (Obj.cells cM 100));have hv:Below w.heap.size w W:=by rw [hW];exact zc (zc (zc (Below.refl _ _) _) _) _
 have HX1:Hid (Blk W gx 100 (cL x)):=qH (by rw [hW,hgx];exact ((Blk.new w _ _).alloc _).alloc _);have HC:Hid (Blk W gc 126 #[.int .i64 2,.int .i64 a]):=qH (by
  have h:=(Blk.new (w.alloc (Obj.cells (cL x) 100)) 126 #[Value.int .i64 2,Value.int .i64 a]).alloc (Obj.cells cM 100);rw [World.size_alloc] at h;rw [hW,hgc];exact h)
 have HZ:Hid (Blk W gz 100 cM):=qH (by
  have h:=Blk.new ((w.alloc (Obj.cells (cL x) 100)).alloc (Obj.cells #[.int .i64 2,.int .i64 a] 126)) 100 cM;rw [World.size_alloc,World.size_alloc] at h;rw [hW,hgz];exact h)
 have hzw:w.heap.size<=gz:=by omega
 have hxz:gx≠gz:=by omega
 have hWz:W.heap.size=gz + 1:=by rw [hW,World.size_alloc,World.size_alloc,World.size_alloc,hgz]
 have HW:=qH hW;have G1:=qH hgx;have G2:=qH hgc;have G3:=qH hgz;obtain ⟨k0,k1,k2,k3,k4,k5⟩:=qC6 HX1.out;clear hW hgx hgc hgz;go_in;go_upto_region 1 with fail;rw [<-HW.out]
 first | rw [<-G3.out,<-G2.out,<-G1.out] | rw [show w.heap.size + 2=gz from G3.out.symm,<-G2.out,<-G1.out]
 clear HW G1 G2 G3;go_wp2_with fail;refine (su x _).mono ?_;rintro e W1 ⟨gn,rfl,hgn,hN,hb⟩;have HN:=qH hN;clear hN k0 k1 k2 k3 k4 k5;replace HX1:=qH (HX1.out.below hb);replace HC:=qH (HC.out.below hb);replace HZ:=qH (HZ.out.below hb);replace hv:=za hv hb;have hne:gz≠gn:=by omega
 have hnw:w.heap.size<=gn:=by omega
 have hxn:gx≠gn:=by have:=HX1.out.lt;intro e;subst e;have h1:=HN.out;have h2:=HX1.out;unfold Blk at h1 h2;rw [h1] at h2;simp at h2
 clear hb hWz;go_upto_region 2 with fail;have HXD:=qH (HX1.out.below (Below.refl W1.heap.size W1).drew);have HCD:=qH (HC.out.below (Below.refl W1.heap.size W1).drew);have HZD:=qH (HZ.out.below (Below.refl W1.heap.size W1).drew);have HND:=qH (HN.out.below (Below.refl W1.heap.size W1).drew);clear HX1 HC HZ HN;refine zH (fun w'=>Blk w' gc 126 #[Value.int .i64 2,Value.int .i64 a]) ?_ (fun hHeld=>?_)
 ·exact HCD.out
 refine zU 0 8 ?_;refine zU 1 9 ?_;refine zT 2 10 rfl (fun w hSw=>by
  have y0:=yc0 hSw;have y1:=yc1 hSw;go_simp;try with_reducible rfl) ?_
 refine zU 3 11 ?_;refine zU 4 12 ?_;refine zU 6 14 ?_;refine zT 7 15 rfl (fun w hSw=>by
  have y0:=yc0 hSw;have y1:=yc1 hSw;go_simp;try with_reducible rfl) ?_
 refine zR 5 (some 13) rfl (fun K hK=>?_);have n0:World.cell? (W1.drew) ⟨gn,1,none⟩=some (.int .i64 x.b):=HND.out.cell 1;go_simp;refine hK.out _ _ (by assumption) (fun hHeld2=>?_);clear hK K n0;try simp only [Act.put,zA,zB,zC]
 refine zU 8 16 ?_;refine zU 9 17 ?_;refine zR 10 none rfl (fun K hK=>?_);have n0:World.cell? (W1.drew) ⟨gn,1,none⟩=some (.int .i64 x.b):=HND.out.cell 1;have f0:World.frozen? (W1.drew) ⟨gn,1,none⟩=false:=HND.out.frozen 1;go_simp;clear n0 f0;have eW:World.setCell W1.drew ⟨gn,1,none⟩ (Value.int .i64 (x.b + a))=(World.setCell W1 ⟨gn,1,none⟩ (Value.int .i64 (x.b + a))).drew:=rfl;obtain ⟨W2,hW2⟩:=zN ((World.setCell W1 ⟨gn,1,none⟩ (Value.int .i64 (x.b + a))).drew);have HN2:=qH (HND.out.set_ 1 (Value.int .i64 (x.b + a)));have HX2:=qH (HXD.out.far (p:=⟨gn,1,none⟩) (by simp only;omega) (Value.int .i64 (x.b + a)));have HZ2:=qH (HZD.out.far (p:=⟨gn,1,none⟩) (by simp only;omega) (Value.int .i64 (x.b + a)));have hcn:gc≠gn:=by intro e;subst e;have h1:=HND.out;have h2:=HCD.out;unfold Blk at h1 h2;rw [h1] at h2;simp at h2
 have HC2:=qH (HCD.out.far (p:=⟨gn,1,none⟩) (by simp only;omega) (Value.int .i64 (x.b + a)));have hv2:=zi hv.drew (vC (p:=⟨gn,1,none⟩) (Value.int .i64 (x.b + a))) (fun k e=>by injection e with e;have e2:gn=k:=e;omega);rw [eW,<-hW2] at HN2 HX2 HZ2 HC2 hv2;rw [<-hW2];clear hW2 eW HND HXD HZD hcn;replace HN2:Hid (Blk W2 gn 2 #[.int .i64 x.length,.int .i64 (x.b + a),.int .i64 x.i,.int .i64 x.h,.int .i64 x.p]):=HN2;refine hK.out _ _ HC2.out (fun hHeld3=>?_);clear hK K;try simp only [Act.put]
 refine zD ?_;clear hv;have hv:=hv2;clear hv2;go_upto_region 3 with fail;obtain ⟨n0,n1,n2,n3,n4⟩:=qC5 HN2.out;have x0:=yc0 HX2.out;have HZ3:=qH (HZ2.out.below (Below.refl W2.heap.size W2).drew);refine zH (fun w'=>World.cell? w' ⟨gn,0,none⟩=some (.int .i64 x.length)/\World.cell? w' ⟨gn,1,none⟩=some (.int .i64 (x.b + a))/\World.cell? w' ⟨gn,2,none⟩=some (.int .i64 x.i)/\World.cell? w' ⟨gn,3,none⟩=some (.int .i64 x.h)/\World.cell? w' ⟨gn,4,none⟩=some (.int .i64 x.p)/\World.cell? w' ⟨gx,0,none⟩=some (.string x.name)) ?_ (fun hHeld=>?_)
 ·exact ⟨n0,n1,n2,n3,n4,x0⟩
 refine zU 0 18 ?_;refine zT 1 19 rfl (fun w hSw=>by
  obtain ⟨y0,y1,y2,y3,y4,y5⟩:=hSw;go_simp;try with_reducible rfl) ?_
 refine zU 2 20 ?_;refine zU 3 21 ?_;refine zT 4 22 rfl (fun w hSw=>by
  obtain ⟨y0,y1,y2,y3,y4,y5⟩:=hSw;go_simp;try with_reducible rfl) ?_
 refine zU 5 23 ?_;refine zU 6 24 ?_;refine zT 7 25 rfl (fun w hSw=>by
  obtain ⟨y0,y1,y2,y3,y4,y5⟩:=hSw;go_simp;try with_reducible rfl) ?_
 refine zU 8 26 ?_;refine zU 9 27 ?_;refine zT 10 28 rfl (fun w hSw=>by
  obtain ⟨y0,y1,y2,y3,y4,y5⟩:=hSw;go_simp;try with_reducible rfl) ?_
 refine zU 11 29 ?_;refine zU 12 30 ?_;refine zT 13 31 rfl (fun w hSw=>by
  obtain ⟨y0,y1,y2,y3,y4,y5⟩:=hSw;go_simp;try with_reducible rfl) ?_
 refine zU 14 32 ?_;refine zU 15 33 ?_;refine zT 16 34 rfl (fun w hSw=>by
  obtain ⟨y0,y1,y2,y3,y4,y5⟩:=hSw;go_simp;try with_reducible rfl) ?_
 refine zU 17 35 ?_;refine zR 18 none rfl (fun K hK=>?_);refine wp_store_row 100 _ _ rfl gz #[.string x.name,.int .i64 x.length,.int .i64 (x.b + a),.int .i64 x.i,.int .i64 x.h,.int .i64 x.p] rfl rfl 100 cM HZ3.out (by kernel_rfl) rfl (by simp [Value.oneCell']) ?_;refine hK.out _ _ ⟨zQ n0 (by simp only;omega),zQ n1 (by simp only;omega),zQ n2 (by simp only;omega),zQ n3 (by simp only;omega),zQ n4 (by simp only;omega),zQ x0 (by simp only;omega)⟩ (fun hHeld4=>?_);clear hK K;try simp only [Act.put]
 refine zD ?_;go_wp2_with fail;try simp only [Exit.inBlock,Exit.then]
 refine bodyPost_ret (results_cell_row (P:=prog) rfl _ _ gz 100 #[Value.string x.name,Value.int .i64 x.length,Value.int .i64 (x.b + a),Value.int .i64 x.i,Value.int .i64 x.h,Value.int .i64 x.p] (0,0) _ rfl ?_ underlying100 rfl (by kernel_rfl)) rfl ?_
 ·exact setRow_heap _ _ _ _ _ _ HZ3.out
 ·exact Ret.mk rfl (zG hv.drew hzw _)
theorem eJ(x:Last)(a:Int)(HX:Hid (zy x=true))(a0:-300<=a)(a1:a<=300)(w:World):Calls prog 136 #[.agg #[.string x.name,.int .i64 x.length,.int .i64 x.b,.int .i64 x.i,.int .i64 x.h,.int .i64 x.p],.agg #[.int .i64 3,.int .i64 a]] w (Ret (.agg #[.string x.name,.int .i64 x.length,.int .i64 x.b,.int .i64 (x.i + a),.int .i64 x.h,.int .i64 x.p]) w):=by
 obtain ⟨⟨l0,l1⟩,⟨b0,b1⟩,⟨i0,i1⟩,⟨h0,h1⟩,p0,p1⟩:=uZ HX.out;have hwk:IntKind.i64.wrap 2=2:=IntWalk.i64_in _ (by omega);have hwa:IntKind.i64.wrap (x.i + a)=x.i + a:=IntWalk.i64_in _ (by omega);obtain ⟨gx,hgx⟩:=zN w.heap.size;obtain ⟨gc,hgc⟩:=zN (w.heap.size + 1);obtain ⟨gz,hgz⟩:=zN (w.heap.size + 1 + 1);obtain ⟨W,hW⟩:=zN (((w.alloc (Obj.cells (cL x) 100)).alloc (Obj.cells #[.int .i64 3,.int .i64 a] 126)).alloc (Obj.cells cM 100));have hv:Below w.heap.size w W:=by rw [hW];exact zc (zc (zc (Below.refl _ _) _) _) _
 have HX1:Hid (Blk W gx 100 (cL x)):=qH (by rw [hW,hgx];exact ((Blk.new w _ _).alloc _).alloc _);have HC:Hid (Blk W gc 126 #[.int .i64 3,.int .i64 a]):=qH (by
  have h:=(Blk.new (w.alloc (Obj.cells (cL x) 100)) 126 #[Value.int .i64 3,Value.int .i64 a]).alloc (Obj.cells cM 100);rw [World.size_alloc] at h;rw [hW,hgc];exact h)
 have HZ:Hid (Blk W gz 100 cM):=qH (by
  have h:=Blk.new ((w.alloc (Obj.cells (cL x) 100)).alloc (Obj.cells #[.int .i64 3,.int .i64 a] 126)) 100 cM;rw [World.size_alloc,World.size_alloc] at h;rw [hW,hgz];exact h)
 have hzw:w.heap.size<=gz:=by omega
 have hxz:gx≠gz:=by omega
 have hWz:W.heap.size=gz + 1:=by rw [hW,World.size_alloc,World.size_alloc,World.size_alloc,hgz]
 have HW:=qH hW;have G1:=qH hgx;have G2:=qH hgc;have G3:=qH hgz;obtain ⟨k0,k1,k2,k3,k4,k5⟩:=qC6 HX1.out;clear hW hgx hgc hgz;go_in;go_upto_region 1 with fail;rw [<-HW.out]
 first | rw [<-G3.out,<-G2.out,<-G1.out] | rw [show w.heap.size + 2=gz from G3.out.symm,<-G2.out,<-G1.out]
 clear HW G1 G2 G3;go_wp2_with fail;refine (su x _).mono ?_;rintro e W1 ⟨gn,rfl,hgn,hN,hb⟩;have HN:=qH hN;clear hN k0 k1 k2 k3 k4 k5;replace HX1:=qH (HX1.out.below hb);replace HC:=qH (HC.out.below hb);replace HZ:=qH (HZ.out.below hb);replace hv:=za hv hb;have hne:gz≠gn:=by omega
 have hnw:w.heap.size<=gn:=by omega
 have hxn:gx≠gn:=by have:=HX1.out.lt;intro e;subst e;have h1:=HN.out;have h2:=HX1.out;unfold Blk at h1 h2;rw [h1] at h2;simp at h2
 clear hb hWz;go_upto_region 2 with fail;have HXD:=qH (HX1.out.below (Below.refl W1.heap.size W1).drew);have HCD:=qH (HC.out.below (Below.refl W1.heap.size W1).drew);have HZD:=qH (HZ.out.below (Below.refl W1.heap.size W1).drew);have HND:=qH (HN.out.below (Below.refl W1.heap.size W1).drew);clear HX1 HC HZ HN;refine zH (fun w'=>Blk w' gc 126 #[Value.int .i64 3,Value.int .i64 a]) ?_ (fun hHeld=>?_)
 ·exact HCD.out
 refine zU 0 8 ?_;refine zU 1 9 ?_;refine zT 2 10 rfl (fun w hSw=>by
  have y0:=yc0 hSw;have y1:=yc1 hSw;go_simp;try with_reducible rfl) ?_
 refine zU 3 11 ?_;refine zU 4 12 ?_;refine zU 6 14 ?_;refine zT 7 15 rfl (fun w hSw=>by
  have y0:=yc0 hSw;have y1:=yc1 hSw;go_simp;try with_reducible rfl) ?_
 refine zR 5 (some 13) rfl (fun K hK=>?_);have n0:World.cell? (W1.drew) ⟨gn,2,none⟩=some (.int .i64 x.i):=HND.out.cell 2;go_simp;refine hK.out _ _ (by assumption) (fun hHeld2=>?_);clear hK K n0;try simp only [Act.put,zA,zB,zC]
 refine zU 8 16 ?_;refine zU 9 17 ?_;refine zR 10 none rfl (fun K hK=>?_);have n0:World.cell? (W1.drew) ⟨gn,2,none⟩=some (.int .i64 x.i):=HND.out.cell 2;have f0:World.frozen? (W1.drew) ⟨gn,2,none⟩=false:=HND.out.frozen 2;go_simp;clear n0 f0;have eW:World.setCell W1.drew ⟨gn,2,none⟩ (Value.int .i64 (x.i + a))=(World.setCell W1 ⟨gn,2,none⟩ (Value.int .i64 (x.i + a))).drew:=rfl;obtain ⟨W2,hW2⟩:=zN ((World.setCell W1 ⟨gn,2,none⟩ (Value.int .i64 (x.i + a))).drew);have HN2:=qH (HND.out.set_ 2 (Value.int .i64 (x.i + a)));have HX2:=qH (HXD.out.far (p:=⟨gn,2,none⟩) (by simp only;omega) (Value.int .i64 (x.i + a)));have HZ2:=qH (HZD.out.far (p:=⟨gn,2,none⟩) (by simp only;omega) (Value.int .i64 (x.i + a)));have hcn:gc≠gn:=by intro e;subst e;have h1:=HND.out;have h2:=HCD.out;unfold Blk at h1 h2;rw [h1] at h2;simp at h2
 have HC2:=qH (HCD.out.far (p:=⟨gn,2,none⟩) (by simp only;omega) (Value.int .i64 (x.i + a)));have hv2:=zi hv.drew (vC (p:=⟨gn,2,none⟩) (Value.int .i64 (x.i + a))) (fun k e=>by injection e with e;have e2:gn=k:=e;omega);rw [eW,<-hW2] at HN2 HX2 HZ2 HC2 hv2;rw [<-hW2];clear hW2 eW HND HXD HZD hcn;replace HN2:Hid (Blk W2 gn 2 #[.int .i64 x.length,.int .i64 x.b,.int .i64 (x.i + a),.int .i64 x.h,.int .i64 x.p]):=HN2;refine hK.out _ _ HC2.out (fun hHeld3=>?_);clear hK K;try simp only [Act.put]
 refine zD ?_;clear hv;have hv:=hv2;clear hv2;go_upto_region 3 with fail;obtain ⟨n0,n1,n2,n3,n4⟩:=qC5 HN2.out;have x0:=yc0 HX2.out;have HZ3:=qH (HZ2.out.below (Below.refl W2.heap.size W2).drew);refine zH (fun w'=>World.cell? w' ⟨gn,0,none⟩=some (.int .i64 x.length)/\World.cell? w' ⟨gn,1,none⟩=some (.int .i64 x.b)/\World.cell? w' ⟨gn,2,none⟩=some (.int .i64 (x.i + a))/\World.cell? w' ⟨gn,3,none⟩=some (.int .i64 x.h)/\World.cell? w' ⟨gn,4,none⟩=some (.int .i64 x.p)/\World.cell? w' ⟨gx,0,none⟩=some (.string x.name)) ?_ (fun hHeld=>?_)
 ·exact ⟨n0,n1,n2,n3,n4,x0⟩
 refine zU 0 18 ?_;refine zT 1 19 rfl (fun w hSw=>by
  obtain ⟨y0,y1,y2,y3,y4,y5⟩:=hSw;go_simp;try with_reducible rfl) ?_
 refine zU 2 20 ?_;refine zU 3 21 ?_;refine zT 4 22 rfl (fun w hSw=>by
  obtain ⟨y0,y1,y2,y3,y4,y5⟩:=hSw;go_simp;try with_reducible rfl) ?_
 refine zU 5 23 ?_;refine zU 6 24 ?_;refine zT 7 25 rfl (fun w hSw=>by
  obtain ⟨y0,y1,y2,y3,y4,y5⟩:=hSw;go_simp;try with_reducible rfl) ?_
 refine zU 8 26 ?_;refine zU 9 27 ?_;refine zT 10 28 rfl (fun w hSw=>by
  obtain ⟨y0,y1,y2,y3,y4,y5⟩:=hSw;go_simp;try with_reducible rfl) ?_
 refine zU 11 29 ?_;refine zU 12 30 ?_;refine zT 13 31 rfl (fun w hSw=>by
  obtain ⟨y0,y1,y2,y3,y4,y5⟩:=hSw;go_simp;try with_reducible rfl) ?_
 refine zU 14 32 ?_;refine zU 15 33 ?_;refine zT 16 34 rfl (fun w hSw=>by
  obtain ⟨y0,y1,y2,y3,y4,y5⟩:=hSw;go_simp;try with_reducible rfl) ?_
 refine zU 17 35 ?_;refine zR 18 none rfl (fun K hK=>?_);refine wp_store_row 100 _ _ rfl gz #[.string x.name,.int .i64 x.length,.int .i64 x.b,.int .i64 (x.i + a),.int .i64 x.h,.int .i64 x.p] rfl rfl 100 cM HZ3.out (by kernel_rfl) rfl (by simp [Value.oneCell']) ?_;refine hK.out _ _ ⟨zQ n0 (by simp only;omega),zQ n1 (by simp only;omega),zQ n2 (by simp only;omega),zQ n3 (by simp only;omega),zQ n4 (by simp only;omega),zQ x0 (by simp only;omega)⟩ (fun hHeld4=>?_);clear hK K;try simp only [Act.put]
 refine zD ?_;go_wp2_with fail;try simp only [Exit.inBlock,Exit.then]
 refine bodyPost_ret (results_cell_row (P:=prog) rfl _ _ gz 100 #[Value.string x.name,Value.int .i64 x.length,Value.int .i64 x.b,Value.int .i64 (x.i + a),Value.int .i64 x.h,Value.int .i64 x.p] (0,0) _ rfl ?_ underlying100 rfl (by kernel_rfl)) rfl ?_
 ·exact setRow_heap _ _ _ _ _ _ HZ3.out
 ·exact Ret.mk rfl (zG hv.drew hzw _)
theorem eK(x:Last)(a:Int)(HX:Hid (zy x=true))(a0:-300<=a)(a1:a<=300)(w:World):Calls prog 136 #[.agg #[.string x.name,.int .i64 x.length,.int .i64 x.b,.int .i64 x.i,.int .i64 x.h,.int .i64 x.p],.agg #[.int .i64 4,.int .i64 a]] w (Ret (.agg #[.string x.name,.int .i64 x.length,.int .i64 x.b,.int .i64 x.i,.int .i64 (x.h + a),.int .i64 x.p]) w):=by
 obtain ⟨⟨l0,l1⟩,⟨b0,b1⟩,⟨i0,i1⟩,⟨h0,h1⟩,p0,p1⟩:=uZ HX.out;have hwk:IntKind.i64.wrap 3=3:=IntWalk.i64_in _ (by omega);have hwa:IntKind.i64.wrap (x.h + a)=x.h + a:=IntWalk.i64_in _ (by omega);obtain ⟨gx,hgx⟩:=zN w.heap.size;obtain ⟨gc,hgc⟩:=zN (w.heap.size + 1);obtain ⟨gz,hgz⟩:=zN (w.heap.size + 1 + 1);obtain ⟨W,hW⟩:=zN (((w.alloc (Obj.cells (cL x) 100)).alloc (Obj.cells #[.int .i64 4,.int .i64 a] 126)).alloc (Obj.cells cM 100));have hv:Below w.heap.size w W:=by rw [hW];exact zc (zc (zc (Below.refl _ _) _) _) _
 have HX1:Hid (Blk W gx 100 (cL x)):=qH (by rw [hW,hgx];exact ((Blk.new w _ _).alloc _).alloc _);have HC:Hid (Blk W gc 126 #[.int .i64 4,.int .i64 a]):=qH (by
  have h:=(Blk.new (w.alloc (Obj.cells (cL x) 100)) 126 #[Value.int .i64 4,Value.int .i64 a]).alloc (Obj.cells cM 100);rw [World.size_alloc] at h;rw [hW,hgc];exact h)
 have HZ:Hid (Blk W gz 100 cM):=qH (by
  have h:=Blk.new ((w.alloc (Obj.cells (cL x) 100)).alloc (Obj.cells #[.int .i64 4,.int .i64 a] 126)) 100 cM;rw [World.size_alloc,World.size_alloc] at h;rw [hW,hgz];exact h)
 have hzw:w.heap.size<=gz:=by omega
 have hxz:gx≠gz:=by omega
 have hWz:W.heap.size=gz + 1:=by rw [hW,World.size_alloc,World.size_alloc,World.size_alloc,hgz]
 have HW:=qH hW;have G1:=qH hgx;have G2:=qH hgc;have G3:=qH hgz;obtain ⟨k0,k1,k2,k3,k4,k5⟩:=qC6 HX1.out;clear hW hgx hgc hgz;go_in;go_upto_region 1 with fail;rw [<-HW.out]
 first | rw [<-G3.out,<-G2.out,<-G1.out] | rw [show w.heap.size + 2=gz from G3.out.symm,<-G2.out,<-G1.out]
 clear HW G1 G2 G3;go_wp2_with fail;refine (su x _).mono ?_;rintro e W1 ⟨gn,rfl,hgn,hN,hb⟩;have HN:=qH hN;clear hN k0 k1 k2 k3 k4 k5;replace HX1:=qH (HX1.out.below hb);replace HC:=qH (HC.out.below hb);replace HZ:=qH (HZ.out.below hb);replace hv:=za hv hb;have hne:gz≠gn:=by omega
 have hnw:w.heap.size<=gn:=by omega
 have hxn:gx≠gn:=by have:=HX1.out.lt;intro e;subst e;have h1:=HN.out;have h2:=HX1.out;unfold Blk at h1 h2;rw [h1] at h2;simp at h2
 clear hb hWz;go_upto_region 2 with fail;have HXD:=qH (HX1.out.below (Below.refl W1.heap.size W1).drew);have HCD:=qH (HC.out.below (Below.refl W1.heap.size W1).drew);have HZD:=qH (HZ.out.below (Below.refl W1.heap.size W1).drew);have HND:=qH (HN.out.below (Below.refl W1.heap.size W1).drew);clear HX1 HC HZ HN;refine zH (fun w'=>Blk w' gc 126 #[Value.int .i64 4,Value.int .i64 a]) ?_ (fun hHeld=>?_)
 ·exact HCD.out
 refine zU 0 8 ?_;refine zU 1 9 ?_;refine zT 2 10 rfl (fun w hSw=>by
  have y0:=yc0 hSw;have y1:=yc1 hSw;go_simp;try with_reducible rfl) ?_
 refine zU 3 11 ?_;refine zU 4 12 ?_;refine zU 6 14 ?_;refine zT 7 15 rfl (fun w hSw=>by
  have y0:=yc0 hSw;have y1:=yc1 hSw;go_simp;try with_reducible rfl) ?_
 refine zR 5 (some 13) rfl (fun K hK=>?_);have n0:World.cell? (W1.drew) ⟨gn,3,none⟩=some (.int .i64 x.h):=HND.out.cell 3;go_simp;refine hK.out _ _ (by assumption) (fun hHeld2=>?_);clear hK K n0;try simp only [Act.put,zA,zB,zC]
 refine zU 8 16 ?_;refine zU 9 17 ?_;refine zR 10 none rfl (fun K hK=>?_);have n0:World.cell? (W1.drew) ⟨gn,3,none⟩=some (.int .i64 x.h):=HND.out.cell 3;have f0:World.frozen? (W1.drew) ⟨gn,3,none⟩=false:=HND.out.frozen 3;go_simp;clear n0 f0;have eW:World.setCell W1.drew ⟨gn,3,none⟩ (Value.int .i64 (x.h + a))=(World.setCell W1 ⟨gn,3,none⟩ (Value.int .i64 (x.h + a))).drew:=rfl;obtain ⟨W2,hW2⟩:=zN ((World.setCell W1 ⟨gn,3,none⟩ (Value.int .i64 (x.h + a))).drew);have HN2:=qH (HND.out.set_ 3 (Value.int .i64 (x.h + a)));have HX2:=qH (HXD.out.far (p:=⟨gn,3,none⟩) (by simp only;omega) (Value.int .i64 (x.h + a)));have HZ2:=qH (HZD.out.far (p:=⟨gn,3,none⟩) (by simp only;omega) (Value.int .i64 (x.h + a)));have hcn:gc≠gn:=by intro e;subst e;have h1:=HND.out;have h2:=HCD.out;unfold Blk at h1 h2;rw [h1] at h2;simp at h2
 have HC2:=qH (HCD.out.far (p:=⟨gn,3,none⟩) (by simp only;omega) (Value.int .i64 (x.h + a)));have hv2:=zi hv.drew (vC (p:=⟨gn,3,none⟩) (Value.int .i64 (x.h + a))) (fun k e=>by injection e with e;have e2:gn=k:=e;omega);rw [eW,<-hW2] at HN2 HX2 HZ2 HC2 hv2;rw [<-hW2];clear hW2 eW HND HXD HZD hcn;replace HN2:Hid (Blk W2 gn 2 #[.int .i64 x.length,.int .i64 x.b,.int .i64 x.i,.int .i64 (x.h + a),.int .i64 x.p]):=HN2;refine hK.out _ _ HC2.out (fun hHeld3=>?_);clear hK K;try simp only [Act.put]
 refine zD ?_;clear hv;have hv:=hv2;clear hv2;go_upto_region 3 with fail;obtain ⟨n0,n1,n2,n3,n4⟩:=qC5 HN2.out;have x0:=yc0 HX2.out;have HZ3:=qH (HZ2.out.below (Below.refl W2.heap.size W2).drew);refine zH (fun w'=>World.cell? w' ⟨gn,0,none⟩=some (.int .i64 x.length)/\World.cell? w' ⟨gn,1,none⟩=some (.int .i64 x.b)/\World.cell? w' ⟨gn,2,none⟩=some (.int .i64 x.i)/\World.cell? w' ⟨gn,3,none⟩=some (.int .i64 (x.h + a))/\World.cell? w' ⟨gn,4,none⟩=some (.int .i64 x.p)/\World.cell? w' ⟨gx,0,none⟩=some (.string x.name)) ?_ (fun hHeld=>?_)
 ·exact ⟨n0,n1,n2,n3,n4,x0⟩
 refine zU 0 18 ?_;refine zT 1 19 rfl (fun w hSw=>by
  obtain ⟨y0,y1,y2,y3,y4,y5⟩:=hSw;go_simp;try with_reducible rfl) ?_
 refine zU 2 20 ?_;refine zU 3 21 ?_;refine zT 4 22 rfl (fun w hSw=>by
  obtain ⟨y0,y1,y2,y3,y4,y5⟩:=hSw;go_simp;try with_reducible rfl) ?_
 refine zU 5 23 ?_;refine zU 6 24 ?_;refine zT 7 25 rfl (fun w hSw=>by
  obtain ⟨y0,y1,y2,y3,y4,y5⟩:=hSw;go_simp;try with_reducible rfl) ?_
 refine zU 8 26 ?_;refine zU 9 27 ?_;refine zT 10 28 rfl (fun w hSw=>by
  obtain ⟨y0,y1,y2,y3,y4,y5⟩:=hSw;go_simp;try with_reducible rfl) ?_
 refine zU 11 29 ?_;refine zU 12 30 ?_;refine zT 13 31 rfl (fun w hSw=>by
  obtain ⟨y0,y1,y2,y3,y4,y5⟩:=hSw;go_simp;try with_reducible rfl) ?_
 refine zU 14 32 ?_;refine zU 15 33 ?_;refine zT 16 34 rfl (fun w hSw=>by
  obtain ⟨y0,y1,y2,y3,y4,y5⟩:=hSw;go_simp;try with_reducible rfl) ?_
 refine zU 17 35 ?_;refine zR 18 none rfl (fun K hK=>?_);refine wp_store_row 100 _ _ rfl gz #[.string x.name,.int .i64 x.length,.int .i64 x.b,.int .i64 x.i,.int .i64 (x.h + a),.int .i64 x.p] rfl rfl 100 cM HZ3.out (by kernel_rfl) rfl (by simp [Value.oneCell']) ?_;refine hK.out _ _ ⟨zQ n0 (by simp only;omega),zQ n1 (by simp only;omega),zQ n2 (by simp only;omega),zQ n3 (by simp only;omega),zQ n4 (by simp only;omega),zQ x0 (by simp only;omega)⟩ (fun hHeld4=>?_);clear hK K;try simp only [Act.put]
 refine zD ?_;go_wp2_with fail;try simp only [Exit.inBlock,Exit.then]
 refine bodyPost_ret (results_cell_row (P:=prog) rfl _ _ gz 100 #[Value.string x.name,Value.int .i64 x.length,Value.int .i64 x.b,Value.int .i64 x.i,Value.int .i64 (x.h + a),Value.int .i64 x.p] (0,0) _ rfl ?_ underlying100 rfl (by kernel_rfl)) rfl ?_
 ·exact setRow_heap _ _ _ _ _ _ HZ3.out
 ·exact Ret.mk rfl (zG hv.drew hzw _)
theorem eL(x:Last)(a:Int)(HX:Hid (zy x=true))(a0:-300<=a)(a1:a<=300)(w:World):Calls prog 136 #[.agg #[.string x.name,.int .i64 x.length,.int .i64 x.b,.int .i64 x.i,.int .i64 x.h,.int .i64 x.p],.agg #[.int .i64 5,.int .i64 a]] w (Ret (.agg #[.string x.name,.int .i64 x.length,.int .i64 x.b,.int .i64 x.i,.int .i64 x.h,.int .i64 (x.p + a)]) w):=by
 obtain ⟨⟨l0,l1⟩,⟨b0,b1⟩,⟨i0,i1⟩,⟨h0,h1⟩,p0,p1⟩:=uZ HX.out;have hwk:IntKind.i64.wrap 4=4:=IntWalk.i64_in _ (by omega);have hwa:IntKind.i64.wrap (x.p + a)=x.p + a:=IntWalk.i64_in _ (by omega);obtain ⟨gx,hgx⟩:=zN w.heap.size;obtain ⟨gc,hgc⟩:=zN (w.heap.size + 1);obtain ⟨gz,hgz⟩:=zN (w.heap.size + 1 + 1);obtain ⟨W,hW⟩:=zN (((w.alloc (Obj.cells (cL x) 100)).alloc (Obj.cells #[.int .i64 5,.int .i64 a] 126)).alloc (Obj.cells cM 100));have hv:Below w.heap.size w W:=by rw [hW];exact zc (zc (zc (Below.refl _ _) _) _) _
 have HX1:Hid (Blk W gx 100 (cL x)):=qH (by rw [hW,hgx];exact ((Blk.new w _ _).alloc _).alloc _);have HC:Hid (Blk W gc 126 #[.int .i64 5,.int .i64 a]):=qH (by
  have h:=(Blk.new (w.alloc (Obj.cells (cL x) 100)) 126 #[Value.int .i64 5,Value.int .i64 a]).alloc (Obj.cells cM 100);rw [World.size_alloc] at h;rw [hW,hgc];exact h)
 have HZ:Hid (Blk W gz 100 cM):=qH (by
  have h:=Blk.new ((w.alloc (Obj.cells (cL x) 100)).alloc (Obj.cells #[.int .i64 5,.int .i64 a] 126)) 100 cM;rw [World.size_alloc,World.size_alloc] at h;rw [hW,hgz];exact h)
 have hzw:w.heap.size<=gz:=by omega
 have hxz:gx≠gz:=by omega
 have hWz:W.heap.size=gz + 1:=by rw [hW,World.size_alloc,World.size_alloc,World.size_alloc,hgz]
 have HW:=qH hW;have G1:=qH hgx;have G2:=qH hgc;have G3:=qH hgz;obtain ⟨k0,k1,k2,k3,k4,k5⟩:=qC6 HX1.out;clear hW hgx hgc hgz;go_in;go_upto_region 1 with fail;rw [<-HW.out]
 first | rw [<-G3.out,<-G2.out,<-G1.out] | rw [show w.heap.size + 2=gz from G3.out.symm,<-G2.out,<-G1.out]
 clear HW G1 G2 G3;go_wp2_with fail;refine (su x _).mono ?_;rintro e W1 ⟨gn,rfl,hgn,hN,hb⟩;have HN:=qH hN;clear hN k0 k1 k2 k3 k4 k5;replace HX1:=qH (HX1.out.below hb);replace HC:=qH (HC.out.below hb);replace HZ:=qH (HZ.out.below hb);replace hv:=za hv hb;have hne:gz≠gn:=by omega
 have hnw:w.heap.size<=gn:=by omega
 have hxn:gx≠gn:=by have:=HX1.out.lt;intro e;subst e;have h1:=HN.out;have h2:=HX1.out;unfold Blk at h1 h2;rw [h1] at h2;simp at h2
 clear hb hWz;go_upto_region 2 with fail;have HXD:=qH (HX1.out.below (Below.refl W1.heap.size W1).drew);have HCD:=qH (HC.out.below (Below.refl W1.heap.size W1).drew);have HZD:=qH (HZ.out.below (Below.refl W1.heap.size W1).drew);have HND:=qH (HN.out.below (Below.refl W1.heap.size W1).drew);clear HX1 HC HZ HN;refine zH (fun w'=>Blk w' gc 126 #[Value.int .i64 5,Value.int .i64 a]) ?_ (fun hHeld=>?_)
 ·exact HCD.out
 refine zU 0 8 ?_;refine zU 1 9 ?_;refine zT 2 10 rfl (fun w hSw=>by
  have y0:=yc0 hSw;have y1:=yc1 hSw;go_simp;try with_reducible rfl) ?_
 refine zU 3 11 ?_;refine zU 4 12 ?_;refine zU 6 14 ?_;refine zT 7 15 rfl (fun w hSw=>by
  have y0:=yc0 hSw;have y1:=yc1 hSw;go_simp;try with_reducible rfl) ?_
 refine zR 5 (some 13) rfl (fun K hK=>?_);have n0:World.cell? (W1.drew) ⟨gn,4,none⟩=some (.int .i64 x.p):=HND.out.cell 4;go_simp;refine hK.out _ _ (by assumption) (fun hHeld2=>?_);clear hK K n0;try simp only [Act.put,zA,zB,zC]
 refine zU 8 16 ?_;refine zU 9 17 ?_;refine zR 10 none rfl (fun K hK=>?_);have n0:World.cell? (W1.drew) ⟨gn,4,none⟩=some (.int .i64 x.p):=HND.out.cell 4;have f0:World.frozen? (W1.drew) ⟨gn,4,none⟩=false:=HND.out.frozen 4;go_simp;clear n0 f0;have eW:World.setCell W1.drew ⟨gn,4,none⟩ (Value.int .i64 (x.p + a))=(World.setCell W1 ⟨gn,4,none⟩ (Value.int .i64 (x.p + a))).drew:=rfl;obtain ⟨W2,hW2⟩:=zN ((World.setCell W1 ⟨gn,4,none⟩ (Value.int .i64 (x.p + a))).drew);have HN2:=qH (HND.out.set_ 4 (Value.int .i64 (x.p + a)));have HX2:=qH (HXD.out.far (p:=⟨gn,4,none⟩) (by simp only;omega) (Value.int .i64 (x.p + a)));have HZ2:=qH (HZD.out.far (p:=⟨gn,4,none⟩) (by simp only;omega) (Value.int .i64 (x.p + a)));have hcn:gc≠gn:=by intro e;subst e;have h1:=HND.out;have h2:=HCD.out;unfold Blk at h1 h2;rw [h1] at h2;simp at h2
 have HC2:=qH (HCD.out.far (p:=⟨gn,4,none⟩) (by simp only;omega) (Value.int .i64 (x.p + a)));have hv2:=zi hv.drew (vC (p:=⟨gn,4,none⟩) (Value.int .i64 (x.p + a))) (fun k e=>by injection e with e;have e2:gn=k:=e;omega);rw [eW,<-hW2] at HN2 HX2 HZ2 HC2 hv2;rw [<-hW2];clear hW2 eW HND HXD HZD hcn;replace HN2:Hid (Blk W2 gn 2 #[.int .i64 x.length,.int .i64 x.b,.int .i64 x.i,.int .i64 x.h,.int .i64 (x.p + a)]):=HN2;refine hK.out _ _ HC2.out (fun hHeld3=>?_);clear hK K;try simp only [Act.put]
 refine zD ?_;clear hv;have hv:=hv2;clear hv2;go_upto_region 3 with fail;obtain ⟨n0,n1,n2,n3,n4⟩:=qC5 HN2.out;have x0:=yc0 HX2.out;have HZ3:=qH (HZ2.out.below (Below.refl W2.heap.size W2).drew);refine zH (fun w'=>World.cell? w' ⟨gn,0,none⟩=some (.int .i64 x.length)/\World.cell? w' ⟨gn,1,none⟩=some (.int .i64 x.b)/\World.cell? w' ⟨gn,2,none⟩=some (.int .i64 x.i)/\World.cell? w' ⟨gn,3,none⟩=some (.int .i64 x.h)/\World.cell? w' ⟨gn,4,none⟩=some (.int .i64 (x.p + a))/\World.cell? w' ⟨gx,0,none⟩=some (.string x.name)) ?_ (fun hHeld=>?_)
 ·exact ⟨n0,n1,n2,n3,n4,x0⟩
 refine zU 0 18 ?_;refine zT 1 19 rfl (fun w hSw=>by
  obtain ⟨y0,y1,y2,y3,y4,y5⟩:=hSw;go_simp;try with_reducible rfl) ?_
 refine zU 2 20 ?_;refine zU 3 21 ?_;refine zT 4 22 rfl (fun w hSw=>by
  obtain ⟨y0,y1,y2,y3,y4,y5⟩:=hSw;go_simp;try with_reducible rfl) ?_
 refine zU 5 23 ?_;refine zU 6 24 ?_;refine zT 7 25 rfl (fun w hSw=>by
  obtain ⟨y0,y1,y2,y3,y4,y5⟩:=hSw;go_simp;try with_reducible rfl) ?_
 refine zU 8 26 ?_;refine zU 9 27 ?_;refine zT 10 28 rfl (fun w hSw=>by
  obtain ⟨y0,y1,y2,y3,y4,y5⟩:=hSw;go_simp;try with_reducible rfl) ?_
 refine zU 11 29 ?_;refine zU 12 30 ?_;refine zT 13 31 rfl (fun w hSw=>by
  obtain ⟨y0,y1,y2,y3,y4,y5⟩:=hSw;go_simp;try with_reducible rfl) ?_
 refine zU 14 32 ?_;refine zU 15 33 ?_;refine zT 16 34 rfl (fun w hSw=>by
  obtain ⟨y0,y1,y2,y3,y4,y5⟩:=hSw;go_simp;try with_reducible rfl) ?_
 refine zU 17 35 ?_;refine zR 18 none rfl (fun K hK=>?_);refine wp_store_row 100 _ _ rfl gz #[.string x.name,.int .i64 x.length,.int .i64 x.b,.int .i64 x.i,.int .i64 x.h,.int .i64 (x.p + a)] rfl rfl 100 cM HZ3.out (by kernel_rfl) rfl (by simp [Value.oneCell']) ?_;refine hK.out _ _ ⟨zQ n0 (by simp only;omega),zQ n1 (by simp only;omega),zQ n2 (by simp only;omega),zQ n3 (by simp only;omega),zQ n4 (by simp only;omega),zQ x0 (by simp only;omega)⟩ (fun hHeld4=>?_);clear hK K;try simp only [Act.put]
 refine zD ?_;go_wp2_with fail;try simp only [Exit.inBlock,Exit.then]
 refine bodyPost_ret (results_cell_row (P:=prog) rfl _ _ gz 100 #[Value.string x.name,Value.int .i64 x.length,Value.int .i64 x.b,Value.int .i64 x.i,Value.int .i64 x.h,Value.int .i64 (x.p + a)] (0,0) _ rfl ?_ underlying100 rfl (by kernel_rfl)) rfl ?_
 ·exact setRow_heap _ _ _ _ _ _ HZ3.out
 ·exact Ret.mk rfl (zG hv.drew hzw _)
end Go.Proofs.YtpiehlfffjhoaaaGreatDoor
