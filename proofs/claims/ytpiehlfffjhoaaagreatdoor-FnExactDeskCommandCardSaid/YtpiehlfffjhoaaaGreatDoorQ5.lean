/- Lemmas for the law on the console: the parts LstA,LstB,LstC. -/
import Derived.Test.YtpiehlfffjhoaaaGreatDoorQ4
namespace Go.Proofs.YtpiehlfffjhoaaaGreatDoor
open Go.RowKit Go.Proofs.Tryz
set_option maxRecDepth 100000
set_option maxHeartbeats 8000000
def Last.foot(x:Last):Foot:=⟨x.length,x.b,x.i,x.h⟩
def zy(x:Last):Bool:=zo x.name && ym x.foot && inB x.p 0 1000
def yR(a b:ByteArray):Bool:=Op.bytesLess a.toList b.toList
def yO:Option ByteArray->List Last->Bool
 | _,[]=>true
 | none,x :: r=>zy x && yO (some x.name) r
 | some p,x :: r=>zy x && (yR p x.name && yO (some x.name) r)
def yx(xs:List Last):Bool:=yO none xs && decide (xs.length<=30)
def vk(xs:List Last)(k:Nat):Option ByteArray:=if k=0 then none else xs[k - 1]?.map (·.name)
theorem pj{xs:List Last}{k:Nat}{x:Last}(hx:xs[k]?=some x):vk xs (k + 1)=some x.name:=by unfold vk;simp [hx]
theorem lI{xs:List Last}{x:Last}(hx:xs[0]?=some x):yO (vk xs 0) (xs.drop 0)=(zy x && yO (vk xs 1) (xs.drop 1)):=by
 rw [pj hx,yM hx];rfl
theorem jA{xs:List Last}{j:Nat}{y x:Last}(hy:xs[j]?=some y)(hx:xs[j + 1]?=some x):yO (vk xs (j + 1)) (xs.drop (j + 1))=(zy x && (yR y.name x.name && yO (vk xs (j + 1 + 1)) (xs.drop (j + 1 + 1)))):=by
 rw [pj hy,pj hx,yM hx];rfl
theorem fQ{xs:List Last}{k:Nat}{x:Last}(hx:xs[k]?=some x)(hb:zy x=false):yO (vk xs k) (xs.drop k)=false:=by
 rw [yM hx];cases vk xs k <;> simp [yO,hb]
theorem fR{xs:List Last}{k:Nat}(h:xs.length<=k):yO (vk xs k) (xs.drop k)=true:=by
 rw [List.drop_eq_nil_of_le h];cases vk xs k <;> rfl
theorem zG{a w:World}{g:Nat}(h:Below a.heap.size a w)(hg:a.heap.size<=g)(cs:Array Value):Below a.heap.size a (w.setRow g cs):=
 zi h (⟨rfl,rfl,rfl,by simp,fun i _ hne=>setRow_other w g i cs (fun e=>hne (by rw [e]))⟩:w.grownBy (w.setRow g cs) (some g)) (fun k e=>by injection e with e;omega)
theorem jp(x:Last)(w:World):Calls prog 129 #[.agg #[.string x.name,.int .i64 x.length,.int .i64 x.b,.int .i64 x.i,.int .i64 x.h,.int .i64 x.p]] w (Ret (.agg #[.int .i64 x.length,.int .i64 x.b,.int .i64 x.i,.int .i64 x.h]) w):=by
 obtain ⟨W,hW⟩:=zN ((w.alloc (Obj.cells (cL x) 100)).alloc (Obj.cells cG 27));obtain ⟨g,hg⟩:=zN w.heap.size;obtain ⟨gr,hgr⟩:=zN (w.heap.size + 1);have hv:Below w.heap.size w W:=by rw [hW];exact zc (zc (Below.refl _ _) _) _
 have hB:Blk W g 100 (cL x):=by rw [hW,hg];exact (Blk.new _ _ _).alloc _
 have hR:Hid (Blk W gr 27 cG):=qH (by
  have h:=Blk.new (w.alloc (Obj.cells (cL x) 100)) 27 cG;rw [World.size_alloc] at h;rw [hW,hgr];exact h)
 have hge:w.heap.size<=gr:=by omega
 have HW:=qH hW;have HG:=qH hg;have HGR:=qH hgr;clear hW hg hgr;obtain ⟨k0,k1,k2,k3,k4,k5⟩:=qC6 hB;clear hB;go_in;go_upto_region 1 with fail;rw [<-HW.out,<-HGR.out,<-HG.out];clear HW HG HGR;go_wp2_with (refine wpList_store_row rfl 27 _ _ rfl gr (cH x) rfl rfl 27 _ hR.out (by kernel_rfl) rfl (by simp [Value.oneCell']) ?_)
 try simp only [Exit.inBlock,Exit.then]
 refine bodyPost_ret (results_cell_row (P:=prog) rfl _ _ gr 27 (cH x) (0,0) _ rfl ?_ underlying27 rfl (by kernel_rfl)) rfl ?_
 ·exact setRow_heap _ _ _ _ _ _ hR.out
 ·exact Ret.mk rfl (zG hv hge _)
theorem rP(x:Last)(w:World):Calls prog 213 #[.agg #[.string x.name,.int .i64 x.length,.int .i64 x.b,.int .i64 x.i,.int .i64 x.h,.int .i64 x.p]] w (Ret (.agg #[.int .i64 x.length,.int .i64 x.b,.int .i64 x.i,.int .i64 x.h]) w):=by
 obtain ⟨W,hW⟩:=zN ((w.alloc (Obj.cells (cL x) 100)).alloc (Obj.cells cG 27));obtain ⟨g,hg⟩:=zN w.heap.size;obtain ⟨gr,hgr⟩:=zN (w.heap.size + 1);have hv:Below w.heap.size w W:=by rw [hW];exact zc (zc (Below.refl _ _) _) _
 have hB:Blk W g 100 (cL x):=by rw [hW,hg];exact (Blk.new _ _ _).alloc _
 have hR:Hid (Blk W gr 27 cG):=qH (by
  have h:=Blk.new (w.alloc (Obj.cells (cL x) 100)) 27 cG;rw [World.size_alloc] at h;rw [hW,hgr];exact h)
 have hge:w.heap.size<=gr:=by omega
 have HW:=qH hW;have HG:=qH hg;have HGR:=qH hgr;clear hW hg hgr;obtain ⟨k0,k1,k2,k3,k4,k5⟩:=qC6 hB;clear hB;go_in;go_upto_region 1 with fail;rw [<-HW.out,<-HGR.out,<-HG.out];clear HW HG HGR;go_wp2_with (refine wpList_store_row rfl 27 _ _ rfl gr (cH x) rfl rfl 27 _ hR.out (by kernel_rfl) rfl (by simp [Value.oneCell']) ?_)
 try simp only [Exit.inBlock,Exit.then]
 refine bodyPost_ret (results_cell_row (P:=prog) rfl _ _ gr 27 (cH x) (0,0) _ rfl ?_ underlying27 rfl (by kernel_rfl)) rfl ?_
 ·exact setRow_heap _ _ _ _ _ _ hR.out
 ·exact Ret.mk rfl (zG hv hge _)
theorem uJ(x:Last)(hs:x.name.size<=9223372036854775807)(w:World):Calls prog 117 #[.agg #[.string x.name,.int .i64 x.length,.int .i64 x.b,.int .i64 x.i,.int .i64 x.h,.int .i64 x.p]] w (Ret (.bool (zy x)) w):=by
 have hP:zy x=(zo x.name && ym x.foot && inB x.p 0 1000):=rfl;have H1:=fun w=>xC x.name hs w;have H2:=fun w=>jp x w;have H3:=fun w=>uA x.foot w;have H4:=fun w=>xv x.p 0 1000 w;obtain ⟨b1,e1⟩:=zN (zo x.name);obtain ⟨b2,e2⟩:=zN (ym x.foot);obtain ⟨b3,e3⟩:=zN (inB x.p 0 1000);rw [<-e1] at H1 hP;rw [<-e2] at H3 hP;rw [<-e3] at H4 hP;unfold Last.foot at H3;replace H1:=qH H1;replace H2:=qH H2;replace H3:=qH H3;replace H4:=qH H4;have HP:=qH hP;clear hP e1 e2 e3 hs;obtain ⟨W,hW⟩:=zN (w.alloc (Obj.cells (cL x) 100));obtain ⟨g,hg⟩:=zN w.heap.size;have hv:Below w.heap.size w W:=by rw [hW];exact zc (Below.refl _ _) _
 have hB:Hid (Blk W g 100 (cL x)):=qH (by rw [hW,hg];exact Blk.new _ _ _);have HW:=qH hW;have HG:=qH hg;clear hW hg;obtain ⟨k0,k1,k2,k3,k4,k5⟩:=qC6 hB.out;go_in;go_upto_region 1 with fail;rw [<-HW.out,<-HG.out];clear HW HG;cases b1
 · skip
   go_wp2_with fail;refine qR (H1.out _) ?_;go_wp2;go_returns;exact Ret.mk (vb (by rw [HP.out];rfl)) hv
 cases b2
 · skip
   go_wp2_with fail;refine qR (H1.out _) ?_;go_wp2_with fail;refine qS (H2.out _) fun W2 hb=>?_;replace hv:=za hv hb;replace hB:=qH (hB.out.below hb);clear hb;clear k0 k1 k2 k3 k4 k5;obtain ⟨k0,k1,k2,k3,k4,k5⟩:=qC6 hB.out;go_wp2_with fail;refine qS (H3.out _) fun W3 hb=>?_;replace hv:=za hv hb;replace hB:=qH (hB.out.below hb);clear hb;clear k0 k1 k2 k3 k4 k5;obtain ⟨k0,k1,k2,k3,k4,k5⟩:=qC6 hB.out;go_wp2;go_returns;exact Ret.mk (vb (by rw [HP.out];rfl)) hv
 · skip
   go_wp2_with fail;refine qR (H1.out _) ?_;go_wp2_with fail;refine qS (H2.out _) fun W2 hb=>?_;replace hv:=za hv hb;replace hB:=qH (hB.out.below hb);clear hb;clear k0 k1 k2 k3 k4 k5;obtain ⟨k0,k1,k2,k3,k4,k5⟩:=qC6 hB.out;go_wp2_with fail;refine qS (H3.out _) fun W3 hb=>?_;replace hv:=za hv hb;replace hB:=qH (hB.out.below hb);clear hb;clear k0 k1 k2 k3 k4 k5;obtain ⟨k0,k1,k2,k3,k4,k5⟩:=qC6 hB.out;go_wp2_with fail;refine qR (H4.out _) ?_;go_wp2;go_returns;exact Ret.mk (vb (by rw [HP.out];rfl)) hv
theorem tT(x:Last)(hs:x.name.size<=9223372036854775807)(w:World):Calls prog 149 #[.agg #[.string x.name,.int .i64 x.length,.int .i64 x.b,.int .i64 x.i,.int .i64 x.h,.int .i64 x.p]] w (Ret (.bool (zy x)) w):=by
 have hP:zy x=(zo x.name && ym x.foot && inB x.p 0 1000):=rfl;have H1:=fun w=>xn x.name hs w;have H2:=fun w=>rP x w;have H3:=fun w=>rN x.foot w;have H4:=fun w=>xJ x.p 0 1000 w;obtain ⟨b1,e1⟩:=zN (zo x.name);obtain ⟨b2,e2⟩:=zN (ym x.foot);obtain ⟨b3,e3⟩:=zN (inB x.p 0 1000);rw [<-e1] at H1 hP;rw [<-e2] at H3 hP;rw [<-e3] at H4 hP;unfold Last.foot at H3;replace H1:=qH H1;replace H2:=qH H2;replace H3:=qH H3;replace H4:=qH H4;have HP:=qH hP;clear hP e1 e2 e3 hs;obtain ⟨W,hW⟩:=zN (w.alloc (Obj.cells (cL x) 100));obtain ⟨g,hg⟩:=zN w.heap.size;have hv:Below w.heap.size w W:=by rw [hW];exact zc (Below.refl _ _) _
 have hB:Hid (Blk W g 100 (cL x)):=qH (by rw [hW,hg];exact Blk.new _ _ _);have HW:=qH hW;have HG:=qH hg;clear hW hg;obtain ⟨k0,k1,k2,k3,k4,k5⟩:=qC6 hB.out;go_in;go_upto_region 1 with fail;rw [<-HW.out,<-HG.out];clear HW HG;cases b1
 · skip
   go_wp2_with fail;refine qR (H1.out _) ?_;go_wp2;go_returns;exact Ret.mk (vb (by rw [HP.out];rfl)) hv
 cases b2
 · skip
   go_wp2_with fail;refine qR (H1.out _) ?_;go_wp2_with fail;refine qS (H2.out _) fun W2 hb=>?_;replace hv:=za hv hb;replace hB:=qH (hB.out.below hb);clear hb;clear k0 k1 k2 k3 k4 k5;obtain ⟨k0,k1,k2,k3,k4,k5⟩:=qC6 hB.out;go_wp2_with fail;refine qS (H3.out _) fun W3 hb=>?_;replace hv:=za hv hb;replace hB:=qH (hB.out.below hb);clear hb;clear k0 k1 k2 k3 k4 k5;obtain ⟨k0,k1,k2,k3,k4,k5⟩:=qC6 hB.out;go_wp2;go_returns;exact Ret.mk (vb (by rw [HP.out];rfl)) hv
 · skip
   go_wp2_with fail;refine qR (H1.out _) ?_;go_wp2_with fail;refine qS (H2.out _) fun W2 hb=>?_;replace hv:=za hv hb;replace hB:=qH (hB.out.below hb);clear hb;clear k0 k1 k2 k3 k4 k5;obtain ⟨k0,k1,k2,k3,k4,k5⟩:=qC6 hB.out;go_wp2_with fail;refine qS (H3.out _) fun W3 hb=>?_;replace hv:=za hv hb;replace hB:=qH (hB.out.below hb);clear hb;clear k0 k1 k2 k3 k4 k5;obtain ⟨k0,k1,k2,k3,k4,k5⟩:=qC6 hB.out;go_wp2_with fail;refine qR (H4.out _) ?_;go_wp2;go_returns;exact Ret.mk (vb (by rw [HP.out];rfl)) hv
theorem ti(A:Option Addr)(xs:List Last)(n c:Nat)(hn:Hid (xs.length=n))(hm:(n:Int)<=1048576)(hs:Hid (∀ x ∈ xs,x.name.size<=9223372036854775807))(w:World)(hA:Arr w A (zd Last.cells xs)):Calls prog 61 #[.slice A n c] w (Ret (.bool (yx xs)) w):=by
 have HA:=qH hA;clear hA;go_in;go_wp2_with fail;have hR:=qH (show yO none xs=yO (vk xs 0) (xs.drop 0) from rfl)
 go_loopw [7] (fun i wr=>∃ k:Nat,k<=n/\i=.int .i64 k/\Hid (yO none xs=yO (vk xs k) (xs.drop k))/\Below w.heap.size w wr) (fun i _=>n - (intOf i).toNat)
 case atStart=>exact ⟨0,by omega,rfl,hR,Below.refl _ _⟩
 case round=>
 clear hR;obtain ⟨k,hk,rfl,hR,hv⟩:=hrel;have hk0:(0:Int)<=(k:Int):=by omega
 by_cases hlt:k < n
 case neg=>
  have hkn:¬ (k:Int) < (n:Int):=by omega
  have HE:=qH (show yx xs=decide ((n:Int)<=30) by
   unfold yx;rw [hR.out,fR (by rw [hn.out];omega),hn.out,Bool.true_and,decide_eq_decide];omega)
  clear hR;go_wp2;go_returns;exact Ret.mk (vb HE.out.symm) hv
 case pos=>
 have hk1:(k:Int) < (n:Int):=by omega
 obtain ⟨x,hx⟩:=zx (xs:=xs) (k:=k) (by rw [hn.out];exact hlt);obtain ⟨ad,rfl,hab,c0,c1,c2,c3,c4,c5⟩:=Last.at_ (HA.out.below hv) hx;have HC:=fun w=>uJ x (hs.out x (List.mem_of_getElem? hx)) w;obtain ⟨b,hb⟩:=zN (zy x);rw [<-hb] at HC;replace HC:=qH HC;have HX:=qH hx;have HB:=qH hb.symm;clear hx hb;cases b
 · skip
   have HN:=qH (show yO none xs=false from hR.out.trans (fQ HX.out HB.out));clear hR;go_upto_region 4 with fail;obtain ⟨V,hV⟩:=zN (World.alloc wr (Obj.cells (cL x) 100));obtain ⟨gb,hgb⟩:=zN wr.heap.size;have hBX:Blk V gb 100 (cL x):=by rw [hV,hgb];exact Blk.new _ _ _
   have hb0:Below wr.heap.size wr V:=by rw [hV];exact zc (Below.refl _ _) _
   rw [<-hV,<-hgb];clear hV hgb;replace hv:=za hv hb0;replace c0:=zb hb0 c0;have q0:=yc0 hBX;replace c1:=zb hb0 c1;have q1:=yc1 hBX;replace c2:=zb hb0 c2;have q2:=yc2 hBX;replace c3:=zb hb0 c3;have q3:=yc3 hBX;replace c4:=zb hb0 c4;have q4:=yc4 hBX;replace c5:=zb hb0 c5;have q5:=yc5 hBX;clear hb0 hBX;refine zH (fun w'=>Below V.heap.size V w'/\True) ?_ (fun hHeld=>?_)
   ·exact ⟨(Below.refl _ _).drew,trivial⟩
   have hd9:=hHeld.1;refine zT 0 12 rfl (fun w hSw=>by
    have x_q0:=zb hSw.1 q0;have x_q1:=zb hSw.1 q1;have x_q2:=zb hSw.1 q2;have x_q3:=zb hSw.1 q3;have x_q4:=zb hSw.1 q4;have x_q5:=zb hSw.1 q5;go_simp;try with_reducible rfl) ?_
   refine zR 1 (some 13) rfl (fun K hK=>?_);go_simp;go_split_ands;refine qS (HC.out _) fun V1 hb9=>?_;replace hd9:=za hd9 hb9;clear hb9;go_wp2_with fail;refine zK hK ⟨hd9,trivial⟩ (fun hHeld=>?_);clear hK K;refine zU 2 14 ?_;refine zU 3 15 ?_;refine zS 4 16 ?_;refine zS 5 17 ?_;refine zS 6 18 ?_;refine zS 7 19 ?_;refine zS 8 20 ?_;refine zS 9 21 ?_;refine zS 10 22 ?_;refine zS 11 23 ?_;refine zS 12 24 ?_;refine zS 13 25 ?_;refine zS 14 26 ?_;refine zS 15 27 ?_;refine zS 16 28 ?_;refine zU 17 29 ?_;refine zD ?_;clear hHeld;replace hv:=za hv hd9;go_wp2;go_returns;exact Ret.mk (vb (by unfold yx;rw [HN.out];rfl)) hv
 by_cases hk9:k=0
 · have HN:=qH (show yO none xs=yO (vk xs (k + 1)) (xs.drop (k + 1)) from hR.out.trans (by have h:=HX.out;rw [hk9] at h |-;rw [lI h,HB.out];rfl));have hg1:decide ((0:Int) < (k:Int))=false:=decide_eq_false (by omega);have hg2:¬ (0:Int) < (k:Int):=by omega
   have hg3:¬ 0 < k:=by omega
   clear hR hk9;go_upto_region 4 with fail;obtain ⟨V,hV⟩:=zN (World.alloc wr (Obj.cells (cL x) 100));obtain ⟨gb,hgb⟩:=zN wr.heap.size;have hBX:Blk V gb 100 (cL x):=by rw [hV,hgb];exact Blk.new _ _ _
   have hb0:Below wr.heap.size wr V:=by rw [hV];exact zc (Below.refl _ _) _
   rw [<-hV,<-hgb];clear hV hgb;replace hv:=za hv hb0;replace c0:=zb hb0 c0;have q0:=yc0 hBX;replace c1:=zb hb0 c1;have q1:=yc1 hBX;replace c2:=zb hb0 c2;have q2:=yc2 hBX;replace c3:=zb hb0 c3;have q3:=yc3 hBX;replace c4:=zb hb0 c4;have q4:=yc4 hBX;replace c5:=zb hb0 c5;have q5:=yc5 hBX;clear hb0 hBX;refine zH (fun w'=>Below V.heap.size V w'/\True) ?_ (fun hHeld=>?_)
   ·exact ⟨(Below.refl _ _).drew,trivial⟩
   have hd9:=hHeld.1;refine zT 0 12 rfl (fun w hSw=>by
    have x_q0:=zb hSw.1 q0;have x_q1:=zb hSw.1 q1;have x_q2:=zb hSw.1 q2;have x_q3:=zb hSw.1 q3;have x_q4:=zb hSw.1 q4;have x_q5:=zb hSw.1 q5;go_simp;try with_reducible rfl) ?_
   refine zR 1 (some 13) rfl (fun K hK=>?_);go_simp;go_split_ands;refine qS (HC.out _) fun V1 hb9=>?_;replace hd9:=za hd9 hb9;clear hb9;go_wp2_with fail;refine zK hK ⟨hd9,trivial⟩ (fun hHeld=>?_);clear hK K;refine zU 2 14 ?_;refine zU 3 15 ?_;refine zU 4 16 ?_;refine zU 5 17 ?_;refine zU 6 18 ?_;refine zS 7 19 ?_;refine zS 8 20 ?_;refine zS 9 21 ?_;refine zS 10 22 ?_;refine zS 11 23 ?_;refine zS 12 24 ?_;refine zS 13 25 ?_;refine zS 14 26 ?_;refine zS 15 27 ?_;refine zU 16 28 ?_;refine zU 17 29 ?_;refine zD ?_;clear hHeld;replace hv:=za hv hd9;go_wp2_with fail;exact ⟨⟨k + 1,by omega,by go_num,HN,hv⟩,by simp [intOf];omega⟩
 obtain ⟨j,hj⟩:∃ j,k=j + 1:=⟨k - 1,by omega⟩
 obtain ⟨y,hy⟩:=zx (xs:=xs) (k:=j) (by rw [hn.out];omega);obtain ⟨ad',e',_,d0,_,_,_,_,_⟩:=Last.at_ (HA.out.below hv) hy;injection e' with e';subst e';have hN:yO none xs=(zy x && (yR y.name x.name && yO (vk xs (k + 1)) (xs.drop (k + 1)))):=by
  have h:=HX.out;rw [hR.out];rw [hj] at h |-;exact jA hy h
 rw [HB.out,Bool.true_and] at hN;have hw1:IntKind.i64.wrap ((k:Int) - 1)=(j:Int):=IntWalk.i64_in _ (by omega) |>.trans (by omega);have hw2:IntKind.i64.wrap (j:Int)=(j:Int):=IntWalk.i64_in _ (by omega);have hj0:(0:Int)<=(j:Int):=by omega
 have hj1:(j:Int) < (n:Int):=by omega
 have hj2:((j:Int)).toNat=j:=by omega
 have hj3:j < n:=by omega
 have hjp:(0:Int) < (k:Int):=by omega
 have hjq:0 < k:=by omega
 obtain ⟨lb,hlb⟩:=zN (yR y.name x.name);have hl:Op.bytesLess y.name.toList x.name.toList=lb:=hlb.symm;rw [<-hlb] at hN;have HN0:=qH hN;clear hN hlb hR hy hk9 hj;cases lb
 · skip
   have HN:=qH (HN0.out.trans (Bool.false_and _));go_upto_region 4 with fail;obtain ⟨V,hV⟩:=zN (World.alloc wr (Obj.cells (cL x) 100));obtain ⟨gb,hgb⟩:=zN wr.heap.size;have hBX:Blk V gb 100 (cL x):=by rw [hV,hgb];exact Blk.new _ _ _
   have hb0:Below wr.heap.size wr V:=by rw [hV];exact zc (Below.refl _ _) _
   rw [<-hV,<-hgb];clear hV hgb;replace hv:=za hv hb0;replace c0:=zb hb0 c0;have q0:=yc0 hBX;replace c1:=zb hb0 c1;have q1:=yc1 hBX;replace c2:=zb hb0 c2;have q2:=yc2 hBX;replace c3:=zb hb0 c3;have q3:=yc3 hBX;replace c4:=zb hb0 c4;have q4:=yc4 hBX;replace c5:=zb hb0 c5;have q5:=yc5 hBX;replace d0:=zb hb0 d0;clear hb0 hBX;refine zH (fun w'=>Below V.heap.size V w'/\True) ?_ (fun hHeld=>?_)
   ·exact ⟨(Below.refl _ _).drew,trivial⟩
   have hd9:=hHeld.1;refine zT 0 12 rfl (fun w hSw=>by
    have x_q0:=zb hSw.1 q0;have x_q1:=zb hSw.1 q1;have x_q2:=zb hSw.1 q2;have x_q3:=zb hSw.1 q3;have x_q4:=zb hSw.1 q4;have x_q5:=zb hSw.1 q5;go_simp;try with_reducible rfl) ?_
   refine zR 1 (some 13) rfl (fun K hK=>?_);go_simp;go_split_ands;refine qS (HC.out _) fun V1 hb9=>?_;replace hd9:=za hd9 hb9;clear hb9;go_wp2_with fail;refine zK hK ⟨hd9,trivial⟩ (fun hHeld=>?_);clear hK K;refine zU 2 14 ?_;refine zU 3 15 ?_;refine zU 4 16 ?_;refine zU 5 17 ?_;refine zU 6 18 ?_;refine zU 7 19 ?_;refine zU 8 20 ?_;refine zU 9 21 ?_;refine zU 10 22 ?_;refine zU 11 23 ?_;refine zT 12 24 rfl (fun w hSw=>by
    have x_d0:=zb hSw.1 d0;go_simp;try with_reducible rfl) ?_
   refine zU 13 25 ?_;refine zT 14 26 rfl (fun w hSw=>by
    have x_q0:=zb hSw.1 q0;go_simp;try with_reducible rfl) ?_
   refine zU 15 27 ?_;refine zU 16 28 ?_;refine zU 17 29 ?_;refine zD ?_;clear hHeld;replace hv:=za hv hd9;go_wp2;go_returns;exact Ret.mk (vb (by unfold yx;rw [HN.out];rfl)) hv
 · skip
   have HN:=qH (HN0.out.trans (Bool.true_and _));go_upto_region 4 with fail;obtain ⟨V,hV⟩:=zN (World.alloc wr (Obj.cells (cL x) 100));obtain ⟨gb,hgb⟩:=zN wr.heap.size;have hBX:Blk V gb 100 (cL x):=by rw [hV,hgb];exact Blk.new _ _ _
   have hb0:Below wr.heap.size wr V:=by rw [hV];exact zc (Below.refl _ _) _
   rw [<-hV,<-hgb];clear hV hgb;replace hv:=za hv hb0;replace c0:=zb hb0 c0;have q0:=yc0 hBX;replace c1:=zb hb0 c1;have q1:=yc1 hBX;replace c2:=zb hb0 c2;have q2:=yc2 hBX;replace c3:=zb hb0 c3;have q3:=yc3 hBX;replace c4:=zb hb0 c4;have q4:=yc4 hBX;replace c5:=zb hb0 c5;have q5:=yc5 hBX;replace d0:=zb hb0 d0;clear hb0 hBX;refine zH (fun w'=>Below V.heap.size V w'/\True) ?_ (fun hHeld=>?_)
   ·exact ⟨(Below.refl _ _).drew,trivial⟩
   have hd9:=hHeld.1;refine zT 0 12 rfl (fun w hSw=>by
    have x_q0:=zb hSw.1 q0;have x_q1:=zb hSw.1 q1;have x_q2:=zb hSw.1 q2;have x_q3:=zb hSw.1 q3;have x_q4:=zb hSw.1 q4;have x_q5:=zb hSw.1 q5;go_simp;try with_reducible rfl) ?_
   refine zR 1 (some 13) rfl (fun K hK=>?_);go_simp;go_split_ands;refine qS (HC.out _) fun V1 hb9=>?_;replace hd9:=za hd9 hb9;clear hb9;go_wp2_with fail;refine zK hK ⟨hd9,trivial⟩ (fun hHeld=>?_);clear hK K;refine zU 2 14 ?_;refine zU 3 15 ?_;refine zU 4 16 ?_;refine zU 5 17 ?_;refine zU 6 18 ?_;refine zU 7 19 ?_;refine zU 8 20 ?_;refine zU 9 21 ?_;refine zU 10 22 ?_;refine zU 11 23 ?_;refine zT 12 24 rfl (fun w hSw=>by
    have x_d0:=zb hSw.1 d0;go_simp;try with_reducible rfl) ?_
   refine zU 13 25 ?_;refine zT 14 26 rfl (fun w hSw=>by
    have x_q0:=zb hSw.1 q0;go_simp;try with_reducible rfl) ?_
   refine zU 15 27 ?_;refine zU 16 28 ?_;refine zU 17 29 ?_;refine zD ?_;clear hHeld;replace hv:=za hv hd9;go_wp2_with fail;exact ⟨⟨k + 1,by omega,by go_num,HN,hv⟩,by simp [intOf];omega⟩
theorem qh(A:Option Addr)(xs:List Last)(n c:Nat)(hn:Hid (xs.length=n))(hm:(n:Int)<=1048576)(hs:Hid (∀ x ∈ xs,x.name.size<=9223372036854775807))(w:World)(hA:Arr w A (zd Last.cells xs)):Calls prog 92 #[.slice A n c] w (Ret (.bool (yx xs)) w):=by
 have HA:=qH hA;clear hA;go_in;go_wp2_with fail;have hR:=qH (show yO none xs=yO (vk xs 0) (xs.drop 0) from rfl)
 go_loopw [3] (fun i wr=>∃ k:Nat,k<=n/\i=.int .i64 k/\Hid (yO none xs=yO (vk xs k) (xs.drop k))/\Below w.heap.size w wr) (fun i _=>n - (intOf i).toNat)
 case atStart=>exact ⟨0,by omega,rfl,hR,Below.refl _ _⟩
 case round=>
 clear hR;obtain ⟨k,hk,rfl,hR,hv⟩:=hrel;have hk0:(0:Int)<=(k:Int):=by omega
 by_cases hlt:k < n
 case neg=>
  have hkn:¬ (k:Int) < (n:Int):=by omega
  have HE:=qH (show yx xs=decide ((n:Int)<=30) by
   unfold yx;rw [hR.out,fR (by rw [hn.out];omega),hn.out,Bool.true_and,decide_eq_decide];omega)
  clear hR;go_wp2;go_returns;exact Ret.mk (vb HE.out.symm) hv
 case pos=>
 have hk1:(k:Int) < (n:Int):=by omega
 obtain ⟨x,hx⟩:=zx (xs:=xs) (k:=k) (by rw [hn.out];exact hlt);obtain ⟨ad,rfl,hab,c0,c1,c2,c3,c4,c5⟩:=Last.at_ (HA.out.below hv) hx;have HC:=fun w=>tT x (hs.out x (List.mem_of_getElem? hx)) w;obtain ⟨b,hb⟩:=zN (zy x);rw [<-hb] at HC;replace HC:=qH HC;have HX:=qH hx;have HB:=qH hb.symm;clear hx hb;cases b
 · skip
   have HN:=qH (show yO none xs=false from hR.out.trans (fQ HX.out HB.out));clear hR;go_wp2_with fail;refine zH (fun w'=>Below wr.heap.size wr w'/\True) ?_ (fun hHeld=>?_)
   ·exact ⟨(Below.refl _ _).drew,trivial⟩
   have hd9:=hHeld.1;refine zU 0 10 ?_;refine zU 1 11 ?_;refine zU 2 12 ?_;refine zT 3 13 rfl (fun w hSw=>by
    have x_c0:=zb hSw.1 c0;have x_c1:=zb hSw.1 c1;have x_c2:=zb hSw.1 c2;have x_c3:=zb hSw.1 c3;have x_c4:=zb hSw.1 c4;have x_c5:=zb hSw.1 c5;go_simp;try with_reducible rfl) ?_
   refine zR 4 (some 14) rfl (fun K hK=>?_);go_simp;go_split_ands;refine qS (HC.out _) fun V1 hb9=>?_;replace hd9:=za hd9 hb9;clear hb9;go_wp2_with fail;refine zK hK ⟨hd9,trivial⟩ (fun hHeld=>?_);clear hK K;refine zU 5 15 ?_;refine zU 6 16 ?_;refine zS 7 17 ?_;refine zS 8 18 ?_;refine zS 9 19 ?_;refine zS 10 20 ?_;refine zS 11 21 ?_;refine zS 12 22 ?_;refine zS 13 23 ?_;refine zS 14 24 ?_;refine zS 15 25 ?_;refine zS 16 26 ?_;refine zS 17 27 ?_;refine zS 18 28 ?_;refine zS 19 29 ?_;refine zS 20 30 ?_;refine zS 21 31 ?_;refine zS 22 32 ?_;refine zU 23 33 ?_;refine zD ?_;clear hHeld;replace hv:=za hv hd9;go_wp2;go_returns;exact Ret.mk (vb (by unfold yx;rw [HN.out];rfl)) hv
 by_cases hk9:k=0
 · have HN:=qH (show yO none xs=yO (vk xs (k + 1)) (xs.drop (k + 1)) from hR.out.trans (by have h:=HX.out;rw [hk9] at h |-;rw [lI h,HB.out];rfl));have hg1:decide ((0:Int) < (k:Int))=false:=decide_eq_false (by omega);have hg2:¬ (0:Int) < (k:Int):=by omega
   have hg3:¬ 0 < k:=by omega
   clear hR hk9;go_wp2_with fail;refine zH (fun w'=>Below wr.heap.size wr w'/\True) ?_ (fun hHeld=>?_)
   ·exact ⟨(Below.refl _ _).drew,trivial⟩
   have hd9:=hHeld.1;refine zU 0 10 ?_;refine zU 1 11 ?_;refine zU 2 12 ?_;refine zT 3 13 rfl (fun w hSw=>by
    have x_c0:=zb hSw.1 c0;have x_c1:=zb hSw.1 c1;have x_c2:=zb hSw.1 c2;have x_c3:=zb hSw.1 c3;have x_c4:=zb hSw.1 c4;have x_c5:=zb hSw.1 c5;go_simp;try with_reducible rfl) ?_
   refine zR 4 (some 14) rfl (fun K hK=>?_);go_simp;go_split_ands;refine qS (HC.out _) fun V1 hb9=>?_;replace hd9:=za hd9 hb9;clear hb9;go_wp2_with fail;refine zK hK ⟨hd9,trivial⟩ (fun hHeld=>?_);clear hK K;refine zU 5 15 ?_;refine zU 6 16 ?_;refine zU 7 17 ?_;refine zU 8 18 ?_;refine zU 9 19 ?_;refine zS 10 20 ?_;refine zS 11 21 ?_;refine zS 12 22 ?_;refine zS 13 23 ?_;refine zS 14 24 ?_;refine zS 15 25 ?_;refine zS 16 26 ?_;refine zS 17 27 ?_;refine zS 18 28 ?_;refine zS 19 29 ?_;refine zS 20 30 ?_;refine zS 21 31 ?_;refine zU 22 32 ?_;refine zU 23 33 ?_;refine zD ?_;clear hHeld;replace hv:=za hv hd9;go_wp2_with fail;exact ⟨⟨k + 1,by omega,by go_num,HN,hv⟩,by simp [intOf];omega⟩
 obtain ⟨j,hj⟩:∃ j,k=j + 1:=⟨k - 1,by omega⟩
 obtain ⟨y,hy⟩:=zx (xs:=xs) (k:=j) (by rw [hn.out];omega);obtain ⟨ad',e',_,d0,_,_,_,_,_⟩:=Last.at_ (HA.out.below hv) hy;injection e' with e';subst e';have hN:yO none xs=(zy x && (yR y.name x.name && yO (vk xs (k + 1)) (xs.drop (k + 1)))):=by
  have h:=HX.out;rw [hR.out];rw [hj] at h |-;exact jA hy h
 rw [HB.out,Bool.true_and] at hN;have hw1:IntKind.i64.wrap ((k:Int) - 1)=(j:Int):=IntWalk.i64_in _ (by omega) |>.trans (by omega);have hw2:IntKind.i64.wrap (j:Int)=(j:Int):=IntWalk.i64_in _ (by omega);have hj0:(0:Int)<=(j:Int):=by omega
 have hj1:(j:Int) < (n:Int):=by omega
 have hj2:((j:Int)).toNat=j:=by omega
 have hj3:j < n:=by omega
 have hjp:(0:Int) < (k:Int):=by omega
 have hjq:0 < k:=by omega
 obtain ⟨lb,hlb⟩:=zN (yR y.name x.name);have hl:Op.bytesLess y.name.toList x.name.toList=lb:=hlb.symm;rw [<-hlb] at hN;have HN0:=qH hN;clear hN hlb hR hy hk9 hj;cases lb
 · skip
   have HN:=qH (HN0.out.trans (Bool.false_and _));go_wp2_with fail;refine zH (fun w'=>Below wr.heap.size wr w'/\True) ?_ (fun hHeld=>?_)
   ·exact ⟨(Below.refl _ _).drew,trivial⟩
   have hd9:=hHeld.1;refine zU 0 10 ?_;refine zU 1 11 ?_;refine zU 2 12 ?_;refine zT 3 13 rfl (fun w hSw=>by
    have x_c0:=zb hSw.1 c0;have x_c1:=zb hSw.1 c1;have x_c2:=zb hSw.1 c2;have x_c3:=zb hSw.1 c3;have x_c4:=zb hSw.1 c4;have x_c5:=zb hSw.1 c5;go_simp;try with_reducible rfl) ?_
   refine zR 4 (some 14) rfl (fun K hK=>?_);go_simp;go_split_ands;refine qS (HC.out _) fun V1 hb9=>?_;replace hd9:=za hd9 hb9;clear hb9;go_wp2_with fail;refine zK hK ⟨hd9,trivial⟩ (fun hHeld=>?_);clear hK K;refine zU 5 15 ?_;refine zU 6 16 ?_;refine zU 7 17 ?_;refine zU 8 18 ?_;refine zU 9 19 ?_;refine zU 10 20 ?_;refine zU 11 21 ?_;refine zU 12 22 ?_;refine zU 13 23 ?_;refine zU 14 24 ?_;refine zT 15 25 rfl (fun w hSw=>by
    have x_d0:=zb hSw.1 d0;go_simp;try with_reducible rfl) ?_
   refine zU 16 26 ?_;refine zU 17 27 ?_;refine zU 18 28 ?_;refine zU 19 29 ?_;refine zT 20 30 rfl (fun w hSw=>by
    have x_c0:=zb hSw.1 c0;go_simp;try with_reducible rfl) ?_
   refine zU 21 31 ?_;refine zU 22 32 ?_;refine zU 23 33 ?_;refine zD ?_;clear hHeld;replace hv:=za hv hd9;go_wp2;go_returns;exact Ret.mk (vb (by unfold yx;rw [HN.out];rfl)) hv
 · skip
   have HN:=qH (HN0.out.trans (Bool.true_and _));go_wp2_with fail;refine zH (fun w'=>Below wr.heap.size wr w'/\True) ?_ (fun hHeld=>?_)
   ·exact ⟨(Below.refl _ _).drew,trivial⟩
   have hd9:=hHeld.1;refine zU 0 10 ?_;refine zU 1 11 ?_;refine zU 2 12 ?_;refine zT 3 13 rfl (fun w hSw=>by
    have x_c0:=zb hSw.1 c0;have x_c1:=zb hSw.1 c1;have x_c2:=zb hSw.1 c2;have x_c3:=zb hSw.1 c3;have x_c4:=zb hSw.1 c4;have x_c5:=zb hSw.1 c5;go_simp;try with_reducible rfl) ?_
   refine zR 4 (some 14) rfl (fun K hK=>?_);go_simp;go_split_ands;refine qS (HC.out _) fun V1 hb9=>?_;replace hd9:=za hd9 hb9;clear hb9;go_wp2_with fail;refine zK hK ⟨hd9,trivial⟩ (fun hHeld=>?_);clear hK K;refine zU 5 15 ?_;refine zU 6 16 ?_;refine zU 7 17 ?_;refine zU 8 18 ?_;refine zU 9 19 ?_;refine zU 10 20 ?_;refine zU 11 21 ?_;refine zU 12 22 ?_;refine zU 13 23 ?_;refine zU 14 24 ?_;refine zT 15 25 rfl (fun w hSw=>by
    have x_d0:=zb hSw.1 d0;go_simp;try with_reducible rfl) ?_
   refine zU 16 26 ?_;refine zU 17 27 ?_;refine zU 18 28 ?_;refine zU 19 29 ?_;refine zT 20 30 rfl (fun w hSw=>by
    have x_c0:=zb hSw.1 c0;go_simp;try with_reducible rfl) ?_
   refine zU 21 31 ?_;refine zU 22 32 ?_;refine zU 23 33 ?_;refine zD ?_;clear hHeld;replace hv:=za hv hd9;go_wp2_with fail;exact ⟨⟨k + 1,by omega,by go_num,HN,hv⟩,by simp [intOf];omega⟩
end Go.Proofs.YtpiehlfffjhoaaaGreatDoor
