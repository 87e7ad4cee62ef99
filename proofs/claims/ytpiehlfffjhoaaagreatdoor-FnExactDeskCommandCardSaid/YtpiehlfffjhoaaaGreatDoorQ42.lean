/- The console's reference: lasts ranked,the best last. -/
import Derived.Test.YtpiehlfffjhoaaaGreatDoorQ41
namespace Go.Proofs.YtpiehlfffjhoaaaGreatDoor
open Go.RowKit Go.Proofs.Tryz
set_option maxRecDepth 100000
set_option maxHeartbeats 8000000
theorem tw(l:List Int):∀ u ∈ zd zp l,u.oneCell'=true:=by
 intro u hu;simp only [zd,List.mem_flatMap,zp,List.mem_singleton] at hu;obtain ⟨x,_,rfl⟩:=hu;rfl
theorem ro(l:List Int):(zd zp l).length=l.length:=by rw [yK (f:=zp) (s:=1) (fun _=>rfl)];omega
theorem qG(l:List Int)(k:Nat):(zd zp l).take k=zd zp (l.take k):=by
 have h:∀ l:List Int,zd zp l=l.map (Value.int .i64):=fun l=>by
  induction l with
  | nil=>rfl
  | cons a r ih=>rw [List.map_cons,<-ih];rfl
 rw [h,h,List.map_take]
theorem zaO(l:List Int)(k:Nat):(zd zp l).drop k=zd zp (l.drop k):=by
 have h:∀ l:List Int,zd zp l=l.map (Value.int .i64):=fun l=>by
  induction l with
  | nil=>rfl
  | cons a r ih=>rw [List.map_cons,<-ih];rfl
 rw [h,h,List.map_drop]
theorem zbX{w:World}{g k:Nat}{l:List Int}(h:Arr w (some ⟨g,0,none⟩) (zd zp l)):Arr w (some ⟨g,k,none⟩) (zd zp (l.drop k)):=fun hn=>by
 rw [<-zaO] at hn |-;obtain ⟨ad,e,hb,hc⟩:=h (by rw [List.length_drop] at hn;omega);injection e with e;subst e;refine ⟨_,rfl,hb,fun j u hu=>?_⟩;rw [List.getElem?_drop] at hu;have:=hc (k + j) u hu;rw [Addr.add_lit,Nat.zero_add] at this;rw [Addr.add_lit];exact this
theorem rM(ad:Addr)(l:List Int)(n c:Nat)(hn:Hid (l.length=n))(hm:(n:Int)<=1048576)(w:World)(hA:Arr w (some ad) (zd zp l)) :
 Calls prog 272 #[.slice (some ad) n c] w (rf 2 1 n (zd zp l) w):=by
 obtain ⟨i0,hi0,hz0,hz1,hz2⟩:=info_parts (P:=prog) (e:=2) (z:=.int .i64 0) (size:=1) (bytes:=8) qL;have hlen:(zd zp l).length=n * 1:=by rw [ro,hn.out,Nat.mul_one]
 go_in;go_wp2_with (at_builtin;refine vX _ rfl _ _ 58 2 rfl i0 _ 1 8 underlying58 hi0 hz0 hz1 hz2 rfl (by omega) w.heap.size _ 0 [] rfl (zI w _ _ _ (Nat.le_refl _)) ad n c (zd zp l) rfl (hA.alloc _) hlen (tw l) (by unfold maxLen;omega) (by omega) (by simp) ?_;intro A2 c2 w2 hown2 hg2)
 go_returns;simp only [Nat.zero_add,List.nil_append] at hown2 |-;exact ⟨A2,c2,rfl,hown2,zi (zc (Below.refl _ _) _) hg2 (zn (zI w w.heap.size 2 1 (Nat.le_refl _)))⟩
theorem bO(A:Option Addr)(xs:List Last)(n c:Nat)(f:Foot)(lo hi gi:Int)(gw:Nat)(HN:Hid (xs.length=n))(hn30:n<=30)(HLB:Hid (yx xs=true))(HF:Hid (ym f=true))(gp:Nat)(w:World)(hA:Arr w A (zd Last.cells xs))(hP:Blk w gp 120 #[.int .i64 lo,.int .i64 hi,.int .i64 gi,.slice (some ⟨gw,0,none⟩) 4 4])(hW:Blk w gw 2 #[.int .i64 1,.int .i64 1,.int .i64 1,.int .i64 1]) :
 Calls prog 270 #[.slice A n c,.agg #[.int .i64 f.length,.int .i64 f.b,.int .i64 f.i,.int .i64 f.h],.pointer (some ⟨gp,0,none⟩)] w (Ret (.bool (va lo hi gi)) w):=by
 have HNZ:Hid (∀ x ∈ xs,x.name.size<=9223372036854775807):=qH (fun x hx=>Nat.le_trans (yH (xc HLB.out x hx)) (by omega));have H1:=fun w h=>qh A xs n c HN (by omega) HNZ w h;rw [HLB.out] at H1;replace H1:=qH H1;have H2:=fun w=>rN f w;rw [HF.out] at H2;replace H2:=qH H2;have H3:=qH (fun w h1 h2=>za8 lo hi gi gp gw w h1 h2);obtain ⟨W,hWW⟩:=zN (w.alloc (Obj.cells (cF f) 27));obtain ⟨gf,hgf⟩:=zN w.heap.size;have hv:Below w.heap.size w W:=by rw [hWW];exact zc (Below.refl _ _) _
 have hB:Hid (Blk W gf 27 (cF f)):=qH (by rw [hWW,hgf];exact Blk.new _ _ _);have HW:=qH hWW;have HG:=qH hgf;clear hWW hgf;go_in;go_upto_region 1 with fail;rw [<-HW.out,<-HG.out];clear HW HG;go_wp2_with fail;refine qS (H1.out _ (hA.below hv)) fun W1 hb=>?_;replace hv:=za hv hb;replace hB:=qH (hB.out.below hb);clear hb;obtain ⟨k0,k1,k2,k3⟩:=qC4 hB.out;go_wp2_with fail;refine qS (H2.out _) fun W2 hb=>?_;replace hv:=za hv hb;clear hb k0 k1 k2 k3;go_wp2_with fail;refine qS (H3.out _ (hP.below hv) (hW.below hv)) fun W3 hb=>?_;go_wp2;go_returns;exact Ret.mk rfl (za hv hb)
def zbR(f:Foot)(lo hi gi:Int)(xs:List Last)(w:World)(e:Ending)(w':World):Prop:=∃ (B:Option Addr) (m cb:Nat) (K:Int),e=.returned (.tuple #[.slice B m cb,.int .i64 K])/\K=(if va lo hi gi=true then 0 else 1)/\Below w.heap.size w w'/\(va lo hi gi=true->(rkX f lo hi gi xs).length=m/\Arr w' B (zd zp (plN (rkX f lo hi gi xs))))
theorem kL(A:Option Addr)(xs:List Last)(n c:Nat)(f:Foot)(lo hi gi:Int)(gw:Nat)(HN:Hid (xs.length=n))(hn30:n<=30)(HLB:Hid (yx xs=true))(HF:Hid (ym f=true))(w:World)(hA:Arr w A (zd Last.cells xs))(hWt:Blk w gw 2 #[.int .i64 1,.int .i64 1,.int .i64 1,.int .i64 1]) :
 Calls prog 234 #[.slice A n c,.agg #[.int .i64 f.length,.int .i64 f.b,.int .i64 f.i,.int .i64 f.h],.agg #[.int .i64 lo,.int .i64 hi,.int .i64 gi,.slice (some ⟨gw,0,none⟩) 4 4]] w (zbR f lo hi gi xs w):=by
 obtain ⟨i0,hi0,hz0,hz1,hz2⟩:=info_parts (P:=prog) (e:=2) (z:=.int .i64 0) (size:=1) (bytes:=8) qL;obtain ⟨W,hW⟩:=zN ((w.alloc (Obj.cells (cF f) 27)).alloc (Obj.cells #[.int .i64 lo,.int .i64 hi,.int .i64 gi,.slice (some ⟨gw,0,none⟩) 4 4] 120));obtain ⟨gf,hgf⟩:=zN w.heap.size;obtain ⟨gp,hgp⟩:=zN (w.heap.size + 1);have hv:Below w.heap.size w W:=by rw [hW];exact zc (zc (Below.refl _ _) _) _
 have HFB:Hid (Blk W gf 27 (cF f)):=qH (by rw [hW,hgf];exact (Blk.new _ _ _).alloc _);have HPB:Hid (Blk W gp 120 #[.int .i64 lo,.int .i64 hi,.int .i64 gi,.slice (some ⟨gw,0,none⟩) 4 4]):=qH (by
  have h:=Blk.new (w.alloc (Obj.cells (cF f) 27)) 120 #[Value.int .i64 lo,Value.int .i64 hi,Value.int .i64 gi,Value.slice (some ⟨gw,0,none⟩) 4 4];rw [World.size_alloc] at h;rw [hW,hgp];exact h)
 have HLC:=fun w h1 h2 h3=>bO A xs n c f lo hi gi gw HN hn30 HLB HF gp w h1 h2 h3;obtain ⟨bf,hbf⟩:=zN (va lo hi gi);rw [<-hbf] at HLC;replace HLC:=qH HLC;have HBF:=qH hbf.symm;clear hbf;have HW:=qH hW;have HGF:=qH hgf;have HGP:=qH hgp;clear hW hgf hgp;go_in;go_upto_region 1 with fail;rw [<-HW.out,<-HGP.out,<-HGF.out];clear HW HGP HGF;go_wp2_with (refine yL gf HFB.out underlying27 ?_)
 refine qS (HLC.out _ (hA.below hv) HPB.out (hWt.below hv)) fun W2 hb=>?_;replace hv:=za hv hb;replace HFB:=qH (HFB.out.below hb);replace HPB:=qH (HPB.out.below hb);clear hb HLC;cases bf
 case false=>
  go_wp2;go_returns;exact ⟨none,0,0,1,rfl,by rw [HBF.out];rfl,hv,fun h=>by rw [HBF.out] at h;cases h⟩
 have HT:Hid (va lo hi gi=true):=HBF;have HV:=qH hv;have HAX:=qH (hA.below hv);have HWB:=qH (hWt.below hv);clear hv hA hWt;go_upto_region 4 with fail;obtain ⟨g0,hg0⟩:=zN W2.heap.size;obtain ⟨W4,hW4⟩:=zN (W2.alloc (Obj.cells #[] 2));have hlt0:g0 < W4.heap.size:=by rw [hW4,hg0,World.size_alloc];omega
 have HR0:Hid (W4.ownsRow W2.heap.size 2 1 (.slice (some ⟨g0,0,none⟩) 0 0) 0 (zd zp (plN (rkX f lo hi gi (xs.take 0))))):=qH (by rw [hW4,hg0];exact zI W2 W2.heap.size 2 1 (Nat.le_refl _));have hb4:Below W2.heap.size W2 W4:=by rw [hW4];exact zc (Below.refl _ _) _
 rw [<-hW4,<-hg0];clear hW4 hg0;go_wp2_with fail
 go_loopw [8,9] (fun ov iv wr=>∃ (i m g c':Nat),i<=n/\m<=i/\iv=.int .i64 i/\ov=.slice (some ⟨g,0,none⟩) m c'/\Hid ((rkX f lo hi gi (xs.take i)).length=m)/\Hid (wr.ownsRow W2.heap.size 2 1 (.slice (some ⟨g,0,none⟩) m c') m (zd zp (plN (rkX f lo hi gi (xs.take i)))))/\Below W2.heap.size W2 wr) (fun _ i _=>n - (intOf i).toNat)
 case atStart=>exact ⟨0,0,g0,0,by omega,by omega,rfl,rfl,qH rfl,HR0,hb4⟩
 case round=>
 clear HR0 hb4 hlt0;obtain ⟨i,m,g,c',hin,hmi,rfl,rfl,HLL,HO,hb⟩:=hrel;have hi0':(0:Int)<=(i:Int):=by omega
 by_cases hlt:i < n
 case neg=>
  have hi1:¬ (i:Int) < (n:Int):=by omega
  have htk:xs.take i=xs:=List.take_of_length_le (by rw [HN.out];omega);rw [htk] at HLL HO;clear htk;go_wp2;go_returns;exact ⟨some ⟨g,0,none⟩,m,c',0,rfl,by rw [HT.out];rfl,za HV.out hb,fun _=>⟨HLL.out,Arr.own HO.out⟩⟩
 have hi1:(i:Int) < (n:Int):=by omega
 obtain ⟨x,hx⟩:=zx (xs:=xs) (k:=i) (by rw [HN.out];exact hlt);obtain ⟨ad,hAd,hab,e0,e1,e2,e3,e4,e5⟩:=Last.at_ (HAX.out.below hb) hx;have HXB:Hid (zy x=true):=qH (xc HLB.out x (List.mem_of_getElem? hx));have HCX:=fun w h1 h2=>lC x f lo hi gi gp gw HXB HF HT w h1 h2;have HRN:=qH (fun h=>zdg (f:=f) (lo:=lo) (hi:=hi) (gi:=gi) hx h);have HRY0:=qH (fun h=>zcH (f:=f) (lo:=lo) (hi:=hi) (gi:=gi) hx h);have HCY:=qH (fun (h:okC x f lo hi gi=true)=>mN h);have HCN:=qH (fun (h:okC x f lo hi gi=false)=>kX h);have HLP:=qH (show (rkX f lo hi gi (xs.take i)).Pairwise tk from zcJ _);have HAT:=qH (fun k p (h:(rkX f lo hi gi (xs.take i))[k]?=some p)=>zdf h);obtain ⟨L,hL⟩:=zN (rkX f lo hi gi (xs.take i));rw [<-hL] at HLL HO HRN HRY0 HLP HAT;obtain ⟨cv,hcv⟩:=zN (csR x f lo hi gi);rw [<-hcv] at HCX HCY HCN;replace HCX:=qH HCX;have f0:=yc0 (HFB.out.below hb);have f1:=yc1 (HFB.out.below hb);have f2:=yc2 (HFB.out.below hb);have f3:=yc3 (HFB.out.below hb);subst hAd;clear hL hcv hx;go_upto_region 7 with fail;refine zH (fun w'=>Below wr.heap.size wr w'/\True) ?_ (fun hHeld=>?_)
 ·exact ⟨(Below.refl _ _).drew,trivial⟩
 have hd9:=hHeld.1;refine zU 0 24 ?_;refine zU 1 25 ?_;refine zU 2 26 ?_;refine zT 3 27 rfl (fun w hSw=>by
  have x_e0:=zb hSw.1 e0;have x_e1:=zb hSw.1 e1;have x_e2:=zb hSw.1 e2;have x_e3:=zb hSw.1 e3;have x_e4:=zb hSw.1 e4;have x_e5:=zb hSw.1 e5;go_simp;try with_reducible rfl) ?_
 refine zT 4 28 rfl (fun w hSw=>by
  have x_f0:=zb hSw.1 f0;have x_f1:=zb hSw.1 f1;have x_f2:=zb hSw.1 f2;have x_f3:=zb hSw.1 f3;go_simp;try with_reducible rfl) ?_
 refine zR 5 (some 29) rfl (fun K hK=>?_);go_simp;go_split_ands;refine qS (HCX.out _ ((HPB.out.below hb).below hd9) ((HWB.out.below hb).below hd9)) fun W5 hb9=>?_;replace hd9:=za hd9 hb9;clear hb9;go_wp2_with fail;refine zK hK ⟨hd9,trivial⟩ (fun hHeld=>?_);clear hK K;refine zU 6 10 ?_;refine zD ?_;clear hHeld e0 e1 e2 e3 e4 e5 f0 f1 f2 f3 HCX hab;replace HO:=qH (ze HO.out hd9);replace hb:=za hb hd9;clear hd9;cases hoc:okC x f lo hi gi
 case false=>
  obtain rfl:=HCN.out hoc;have HR2:=qH (HRN.out hoc);clear hoc;go_wp2_with fail;exact ⟨⟨i + 1,m,g,c',by omega,by omega,by go_num,rfl,qH (by rw [HR2.out];exact HLL.out),qH (by rw [HR2.out];exact HO.out),hb⟩,by simp [intOf];omega⟩
 have hcs:=HCY.out hoc;have HRY1:=qH (HRY0.out hoc);have hnn:0<=cv:=by
  rw [hcs];unfold okC at hoc;simp only [Bool.and_eq_true,inB_iff] at hoc;unfold vB;have h1:0<=apt x.b f.b:=by unfold apt;omega
  have h2:0<=apt x.i f.i:=by unfold apt;omega
  have h3:0<=apt x.h f.h:=by unfold apt;omega
  omega
 rw [<-hcs] at HRY1;have hng:¬ cv < 0:=by omega
 obtain ⟨nv,rfl⟩:=zN cv;have HUB:=qH (fun k p (h:L[k]?=some p)=>oK nv L HLP.out k p h);have hub:ubR nv L<=m:=by rw [<-HLL.out];exact gh _ _
 obtain ⟨ub,hube⟩:=zN (ubR nv L);rw [<-hube] at HUB hub HRY1;have HRY:=HRY1;clear hcs hoc hnn HRY1 HRY0 HCY HCN HRN hube;go_wp2_with fail
 go_loopw [11] (fun kv wz=>∃ k:Nat,ub<=k/\k<=m/\kv=.int .i64 k/\Hid (wz.ownsRow W2.heap.size 2 1 (.slice (some ⟨g,0,none⟩) m c') m (zd zp (plN L)))/\Below W2.heap.size W2 wz) (fun k _=>(intOf k).toNat)
 case atStart=>exact ⟨m,hub,Nat.le_refl _,rfl,HO,hb⟩
 case round=>
 clear HO hb;obtain ⟨k,hk1,hk2,rfl,HO,hb⟩:=hrel;by_cases hkz:k=0
 case neg=>
  obtain ⟨j,rfl⟩:∃ j,k=j + 1:=⟨k - 1,by omega⟩
  obtain ⟨p,hp⟩:=zx (xs:=L) (k:=j) (by rw [HLL.out];omega);obtain ⟨hpn,y,hy,hoy,hpc⟩:=HAT.out j p hp;have hpu:=HUB.out j p hp;obtain ⟨ad',hA',hab',e0,e1,e2,e3,e4,e5⟩:=Last.at_ (HAX.out.below hb) hy;have HYB:Hid (zy y=true):=qH (xc HLB.out y (List.mem_of_getElem? hy));have HCP:=fun w h1 h2=>lC y f lo hi gi gp gw HYB HF HT w h1 h2;rw [mN hoy,<-hpc] at HCP;replace HCP:=qH HCP;obtain ⟨bd,hbd,_,q0⟩:=yn (Arr.own HO.out) (au hp);injection hA' with hA';subst hA';injection hbd with hbd;subst hbd;rw [Addr.add_lit,Nat.zero_add] at q0;obtain ⟨pn,pc⟩:=p;dsimp only at hpn hpc hpu HCP q0 e0 e1 e2 e3 e4 e5;have hpn0:(0:Int)<=(pn:Int):=by omega
  rw [HN.out] at hpn;have hpn1:(pn:Int) < (n:Int):=by omega
  have f0:=yc0 (HFB.out.below hb);have f1:=yc1 (HFB.out.below hb);have f2:=yc2 (HFB.out.below hb);have f3:=yc3 (HFB.out.below hb);have hw1:IntKind.i64.wrap (((j + 1:Nat):Int) - 1)=(j:Int):=IntWalk.i64_in _ (by omega) |>.trans (by omega);have hw2:IntKind.i64.wrap (j:Int)=(j:Int):=IntWalk.i64_in _ (by omega);have hj0:(0:Int)<=(j:Int):=by omega
  have hj1:(j:Int) < (m:Int):=by omega
  have hgp1:decide ((0:Int) < ((j + 1:Nat):Int))=true:=decide_eq_true (by omega);clear hp hy hoy hpc hab';by_cases hgt:nv < pc
  case pos=>
   have hub2:ub<=j:=by
    have:=hpu;omega
   have hgd:decide (nv < pc)=true:=decide_eq_true hgt;clear hpu;go_upto_region 10 with fail;refine zH (fun w'=>Below wr.heap.size wr w'/\True) ?_ (fun hHeld=>?_)
   ·exact ⟨(Below.refl _ _).drew,trivial⟩
   have hd9:=hHeld.1;refine zU 0 34 ?_;refine zU 1 35 ?_;refine zU 2 36 ?_;refine zU 3 37 ?_;refine zU 4 38 ?_;refine zU 5 39 ?_;refine zU 6 40 ?_;refine zU 7 41 ?_;refine zT 8 42 rfl (fun w hSw=>by
    have x_q0:=zb hSw.1 q0;go_simp;try with_reducible rfl) ?_
   refine zU 9 43 ?_;refine zT 10 44 rfl (fun w hSw=>by
    have x_e0:=zb hSw.1 e0;have x_e1:=zb hSw.1 e1;have x_e2:=zb hSw.1 e2;have x_e3:=zb hSw.1 e3;have x_e4:=zb hSw.1 e4;have x_e5:=zb hSw.1 e5;go_simp;try with_reducible rfl) ?_
   refine zT 11 45 rfl (fun w hSw=>by
    have x_f0:=zb hSw.1 f0;have x_f1:=zb hSw.1 f1;have x_f2:=zb hSw.1 f2;have x_f3:=zb hSw.1 f3;go_simp;try with_reducible rfl) ?_
   refine zU 13 47 ?_;refine zR 12 (some 46) rfl (fun K hK=>?_);go_simp;go_split_ands;refine qS (HCP.out _ ((HPB.out.below hb).below hd9) ((HWB.out.below hb).below hd9)) fun V5 hb9=>?_;replace hd9:=za hd9 hb9;clear hb9;go_wp2_with fail;refine zK hK ⟨hd9,trivial⟩ (fun hHeld=>?_);clear hK K;refine zU 14 48 ?_;refine zU 15 49 ?_;refine zD ?_;clear hHeld;go_wp2_with fail;exact ⟨⟨j,by omega,by omega,rfl,qH (ze HO.out hd9),za hb hd9⟩,by simp [intOf]⟩
  case neg=>
   have HKK:=qH (show j + 1=ub by
    have:=hpu;omega)
   have hgd:decide (nv < pc)=false:=decide_eq_false hgt;have hmC:(m:Int)<=(c':Int):=by obtain ⟨_,_,e1,h1,_⟩:=wc HO.out;injection e1 with _ _ e3;omega
   have hmc:m<=c':=by omega
   have hkI:((j + 1:Nat):Int)<=(m:Int):=by omega
   have hkC:((j + 1:Nat):Int)<=(c':Int):=by omega
   clear hpu;go_upto_region 10 with fail;refine zH (fun w'=>Below wr.heap.size wr w'/\True) ?_ (fun hHeld=>?_)
   ·exact ⟨(Below.refl _ _).drew,trivial⟩
   have hd9:=hHeld.1;refine zU 0 34 ?_;refine zU 1 35 ?_;refine zU 2 36 ?_;refine zU 3 37 ?_;refine zU 4 38 ?_;refine zU 5 39 ?_;refine zU 6 40 ?_;refine zU 7 41 ?_;refine zT 8 42 rfl (fun w hSw=>by
    have x_q0:=zb hSw.1 q0;go_simp;try with_reducible rfl) ?_
   refine zU 9 43 ?_;refine zT 10 44 rfl (fun w hSw=>by
    have x_e0:=zb hSw.1 e0;have x_e1:=zb hSw.1 e1;have x_e2:=zb hSw.1 e2;have x_e3:=zb hSw.1 e3;have x_e4:=zb hSw.1 e4;have x_e5:=zb hSw.1 e5;go_simp;try with_reducible rfl) ?_
   refine zT 11 45 rfl (fun w hSw=>by
    have x_f0:=zb hSw.1 f0;have x_f1:=zb hSw.1 f1;have x_f2:=zb hSw.1 f2;have x_f3:=zb hSw.1 f3;go_simp;try with_reducible rfl) ?_
   refine zU 13 47 ?_;refine zR 12 (some 46) rfl (fun K hK=>?_);go_simp;go_split_ands;refine qS (HCP.out _ ((HPB.out.below hb).below hd9) ((HWB.out.below hb).below hd9)) fun V5 hb9=>?_;replace hd9:=za hd9 hb9;clear hb9;go_wp2_with fail;refine zK hK ⟨hd9,trivial⟩ (fun hHeld=>?_);clear hK K;refine zU 14 48 ?_;refine zU 15 49 ?_;refine zD ?_;clear hHeld;have hvz:=za hb hd9;have HOZ:=qH (ze HO.out hd9);clear hd9 HO hb e0 e1 e2 e3 e4 e5 f0 f1 f2 f3 q0;by_cases hkn:c'=j + 1
   · obtain rfl:m=j + 1:=by omega
     subst hkn;go_wp2_with fail;refine (rM ⟨g,0,none⟩ ((plN L).take (j + 1)) (j + 1) (j + 1) (qH (by rw [List.length_take,vT,HLL.out,Nat.min_eq_left (by omega)])) (by omega) V5 (by rw [<-qG];exact (Arr.own HOZ.out).take _)).mono ?_;rintro e W5 ⟨A2,c2,rfl,hown2',hb5⟩;have hfar:=zn hown2';have hgz:=yr HOZ.out g rfl;have hv5:=za hvz hb5;have hown2:=yF hown2' hvz.size;have hA3:Arr W5 (some ⟨g,0,none⟩) (zd zp ((plN L).drop (j + 1))):=by rw [List.drop_eq_nil_of_le (by rw [vT,HLL.out];omega)];exact Arr.nil _ _
     have l2:(zd zp ((plN L).drop (j + 1))).length=(0) * 1:=by
      have h:=ro ((plN L).drop (j + 1));rw [List.length_drop,vT,HLL.out] at h;omega
     clear hown2';go_wp2_with (at_builtin;first
      | (refine xI W5 #[.int .i64 i] rfl _ _ 58 2 rfl i0 _ 1 8 underlying58 hi0 hz0 hz1 hz2 rfl (by omega) W2.heap.size (.slice A2 (j + 1) c2) (j + 1) _ rfl rfl hown2 rfl (by simp [Value.oneCell']) (by unfold maxLen;omega) (by omega) hv5.size ?_;intro A4 c4 w4 hown4 hg4;have hA4:=hA3.grown hg4 (fun ad e=>by injection e with e;subst e;intro h;exact absurd (hfar g h.symm) (by omega));have hv4:=zi hv5 hg4 (zn hown2))
      | (refine xF _ rfl _ _ 58 2 rfl i0 _ 1 8 underlying58 hi0 hz0 hz1 hz2 rfl (by omega) W2.heap.size A4 ((j + 1) + 1) c4 _ rfl hown4 _ _ _ (zd zp ((plN L).drop (j + 1))) rfl hA4 l2 (tw _) (by unfold maxLen;omega) (by omega) hv4.size ?_;intro A6 c6 w6 hown6 hg6))
     obtain ⟨g6,hA6⟩:=xu hown6 (by omega);subst hA6;have e6:zd zp (plN (vd L (j + 1) (i,nv)))=zd zp ((plN L).take (j + 1)) ++ #[Value.int .i64 (i:Int)].toList ++ zd zp ((plN L).drop (j + 1)):=by rw [oJ,pi,ph,zY,List.append_assoc];rfl
     refine ⟨⟨i + 1,(j + 1) + 1,g6,c6,by omega,by omega,by go_num,by first | rfl | (congr 1;omega),qH (by rw [HRY.out,<-HKK.out,ru _ _ _ (by rw [HLL.out];omega),HLL.out]),qH ?_,zi hv4 hg6 (zn hown4)⟩,by simp [intOf];omega⟩;rw [HRY.out,<-HKK.out,e6]
     first | exact hown6 | (rw [show (j + 1) + 1=(j + 1) + 1 + (0) by omega];exact hown6)
   · have hkn2:¬ c' - (j + 1)=0:=by omega
     go_wp2_with fail;refine (rM ⟨g,0,none⟩ ((plN L).take (j + 1)) (j + 1) c' (qH (by rw [List.length_take,vT,HLL.out,Nat.min_eq_left (by omega)])) (by omega) V5 (by rw [<-qG];exact (Arr.own HOZ.out).take _)).mono ?_;rintro e W5 ⟨A2,c2,rfl,hown2',hb5⟩;have hfar:=zn hown2';have hgz:=yr HOZ.out g rfl;have hv5:=za hvz hb5;have hown2:=yF hown2' hvz.size;have hA3:Arr W5 (some ⟨g,(j + 1),none⟩) (zd zp ((plN L).drop (j + 1))):=zbX (Arr.own (ze HOZ.out hb5));have l2:(zd zp ((plN L).drop (j + 1))).length=(m - (j + 1)) * 1:=by
      have h:=ro ((plN L).drop (j + 1));rw [List.length_drop,vT,HLL.out] at h;omega
     clear hown2';go_wp2_with (at_builtin;first
      | (refine xI W5 #[.int .i64 i] rfl _ _ 58 2 rfl i0 _ 1 8 underlying58 hi0 hz0 hz1 hz2 rfl (by omega) W2.heap.size (.slice A2 (j + 1) c2) (j + 1) _ rfl rfl hown2 rfl (by simp [Value.oneCell']) (by unfold maxLen;omega) (by omega) hv5.size ?_;intro A4 c4 w4 hown4 hg4;have hA4:=hA3.grown hg4 (fun ad e=>by injection e with e;subst e;intro h;exact absurd (hfar g h.symm) (by omega));have hv4:=zi hv5 hg4 (zn hown2))
      | (refine xF _ rfl _ _ 58 2 rfl i0 _ 1 8 underlying58 hi0 hz0 hz1 hz2 rfl (by omega) W2.heap.size A4 ((j + 1) + 1) c4 _ rfl hown4 _ _ _ (zd zp ((plN L).drop (j + 1))) rfl hA4 l2 (tw _) (by unfold maxLen;omega) (by omega) hv4.size ?_;intro A6 c6 w6 hown6 hg6))
     obtain ⟨g6,hA6⟩:=xu hown6 (by omega);subst hA6;have e6:zd zp (plN (vd L (j + 1) (i,nv)))=zd zp ((plN L).take (j + 1)) ++ #[Value.int .i64 (i:Int)].toList ++ zd zp ((plN L).drop (j + 1)):=by rw [oJ,pi,ph,zY,List.append_assoc];rfl
     refine ⟨⟨i + 1,m + 1,g6,c6,by omega,by omega,by go_num,by first | rfl | (congr 1;omega),qH (by rw [HRY.out,<-HKK.out,ru _ _ _ (by rw [HLL.out];omega),HLL.out]),qH ?_,zi hv4 hg6 (zn hown4)⟩,by simp [intOf];omega⟩;rw [HRY.out,<-HKK.out,e6]
     first | exact hown6 | (rw [show m + 1=(j + 1) + 1 + (m - (j + 1)) by omega];exact hown6)
 case pos=>
  subst hkz;have HKK:=qH (show 0=ub by omega);have hmC:(m:Int)<=(c':Int):=by obtain ⟨_,_,e1,h1,_⟩:=wc HO.out;injection e1 with _ _ e3;omega
  have hmc:m<=c':=by omega
  go_upto_region 10 with fail;refine zH (fun w'=>Below wr.heap.size wr w'/\True) ?_ (fun hHeld=>?_)
  ·exact ⟨(Below.refl _ _).drew,trivial⟩
  have hd9:=hHeld.1;refine zU 0 34 ?_;refine zU 1 35 ?_;refine zU 2 36 ?_;refine zS 3 37 ?_;refine zS 4 38 ?_;refine zS 5 39 ?_;refine zS 6 40 ?_;refine zS 7 41 ?_;refine zS 8 42 ?_;refine zS 9 43 ?_;refine zS 10 44 ?_;refine zS 11 45 ?_;refine zS 13 47 ?_;refine zS 12 46 ?_;refine zS 14 48 ?_;refine zU 15 49 ?_;refine zD ?_;clear hHeld;have hvz:=za hb hd9;have HOZ:=qH (ze HO.out hd9);obtain ⟨V5,hV5⟩:=zN (World.drew wr);rw [<-hV5] at hvz HOZ |-;clear hV5 hd9 HO hb;by_cases hkn:c'=0
  · obtain rfl:m=0:=by omega
    subst hkn;go_wp2_with fail;refine (rM ⟨g,0,none⟩ ((plN L).take 0) 0 0 (qH (by rw [List.length_take,vT,HLL.out,Nat.min_eq_left (by omega)])) (by omega) V5 (by rw [<-qG];exact (Arr.own HOZ.out).take _)).mono ?_;rintro e W5 ⟨A2,c2,rfl,hown2',hb5⟩;have hfar:=zn hown2';have hgz:=yr HOZ.out g rfl;have hv5:=za hvz hb5;have hown2:=yF hown2' hvz.size;have hA3:Arr W5 (some ⟨g,0,none⟩) (zd zp ((plN L).drop 0)):=by rw [List.drop_eq_nil_of_le (by rw [vT,HLL.out];omega)];exact Arr.nil _ _
    have l2:(zd zp ((plN L).drop 0)).length=(0) * 1:=by
     have h:=ro ((plN L).drop 0);rw [List.length_drop,vT,HLL.out] at h;omega
    clear hown2';go_wp2_with (at_builtin;first
     | (refine xI W5 #[.int .i64 i] rfl _ _ 58 2 rfl i0 _ 1 8 underlying58 hi0 hz0 hz1 hz2 rfl (by omega) W2.heap.size (.slice A2 0 c2) 0 _ rfl rfl hown2 rfl (by simp [Value.oneCell']) (by unfold maxLen;omega) (by omega) hv5.size ?_;intro A4 c4 w4 hown4 hg4;have hA4:=hA3.grown hg4 (fun ad e=>by injection e with e;subst e;intro h;exact absurd (hfar g h.symm) (by omega));have hv4:=zi hv5 hg4 (zn hown2))
     | (refine xF _ rfl _ _ 58 2 rfl i0 _ 1 8 underlying58 hi0 hz0 hz1 hz2 rfl (by omega) W2.heap.size A4 (0 + 1) c4 _ rfl hown4 _ _ _ (zd zp ((plN L).drop 0)) rfl hA4 l2 (tw _) (by unfold maxLen;omega) (by omega) hv4.size ?_;intro A6 c6 w6 hown6 hg6))
    obtain ⟨g6,hA6⟩:=xu hown6 (by omega);subst hA6;have e6:zd zp (plN (vd L 0 (i,nv)))=zd zp ((plN L).take 0) ++ #[Value.int .i64 (i:Int)].toList ++ zd zp ((plN L).drop 0):=by rw [oJ,pi,ph,zY,List.append_assoc];rfl
    refine ⟨⟨i + 1,0 + 1,g6,c6,by omega,by omega,by go_num,by first | rfl | (congr 1;omega),qH (by rw [HRY.out,<-HKK.out,ru _ _ _ (by rw [HLL.out];omega),HLL.out]),qH ?_,zi hv4 hg6 (zn hown4)⟩,by simp [intOf];omega⟩;rw [HRY.out,<-HKK.out,e6]
    first | exact hown6 | (rw [show 0 + 1=0 + 1 + (0) by omega];exact hown6)
  · have hkn2:¬ c'=0:=hkn;go_wp2_with fail;refine (rM ⟨g,0,none⟩ ((plN L).take 0) 0 c' (qH (by rw [List.length_take,vT,HLL.out,Nat.min_eq_left (by omega)])) (by omega) V5 (by rw [<-qG];exact (Arr.own HOZ.out).take _)).mono ?_;rintro e W5 ⟨A2,c2,rfl,hown2',hb5⟩;have hfar:=zn hown2';have hgz:=yr HOZ.out g rfl;have hv5:=za hvz hb5;have hown2:=yF hown2' hvz.size;have hA3:Arr W5 (some ⟨g,0,none⟩) (zd zp ((plN L).drop 0)):=zbX (Arr.own (ze HOZ.out hb5));have l2:(zd zp ((plN L).drop 0)).length=(m - 0) * 1:=by
     have h:=ro ((plN L).drop 0);rw [List.length_drop,vT,HLL.out] at h;omega
    clear hown2';go_wp2_with (at_builtin;first
     | (refine xI W5 #[.int .i64 i] rfl _ _ 58 2 rfl i0 _ 1 8 underlying58 hi0 hz0 hz1 hz2 rfl (by omega) W2.heap.size (.slice A2 0 c2) 0 _ rfl rfl hown2 rfl (by simp [Value.oneCell']) (by unfold maxLen;omega) (by omega) hv5.size ?_;intro A4 c4 w4 hown4 hg4;have hA4:=hA3.grown hg4 (fun ad e=>by injection e with e;subst e;intro h;exact absurd (hfar g h.symm) (by omega));have hv4:=zi hv5 hg4 (zn hown2))
     | (refine xF _ rfl _ _ 58 2 rfl i0 _ 1 8 underlying58 hi0 hz0 hz1 hz2 rfl (by omega) W2.heap.size A4 (0 + 1) c4 _ rfl hown4 _ _ _ (zd zp ((plN L).drop 0)) rfl hA4 l2 (tw _) (by unfold maxLen;omega) (by omega) hv4.size ?_;intro A6 c6 w6 hown6 hg6))
    obtain ⟨g6,hA6⟩:=xu hown6 (by omega);subst hA6;have e6:zd zp (plN (vd L 0 (i,nv)))=zd zp ((plN L).take 0) ++ #[Value.int .i64 (i:Int)].toList ++ zd zp ((plN L).drop 0):=by rw [oJ,pi,ph,zY,List.append_assoc];rfl
    refine ⟨⟨i + 1,m + 1,g6,c6,by omega,by omega,by go_num,by first | rfl | (congr 1;omega),qH (by rw [HRY.out,<-HKK.out,ru _ _ _ (by rw [HLL.out];omega),HLL.out]),qH ?_,zi hv4 hg6 (zn hown4)⟩,by simp [intOf];omega⟩;rw [HRY.out,<-HKK.out,e6]
    first | exact hown6 | (rw [show m + 1=0 + 1 + (m - 0) by omega];exact hown6)
end Go.Proofs.YtpiehlfffjhoaaaGreatDoor
