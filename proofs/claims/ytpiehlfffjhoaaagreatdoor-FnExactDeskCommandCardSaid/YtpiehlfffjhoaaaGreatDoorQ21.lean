/- Lemmas for the law on the console: the parts CoA,LogE,LogF,LogH,LogI. -/
import Derived.Test.YtpiehlfffjhoaaaGreatDoorQ20
namespace Go.Proofs.YtpiehlfffjhoaaaGreatDoor
open Go.RowKit Go.Proofs.Tryz
set_option maxRecDepth 100000
set_option maxHeartbeats 4000000
def nl(xs:List Last)(f:Foot)(lo hi gi:Int):Int × Int:=match oA f lo hi gi none 0 xs with
 | some (k,_)=>((k:Int),0)
 | none=>(0,10)
theorem zcb{xs:List Last}{f:Foot}{lo hi gi:Int}(h:yV f lo hi gi 0 xs=[]):nl xs f lo hi gi=(0,10):=by
 unfold nl;rw [ul,h];rfl
theorem zaz{xs:List Last}{f:Foot}{lo hi gi:Int}{p:Nat × Int}{l:List (Nat × Int)}(h:yV f lo hi gi 0 xs=p :: l) :
 ∃ (k v:Nat),rq (uS (l.map (·.2)) p.2) (tQ (p :: l)) 0=(k:Int)/\(qJ (p :: l))[k]?=some (v:Int)/\nl xs f lo hi gi=((v:Int),0):=by
 obtain ⟨q,h1,_⟩:=rJ l p;obtain ⟨k,h2,h3⟩:=bj l p q h1;refine ⟨k,q.1,h2,by unfold qJ;rw [List.getElem?_map,h3];rfl,?_⟩;unfold nl;rw [ul,h,List.foldl_cons];have e:wt none p=some p:=rfl;rw [e,h1]
theorem zap{xs:List Last}{f:Foot}{lo hi gi:Int}(h1:yx xs=true)(h2:ym f=true)(h3:va lo hi gi=true):xE xs f lo hi gi=nl xs f lo hi gi:=by
 unfold xE;rw [h1,h2,h3];rfl
theorem zao{xs:List Last}{f:Foot}{lo hi gi:Int}(h1:yx xs=false):xE xs f lo hi gi=(0,1):=by
 unfold xE;rw [h1];rfl
theorem cr{xs:List Last}{f:Foot}{lo hi gi:Int}(h1:ym f=false):xE xs f lo hi gi=(0,1):=by
 unfold xE;rw [h1,Bool.false_and,Bool.and_false];rfl
theorem kS{xs:List Last}{f:Foot}{lo hi gi:Int}(h1:va lo hi gi=false):xE xs f lo hi gi=(0,1):=by
 unfold xE;rw [h1,Bool.and_false,Bool.and_false];rfl
theorem eM(A:Option Addr)(xs:List Last)(n c:Nat)(f:Foot)(lo hi gi:Int)(gw gf:Nat)(hn:Hid (xs.length=n))(hm:n<=30)(HLS:Hid (∀ x ∈ xs,zy x=true))(HF:Hid (ym f=true))(HT:Hid (va lo hi gi=true))(w:World)(hA:Arr w A (zd Last.cells xs))(hB:Blk w gw 2 #[.int .i64 1,.int .i64 1,.int .i64 1,.int .i64 1])(hG:Blk w gf 27 (cF f)) :
 Calls prog 131 #[.slice A n c,.agg #[.int .i64 lo,.int .i64 hi,.int .i64 gi,.slice (some ⟨gw,0,none⟩) 4 4],.slice (some ⟨gf,0,none⟩) 1 1] w (RetT #[.int .i64 (nl xs f lo hi gi).1,.int .i64 (nl xs f lo hi gi).2] w):=by
 obtain ⟨W,hW⟩:=zN (w.alloc (Obj.cells #[.int .i64 lo,.int .i64 hi,.int .i64 gi,.slice (some ⟨gw,0,none⟩) 4 4] 120));obtain ⟨gt,hgt⟩:=zN w.heap.size;have hv:Below w.heap.size w W:=by rw [hW];exact zc (Below.refl _ _) _
 have HTB:Hid (Blk W gt 120 #[.int .i64 lo,.int .i64 hi,.int .i64 gi,.slice (some ⟨gw,0,none⟩) 4 4]):=qH (by rw [hW,hgt];exact Blk.new _ _ _);have HAL:=qH (cj A xs n c f lo hi gi gw gf hn hm HLS HF HT W (hA.below hv) (hB.below hv) (hG.below hv));have HW:=qH hW;have HGT:=qH hgt;clear hW hgt hA hB hG;go_in;go_upto_region 1 with fail;rw [<-HW.out,<-HGT.out];clear HW HGT;go_wp2_with (refine yL gt HTB.out underlying120 ?_)
 refine HAL.out.mono ?_;rintro e V ⟨g1,g2,m,c1,c2,rfl,hmm,hA1,hA2,hb⟩;have hv2:Below w.heap.size w V:=za hv hb;have hm30:m<=30:=by
  have h1:=la f lo hi gi xs 0;have h2:=hn.out;omega
 clear HAL hb HTB hv;cases hq:yV f lo hi gi 0 xs with
 | nil=>
   rw [hq] at hmm;obtain rfl:m=0:=hmm.symm;have HR:=qH (zcb hq);clear hq hA1 hA2;go_wp2;go_returns;exact RetT.mk (by rw [HR.out];rfl) hv2
 | cons p l=>
   obtain ⟨k,v,e1,e2,e3⟩:=zaz hq;have HR:=qH e3;rw [hq] at hmm hA1 hA2;have hm1:1<=m:=by rw [<-hmm];simp
   have hm0:¬ (m:Int)=0:=by omega
   have hkm:k < m:=by
    have h:=(List.getElem?_eq_some_iff.1 e2).1;unfold qJ at h;rw [List.length_map,hmm] at h;exact h
   have hlc:Hid ((tQ (p :: l)).length=m):=qH (by unfold tQ;rw [List.length_map];exact hmm);have ek:(tQ (p :: l))=p.2 :: l.map (·.2):=rfl;obtain ⟨mn,hmn⟩:=zN (uS (l.map (·.2)) p.2);have HMIN:=qH (fun (w:World) (h:Arr w (some ⟨g2,0,none⟩) (zd zp (tQ (p :: l))))=>zdj (some ⟨g2,0,none⟩) p.2 (l.map (fun q:Nat × Int=>q.2)) m c2 hlc (by omega) w h);have HIDX:=qH (fun (w:World) (h:Arr w (some ⟨g2,0,none⟩) (zd zp (tQ (p :: l))))=>zdi (some ⟨g2,0,none⟩) (tQ (p :: l)) m c2 mn hlc (by omega) w h);rw [<-hmn] at HMIN e1;rw [e1] at HIDX;obtain ⟨ad,had,_,v0⟩:=yn hA1 e2;injection had with had;subst had;have HV:=qH e2;have HA1:=qH hA1;have HA2:=qH hA2;have hk0:(0:Int)<=(k:Int):=by omega
   have hk1:(k:Int) < (m:Int):=by omega
   clear hq hA1 hA2 hmm ek e1 e2 e3 hmn hlc v0;go_wp2_with fail;refine qS (HMIN.out _ HA2.out) fun V2 hb=>?_;replace hv2:=za hv2 hb;replace HA1:=qH (HA1.out.below hb);replace HA2:=qH (HA2.out.below hb);clear hb;go_wp2_with fail;refine qS (HIDX.out _ HA2.out) fun V3 hb=>?_;replace hv2:=za hv2 hb;replace HA1:=qH (HA1.out.below hb);clear hb HMIN HIDX HA2;obtain ⟨ad,had,_,v0⟩:=yn HA1.out HV.out;injection had with had;subst had;rw [show (⟨g1,0,none⟩:Addr).add k=⟨g1,k,none⟩ by unfold Addr.add;split <;> simp_all] at v0;go_wp2;go_returns;exact RetT.mk (by rw [HR.out];rfl) hv2
theorem ei(A:Option Addr)(xs:List Last)(n c:Nat)(f:Foot)(lo hi gi:Int)(gw:Nat)(hn:Hid (xs.length=n))(hm:(n:Int)<=1048576)(hs:Hid (∀ x ∈ xs,x.name.size<=9223372036854775807))(w:World)(hA:Arr w A (zd Last.cells xs))(hB:Blk w gw 2 #[.int .i64 1,.int .i64 1,.int .i64 1,.int .i64 1]) :
 Calls prog 75 #[.slice A n c,.agg #[.int .i64 f.length,.int .i64 f.b,.int .i64 f.i,.int .i64 f.h],.agg #[.int .i64 lo,.int .i64 hi,.int .i64 gi,.slice (some ⟨gw,0,none⟩) 4 4]] w (RetT #[.int .i64 (xE xs f lo hi gi).1,.int .i64 (xE xs f lo hi gi).2] w):=by
 obtain ⟨gf,hgf⟩:=zN w.heap.size;obtain ⟨gt,hgt⟩:=zN (w.heap.size + 1);obtain ⟨W,hW⟩:=zN ((w.alloc (Obj.cells (cF f) 27)).alloc (Obj.cells #[.int .i64 lo,.int .i64 hi,.int .i64 gi,.slice (some ⟨gw,0,none⟩) 4 4] 120));have hv:Below w.heap.size w W:=by rw [hW];exact zc (zc (Below.refl _ _) _) _
 have HF1:Hid (Blk W gf 27 (cF f)):=qH (by rw [hW,hgf];exact (Blk.new w _ _).alloc _);have HT1:Hid (Blk W gt 120 #[.int .i64 lo,.int .i64 hi,.int .i64 gi,.slice (some ⟨gw,0,none⟩) 4 4]):=qH (by
  have h:=Blk.new (w.alloc (Obj.cells (cF f) 27)) 120 #[Value.int .i64 lo,Value.int .i64 hi,Value.int .i64 gi,Value.slice (some ⟨gw,0,none⟩) 4 4];rw [World.size_alloc] at h;rw [hW,hgt];exact h)
 have HA:=qH (hA.below hv);have HB:=qH (hB.below hv);have HW:=qH hW;have G1:=qH hgf;have G2:=qH hgt;clear hW hgf hgt hA hB;go_in;go_upto_region 1 with fail;rw [<-HW.out,<-G2.out,<-G1.out];clear HW G1 G2;have H1:=qH (fun w h=>ti A xs n c hn hm hs w h);have H2:=qH (fun w=>uA f w);have H3:=qH (fun w h=>ew lo hi gi gw w h);have HR0:=qH (fun h1=>zao (xs:=xs) (f:=f) (lo:=lo) (hi:=hi) (gi:=gi) h1);have HR1:=qH (fun h1=>cr (xs:=xs) (f:=f) (lo:=lo) (hi:=hi) (gi:=gi) h1);have HR2:=qH (fun h1=>kS (xs:=xs) (f:=f) (lo:=lo) (hi:=hi) (gi:=gi) h1);have HR3:=qH (fun h1 h2 h3=>zap (xs:=xs) (f:=f) (lo:=lo) (hi:=hi) (gi:=gi) h1 h2 h3);have HL3:=qH (fun h1=>xc (xs:=xs) h1);obtain ⟨b1,e1⟩:=zN (yx xs);obtain ⟨b2,e2⟩:=zN (ym f);obtain ⟨b3,e3⟩:=zN (va lo hi gi);rw [<-e1] at H1;rw [<-e2] at H2;rw [<-e3] at H3;have E1:=qH e1;have E2:=qH e2;have E3:=qH e3;clear e1 e2 e3;go_wp2_with (first | (refine yL gf HF1.out underlying27 ?_) | (refine yL gt HT1.out underlying120 ?_))
 refine qS (H1.out _ HA.out) fun Z1 hb=>?_;replace hv:=za hv hb;replace HA:=qH (HA.out.below hb);replace HB:=qH (HB.out.below hb);replace HF1:=qH (HF1.out.below hb);replace HT1:=qH (HT1.out.below hb);clear hb;cases b1
 · have HR:=qH (HR0.out E1.out.symm);go_wp2_with (first | (refine yL gf HF1.out underlying27 ?_) | (refine yL gt HT1.out underlying120 ?_))
   go_returns;exact RetT.mk (by rw [HR.out];rfl) hv
 have c0:=yc0 HF1.out;have c1:=yc1 HF1.out;have c2:=yc2 HF1.out;have c3:=yc3 HF1.out;go_wp2_with fail;refine qS (H2.out _) fun Z2 hb=>?_;replace hv:=za hv hb;replace HA:=qH (HA.out.below hb);replace HB:=qH (HB.out.below hb);replace HF1:=qH (HF1.out.below hb);replace HT1:=qH (HT1.out.below hb);clear hb;cases b2
 · have HR:=qH (HR1.out E2.out.symm);go_wp2_with (first | (refine yL gf HF1.out underlying27 ?_) | (refine yL gt HT1.out underlying120 ?_))
   go_returns;exact RetT.mk (by rw [HR.out];rfl) hv
 clear c0 c1 c2 c3;have c0:=yc0 HT1.out;have c1:=yc1 HT1.out;have c2:=yc2 HT1.out;have c3:=yc3 HT1.out;go_wp2_with fail;refine qS (H3.out _ HB.out) fun Z3 hb=>?_;replace hv:=za hv hb;replace HA:=qH (HA.out.below hb);replace HB:=qH (HB.out.below hb);replace HF1:=qH (HF1.out.below hb);replace HT1:=qH (HT1.out.below hb);clear hb;cases b3
 · have HR:=qH (HR2.out E3.out.symm);go_wp2_with (first | (refine yL gf HF1.out underlying27 ?_) | (refine yL gt HT1.out underlying120 ?_))
   go_returns;exact RetT.mk (by rw [HR.out];rfl) hv
 clear c0 c1 c2 c3;have HR:=qH (HR3.out E1.out.symm E2.out.symm E3.out.symm);have hn30:n<=30:=by
  have h1:=wj E1.out.symm;have h2:=hn.out;omega
 have HCH:=qH (fun gy w h1 h2 h3=>eM A xs n c f lo hi gi gw gy hn hn30 (qH (HL3.out E1.out.symm)) (qH E2.out.symm) (qH E3.out.symm) w h1 h2 h3);clear H1 H2 H3 HR0 HR1 HR2 HR3 HL3 E1 E2 E3;go_wp2_with (first | (refine yL gf HF1.out underlying27 ?_) | (refine yL gt HT1.out underlying120 ?_) | (refine (HCH.out _ _ (HA.out.alloc _) (HB.out.alloc _) (Blk.new _ _ _)).mono ?_;rintro e Z4 ⟨rfl,hb⟩))
 have hb2:Below Z3.heap.size Z3 Z4:=za (zc (Below.refl _ _) _) hb;replace hv:=za hv hb2;go_wp2;go_returns;exact RetT.mk (by rw [HR.out];rfl) hv
theorem re(s:ByteArray):(rdL s).1.length<=s.size:=Nat.le_trans (vO s).few (vO s).le
theorem vo{s:ByteArray}(h:cdL s=0):s.size<=4000:=by
 unfold cdL at h;split at h
 ·cases h
 ·omega
def sB(s:ByteArray)(es:List Entry)(st:Int)(x:Entry):ByteArray × Int:=
 if xa x=true then (if x.day < xx es then (⟨#[]⟩,6) else (if 4000 < (s ++ yI (stp st x) x).size then (⟨#[]⟩,5) else (s ++ yI (stp st x) x,0))) else (⟨#[]⟩,7)
def xK(s:ByteArray)(x:Entry):ByteArray × Int:=if cdL s=0 then sB s (rdL s).1 (rdL s).2.1 x else (⟨#[]⟩,cdL s)
theorem mI{s:ByteArray}{x:Entry}{es:List Entry}{st:Int}{n:Nat}(h:cdL s=0)(hr:rdL s=(es,st,n)):xK s x=sB s es st x:=by unfold xK;rw [if_pos h,hr]
theorem fx{s:ByteArray}{x:Entry}(h:¬ cdL s=0):xK s x=(⟨#[]⟩,cdL s):=by unfold xK;rw [if_neg h]
section
variable {s:ByteArray} {es:List Entry} {st:Int} {x:Entry}
theorem nh(h:xa x=false):sB s es st x=(⟨#[]⟩,7):=by unfold sB;rw [if_neg (by simp [h])]
theorem nf(h:xa x=true)(h2:x.day < xx es):sB s es st x=(⟨#[]⟩,6):=by unfold sB;rw [if_pos h,if_pos h2]
theorem qz(h:xa x=true)(h2:¬ x.day < xx es)(h3:4000 < (s ++ yI (stp st x) x).size):sB s es st x=(⟨#[]⟩,5):=by unfold sB;rw [if_pos h,if_neg h2,if_pos h3]
theorem qA(h:xa x=true)(h2:¬ x.day < xx es)(h3:¬ 4000 < (s ++ yI (stp st x) x).size):sB s es st x=(s ++ yI (stp st x) x,0):=by unfold sB;rw [if_pos h,if_neg h2,if_neg h3]
end
theorem zb7(s:ByteArray)(hs:s.size<=1048576)(A:Option Addr)(es:List Entry)(m c:Nat)(st:Int)(n:Nat)(x:Entry)(hxs:x.what.size<=9223372036854775807)(hm:Hid (es.length=m))(hmb:m<=1048576)(hs0:0<=st)(hs1:st<=65518)(w:World)(hA:Arr w A (zd Entry.cells es))(hT:Tabs w) :
 Calls prog 144 #[.string s,.agg #[.slice A m c,.int .i64 st,.int .i64 n],.agg #[.int .i64 x.day,.string x.what,.int .i64 x.value]] w (RetT #[.string (sB s es st x).1,.int .i64 (sB s es st x).2] w):=by
 have HT:=qH hT;clear hT;obtain ⟨W0,hW0⟩:=zN ((w.alloc (Obj.cells #[.slice A m c,.int .i64 st,.int .i64 n] 146)).alloc (Obj.cells #[.int .i64 x.day,.string x.what,.int .i64 x.value] 141));obtain ⟨gO,hgO⟩:=zN w.heap.size;obtain ⟨gX,hgX⟩:=zN (w.heap.size + 1);have hv:Below w.heap.size w W0:=by rw [hW0];exact zc (zc (Below.refl _ _) _) _
 have hO:Blk W0 gO 146 #[.slice A m c,.int .i64 st,.int .i64 n]:=by rw [hW0,hgO];exact (Blk.new _ _ _).alloc _
 have hX:Blk W0 gX 141 #[.int .i64 x.day,.string x.what,.int .i64 x.value]:=by
  rw [hW0,hgX,show w.heap.size + 1=(w.alloc (Obj.cells #[.slice A m c,.int .i64 st,.int .i64 n] 146)).heap.size from by simp];exact Blk.new _ _ _
 have HW0:=qH hW0;have HGO:=qH hgO;have HGX:=qH hgX;clear hW0 hgO hgX;go_in;go_wp2_with fail;rw [<-HW0.out,<-HGX.out,<-HGO.out];refine qS (pC x hxs _) fun W hb=>?_;replace hv:=za hv hb;replace hO:=hO.below hb;replace hX:=hX.below hb;clear hb;cases hx:xa x
 ·have HR:=qH (nh (s:=s) (es:=es) (st:=st) hx);clear hx;go_wp2;go_returns;exact RetT.mk (by rw [HR.out];rfl) hv
 have HX:=qH hx;clear hx;go_wp2_with fail;replace hv:Below w.heap.size w W.drew:=hv.drew;replace hO:=hO.below (Below.refl W.heap.size W).drew;replace hX:=hX.below (Below.refl W.heap.size W).drew;by_cases hm0:m=0
 · have hd0:decide (0 < (m:Int))=false:=decide_eq_false (by omega);have HD:=qH (show ¬ x.day < xx es by rw [show es=[] from List.eq_nil_of_length_eq_zero (by rw [hm.out];exact hm0)];have:=(uo HX.out).1;simp [xx];omega);have hm1:¬ 0 < m:=by omega
   clear hm0;refine zH (fun w'=>Blk w' gO 146 #[.slice A m c,.int .i64 st,.int .i64 n]/\Blk w' gX 141 #[Value.int .i64 x.day,Value.string x.what,Value.int .i64 x.value]) ?_ (fun hHeld=>?_)
   ·exact ⟨hO,hX⟩
   refine zU 0 17 ?_;refine zU 1 18 ?_;refine zU 2 19 ?_;refine zS 3 20 ?_;refine zS 4 21 ?_;refine zS 5 22 ?_;refine zS 6 23 ?_;refine zS 7 24 ?_;refine zS 8 25 ?_;refine zS 9 26 ?_;refine zS 10 27 ?_;refine zS 11 28 ?_;refine zS 12 29 ?_;refine zU 13 30 ?_;refine zU 14 16 ?_;refine zD ?_;clear hHeld;obtain ⟨t0,t1⟩:=rB st x;have z1:=vA HX.out;have hlz:=qZ HX.out (stp st x) t0 t1;have hwd:=qH (fun w hT=>oN x HX.out w hT);have hst:Hid (∀ w,Pow10 w->Calls prog 146 #[.int .i64 st,.agg #[.int .i64 x.day,.string x.what,.int .i64 x.value]] w (Ret (.int .i64 (stp st x)) w)):=qH (fun w hT=>rU st x hs0 hs1 HX.out w hT);have HB0:s ++ yI (stp st x) x=s ++ (yd x ++ ⟨#[32]⟩ ++ zm (stp st x) ++ ⟨#[10]⟩):=rfl;obtain ⟨sv,hsv⟩:=zN (stp st x);obtain ⟨wd,hwd2⟩:=zN (yd x);rw [<-hsv,<-hwd2] at HB0;rw [<-hsv] at hst t0 t1 hlz;rw [<-hwd2] at hwd z1;have z2:=wk sv;have z3:(ByteArray.mk #[32]).size=1:=rfl;have z4:(ByteArray.mk #[10]).size=1:=rfl;obtain ⟨b,hb0⟩:=zN (s ++ (wd ++ ⟨#[32]⟩ ++ zm sv ++ ⟨#[10]⟩));have hadd1:=fun (w:World)=>run_string_add_sum (P:=prog) w wd ⟨#[32]⟩ (by omega);have hadd2:=fun (w:World)=>run_string_add_sum (P:=prog) w (wd ++ ⟨#[32]⟩) (zm sv) (by rw [ByteArray.size_append'];omega);have hadd3:=fun (w:World)=>run_string_add_sum (P:=prog) w (wd ++ ⟨#[32]⟩ ++ zm sv) ⟨#[10]⟩ (by rw [ByteArray.size_append',ByteArray.size_append'];omega);have hadd4:=fun (w:World)=>run_string_add_sum (P:=prog) w s (wd ++ ⟨#[32]⟩ ++ zm sv ++ ⟨#[10]⟩) (by rw [ByteArray.size_append',ByteArray.size_append',ByteArray.size_append'];omega);have hbz:b.size<=9223372036854775807:=by rw [hb0];simp only [ByteArray.size_append'];omega
   rw [<-hb0] at hadd4 HB0;have HB:Hid (s ++ yI (stp st x) x=b):=qH (by rw [<-hsv];exact HB0);have ht0:-1000000000000000000<=sv:=by omega
   have ht1:sv<=1000000000000000000:=by omega
   clear hsv hwd2 HB0 hb0 z1 z2 z3 z4 hlz;go_wp2_with fail;replace hv:Below w.heap.size w W.drew.drew:=hv.drew;replace hO:=hO.below (Below.refl W.drew.heap.size W.drew).drew;replace hX:=hX.below (Below.refl W.drew.heap.size W.drew).drew;refine zH (fun w'=>Blk w' gO 146 #[.slice A m c,.int .i64 st,.int .i64 n]/\Blk w' gX 141 #[Value.int .i64 x.day,Value.string x.what,Value.int .i64 x.value]) ?_ (fun hHeld=>?_)
   ·exact ⟨hO,hX⟩
   refine zU 0 31 ?_;refine zT 1 32 rfl (fun w hSw=>by
    have o0:=yc0 hSw.1;have o1:=yc1 hSw.1;have o2:=yc2 hSw.1;have x0:=yc0 hSw.2;have x1:=yc1 hSw.2;have x2:=yc2 hSw.2;go_simp;try with_reducible rfl) ?_
   refine zU 4 35 ?_;refine zT 5 36 rfl (fun w hSw=>by
    have o0:=yc0 hSw.1;have o1:=yc1 hSw.1;have o2:=yc2 hSw.1;have x0:=yc0 hSw.2;have x1:=yc1 hSw.2;have x2:=yc2 hSw.2;go_simp;try with_reducible rfl) ?_
   refine zT 6 37 rfl (fun w hSw=>by
    have o0:=yc0 hSw.1;have o1:=yc1 hSw.1;have o2:=yc2 hSw.1;have x0:=yc0 hSw.2;have x1:=yc1 hSw.2;have x2:=yc2 hSw.2;go_simp;try with_reducible rfl) ?_
   refine zR 2 (some 33) rfl (fun K hK=>?_);go_simp;go_split_ands;refine qS (hwd.out _ (HT.out.below hv).pow) fun W2 hb=>?_;replace hv:=za hv hb;replace hO:=hO.below hb;replace hX:=hX.below hb;clear hb;go_wp2_with fail;refine zK hK ⟨hO,hX⟩ (fun hHeld=>?_);clear hK K;refine zU 3 34 ?_;refine zR 7 (some 38) rfl (fun K hK=>?_);go_simp;go_split_ands;refine qS (hst.out _ (HT.out.below hv).pow) fun W3 hb=>?_;replace hv:=za hv hb;replace hO:=hO.below hb;replace hX:=hX.below hb;clear hb;go_wp2_with fail;refine zK hK ⟨hO,hX⟩ (fun hHeld=>?_);clear hK K;refine zR 8 (some 39) rfl (fun K hK=>?_);go_simp;go_split_ands;refine qS (xp sv (by omega) (by omega) _ (HT.out.below hv).pow) fun W4 hb=>?_;replace hv:=za hv hb;replace hO:=hO.below hb;replace hX:=hX.below hb;clear hb;go_wp2_with fail;refine zK hK ⟨hO,hX⟩ (fun hHeld=>?_);clear hK K;refine zU 9 40 ?_;refine zU 10 41 ?_;refine zU 11 42 ?_;refine zU 12 0 ?_;(try simp only [Act.put,List.setIfInBounds_toArray,List.set_cons_zero]);refine zD ?_;clear hHeld hadd1 hadd2 hadd3 hadd4;by_cases hbig:4000 < (b.size:Int)
   ·have HR:=qH (qz (s:=s) (es:=es) (st:=st) HX.out (by have h:=HD.out;omega) (by rw [HB.out];omega));go_wp2;go_returns;exact RetT.mk (by rw [HR.out];rfl) hv
   ·have HR:=qH (qA (s:=s) (es:=es) (st:=st) HX.out (by have h:=HD.out;omega) (by rw [HB.out];omega));have hbd:decide (4000 < (b.size:Int))=false:=decide_eq_false hbig;go_wp2;go_returns;exact RetT.mk (by rw [HR.out,HB.out];rfl) hv
 obtain ⟨j,rfl⟩:∃ j,m=j + 1:=⟨m - 1,by omega⟩
 obtain ⟨y,hy⟩:=zx (xs:=es) (k:=j) (by rw [hm.out];omega);obtain ⟨ad,rfl,hab,hY,_,_⟩:=Entry.at_ (hA.below hv) hy;have HLD:=qH (nz hm.out hy);have hd0:decide (0 < ((j + 1:Nat):Int))=true:=decide_eq_true (by omega);have hm1:0 < j + 1:=by omega
 have hj0:(0:Int)<=(j:Int):=by omega
 have hj1:(j:Int) < ((j + 1:Nat):Int):=by omega
 have hj2:((j:Int)).toNat=j:=by omega
 have hj3:(j:Int) < (j:Int) + 1:=by omega
 have HW2:=qH (show IntKind.i64.wrap (j:Int)=(j:Int) from IntWalk.i64_in _ (by omega));have HW1:=qH (show IntKind.i64.wrap (((j + 1:Nat):Int) - 1)=(j:Int) from IntWalk.i64_in _ (by omega) |>.trans (by omega));clear hm0 hy;by_cases hyd:x.day < y.day
 · have hdd:decide (x.day < y.day)=true:=decide_eq_true hyd;have HR:=qH (nf (s:=s) (es:=es) (st:=st) HX.out (by rw [HLD.out];exact hyd));have hw1:=HW1.out;have hw2:=HW2.out;refine zH (fun w'=>Blk w' gO 146 #[.slice (some ad) (j + 1) c,.int .i64 st,.int .i64 n]/\Blk w' gX 141 #[Value.int .i64 x.day,Value.string x.what,Value.int .i64 x.value]/\w'.cell? (ad.add (j * 3))=some (.int .i64 y.day)) ?_ (fun hHeld=>?_)
   ·exact ⟨hO,hX,hY⟩
   refine zU 0 17 ?_;refine zU 1 18 ?_;refine zU 2 19 ?_;refine zU 3 20 ?_;refine zT 4 21 rfl (fun w hSw=>by
    have o0:=yc0 hSw.1;have o1:=yc1 hSw.1;have o2:=yc2 hSw.1;have x0:=yc0 hSw.2.1;have x1:=yc1 hSw.2.1;have x2:=yc2 hSw.2.1;have y0:=hSw.2.2;go_simp;try with_reducible rfl) ?_
   refine zU 5 22 ?_;refine zU 6 23 ?_;refine zU 7 24 ?_;refine zU 8 25 ?_;refine zT 9 26 rfl (fun w hSw=>by
    have o0:=yc0 hSw.1;have o1:=yc1 hSw.1;have o2:=yc2 hSw.1;have x0:=yc0 hSw.2.1;have x1:=yc1 hSw.2.1;have x2:=yc2 hSw.2.1;have y0:=hSw.2.2;go_simp;try with_reducible rfl) ?_
   refine zU 10 27 ?_;refine zT 11 28 rfl (fun w hSw=>by
    have o0:=yc0 hSw.1;have o1:=yc1 hSw.1;have o2:=yc2 hSw.1;have x0:=yc0 hSw.2.1;have x1:=yc1 hSw.2.1;have x2:=yc2 hSw.2.1;have y0:=hSw.2.2;go_simp;try with_reducible rfl) ?_
   refine zU 12 29 ?_;refine zU 13 30 ?_;refine zU 14 16 ?_;refine zD ?_;clear hHeld;clear hw1 hw2;go_wp2;go_returns;exact RetT.mk (by rw [HR.out];rfl) hv
 have hdd:decide (x.day < y.day)=false:=decide_eq_false hyd;have HD:=qH (show ¬ x.day < xx es by rw [HLD.out];exact hyd);have hw1:=HW1.out;have hw2:=HW2.out;refine zH (fun w'=>Blk w' gO 146 #[.slice (some ad) (j + 1) c,.int .i64 st,.int .i64 n]/\Blk w' gX 141 #[Value.int .i64 x.day,Value.string x.what,Value.int .i64 x.value]/\w'.cell? (ad.add (j * 3))=some (.int .i64 y.day)) ?_ (fun hHeld=>?_)
 ·exact ⟨hO,hX,hY⟩
 refine zU 0 17 ?_;refine zU 1 18 ?_;refine zU 2 19 ?_;refine zU 3 20 ?_;refine zT 4 21 rfl (fun w hSw=>by
  have o0:=yc0 hSw.1;have o1:=yc1 hSw.1;have o2:=yc2 hSw.1;have x0:=yc0 hSw.2.1;have x1:=yc1 hSw.2.1;have x2:=yc2 hSw.2.1;have y0:=hSw.2.2;go_simp;try with_reducible rfl) ?_
 refine zU 5 22 ?_;refine zU 6 23 ?_;refine zU 7 24 ?_;refine zU 8 25 ?_;refine zT 9 26 rfl (fun w hSw=>by
  have o0:=yc0 hSw.1;have o1:=yc1 hSw.1;have o2:=yc2 hSw.1;have x0:=yc0 hSw.2.1;have x1:=yc1 hSw.2.1;have x2:=yc2 hSw.2.1;have y0:=hSw.2.2;go_simp;try with_reducible rfl) ?_
 refine zU 10 27 ?_;refine zT 11 28 rfl (fun w hSw=>by
  have o0:=yc0 hSw.1;have o1:=yc1 hSw.1;have o2:=yc2 hSw.1;have x0:=yc0 hSw.2.1;have x1:=yc1 hSw.2.1;have x2:=yc2 hSw.2.1;have y0:=hSw.2.2;go_simp;try with_reducible rfl) ?_
 refine zU 12 29 ?_;refine zU 13 30 ?_;refine zU 14 16 ?_;refine zD ?_;clear hHeld;clear hw1 hw2;obtain ⟨t0,t1⟩:=rB st x;have z1:=vA HX.out;have hlz:=qZ HX.out (stp st x) t0 t1;have hwd:=qH (fun w hT=>oN x HX.out w hT);have hst:Hid (∀ w,Pow10 w->Calls prog 146 #[.int .i64 st,.agg #[.int .i64 x.day,.string x.what,.int .i64 x.value]] w (Ret (.int .i64 (stp st x)) w)):=qH (fun w hT=>rU st x hs0 hs1 HX.out w hT);have HB0:s ++ yI (stp st x) x=s ++ (yd x ++ ⟨#[32]⟩ ++ zm (stp st x) ++ ⟨#[10]⟩):=rfl;obtain ⟨sv,hsv⟩:=zN (stp st x);obtain ⟨wd,hwd2⟩:=zN (yd x);rw [<-hsv,<-hwd2] at HB0;rw [<-hsv] at hst t0 t1 hlz;rw [<-hwd2] at hwd z1;have z2:=wk sv;have z3:(ByteArray.mk #[32]).size=1:=rfl;have z4:(ByteArray.mk #[10]).size=1:=rfl;obtain ⟨b,hb0⟩:=zN (s ++ (wd ++ ⟨#[32]⟩ ++ zm sv ++ ⟨#[10]⟩));have hadd1:=fun (w:World)=>run_string_add_sum (P:=prog) w wd ⟨#[32]⟩ (by omega);have hadd2:=fun (w:World)=>run_string_add_sum (P:=prog) w (wd ++ ⟨#[32]⟩) (zm sv) (by rw [ByteArray.size_append'];omega);have hadd3:=fun (w:World)=>run_string_add_sum (P:=prog) w (wd ++ ⟨#[32]⟩ ++ zm sv) ⟨#[10]⟩ (by rw [ByteArray.size_append',ByteArray.size_append'];omega);have hadd4:=fun (w:World)=>run_string_add_sum (P:=prog) w s (wd ++ ⟨#[32]⟩ ++ zm sv ++ ⟨#[10]⟩) (by rw [ByteArray.size_append',ByteArray.size_append',ByteArray.size_append'];omega);have hbz:b.size<=9223372036854775807:=by rw [hb0];simp only [ByteArray.size_append'];omega
 rw [<-hb0] at hadd4 HB0;have HB:Hid (s ++ yI (stp st x) x=b):=qH (by rw [<-hsv];exact HB0);have ht0:-1000000000000000000<=sv:=by omega
 have ht1:sv<=1000000000000000000:=by omega
 clear hsv hwd2 HB0 hb0 z1 z2 z3 z4 hlz;go_wp2_with fail;replace hv:Below w.heap.size w W.drew.drew:=hv.drew;replace hO:=hO.below (Below.refl W.drew.heap.size W.drew).drew;replace hX:=hX.below (Below.refl W.drew.heap.size W.drew).drew;refine zH (fun w'=>Blk w' gO 146 #[.slice (some ad) (j + 1) c,.int .i64 st,.int .i64 n]/\Blk w' gX 141 #[Value.int .i64 x.day,Value.string x.what,Value.int .i64 x.value]) ?_ (fun hHeld=>?_)
 ·exact ⟨hO,hX⟩
 refine zU 0 31 ?_;refine zT 1 32 rfl (fun w hSw=>by
  have o0:=yc0 hSw.1;have o1:=yc1 hSw.1;have o2:=yc2 hSw.1;have x0:=yc0 hSw.2;have x1:=yc1 hSw.2;have x2:=yc2 hSw.2;go_simp;try with_reducible rfl) ?_
 refine zU 4 35 ?_;refine zT 5 36 rfl (fun w hSw=>by
  have o0:=yc0 hSw.1;have o1:=yc1 hSw.1;have o2:=yc2 hSw.1;have x0:=yc0 hSw.2;have x1:=yc1 hSw.2;have x2:=yc2 hSw.2;go_simp;try with_reducible rfl) ?_
 refine zT 6 37 rfl (fun w hSw=>by
  have o0:=yc0 hSw.1;have o1:=yc1 hSw.1;have o2:=yc2 hSw.1;have x0:=yc0 hSw.2;have x1:=yc1 hSw.2;have x2:=yc2 hSw.2;go_simp;try with_reducible rfl) ?_
 refine zR 2 (some 33) rfl (fun K hK=>?_);go_simp;go_split_ands;refine qS (hwd.out _ (HT.out.below hv).pow) fun W2 hb=>?_;replace hv:=za hv hb;replace hO:=hO.below hb;replace hX:=hX.below hb;clear hb;go_wp2_with fail;refine zK hK ⟨hO,hX⟩ (fun hHeld=>?_);clear hK K;refine zU 3 34 ?_;refine zR 7 (some 38) rfl (fun K hK=>?_);go_simp;go_split_ands;refine qS (hst.out _ (HT.out.below hv).pow) fun W3 hb=>?_;replace hv:=za hv hb;replace hO:=hO.below hb;replace hX:=hX.below hb;clear hb;go_wp2_with fail;refine zK hK ⟨hO,hX⟩ (fun hHeld=>?_);clear hK K;refine zR 8 (some 39) rfl (fun K hK=>?_);go_simp;go_split_ands;refine qS (xp sv (by omega) (by omega) _ (HT.out.below hv).pow) fun W4 hb=>?_;replace hv:=za hv hb;replace hO:=hO.below hb;replace hX:=hX.below hb;clear hb;go_wp2_with fail;refine zK hK ⟨hO,hX⟩ (fun hHeld=>?_);clear hK K;refine zU 9 40 ?_;refine zU 10 41 ?_;refine zU 11 42 ?_;refine zU 12 0 ?_;try simp only [Act.put,List.setIfInBounds_toArray,List.set_cons_zero]
 refine zD ?_;clear hHeld hadd1 hadd2 hadd3 hadd4;by_cases hbig:4000 < (b.size:Int)
 ·have HR:=qH (qz (s:=s) (es:=es) (st:=st) HX.out (by have h:=HD.out;omega) (by rw [HB.out];omega));go_wp2;go_returns;exact RetT.mk (by rw [HR.out];rfl) hv
 ·have HR:=qH (qA (s:=s) (es:=es) (st:=st) HX.out (by have h:=HD.out;omega) (by rw [HB.out];omega));have hbd:decide (4000 < (b.size:Int))=false:=decide_eq_false hbig;go_wp2;go_returns;exact RetT.mk (by rw [HR.out,HB.out];rfl) hv
def cdW(s t:ByteArray):Int:=if cdL s=0 then (if zo t=true then 0 else 2) else cdL s
theorem cu{s t:ByteArray}(h:¬ cdL s=0):cdW s t=cdL s:=by unfold cdW;rw [if_neg h]
theorem kU{s t:ByteArray}(h:cdL s=0)(h2:zo t=false):cdW s t=2:=by unfold cdW;rw [if_pos h,if_neg (by simp [h2])]
theorem kV{s t:ByteArray}(h:cdL s=0)(h2:zo t=true):cdW s t=0:=by unfold cdW;rw [if_pos h,if_pos h2]
def zdC(s t:ByteArray)(w:World)(e:Ending)(w':World):Prop:=
 ∃ g,e=.returned (.tuple #[.pointer (some ⟨g,0,none⟩),.int .i64 (cdW s t)])/\w.heap.size<=g/\(cdW s t=0->cdL s=0/\RS s g (rdL s).1 (rdL s).2.1 (rdL s).2.2 (rdL s).1.length w.heap.size w')/\Below w.heap.size w w'
theorem bU(s t:ByteArray)(hs:s.size<=1048576)(ht:t.size<=9223372036854775807)(w:World):Calls prog 233 #[.string s,.string t] w (zdC s t w):=by
 go_in;go_wp2_with fail;refine (rQ s hs _).mono ?_;rintro e W ⟨g,rfl,hg,hRS,hb⟩;by_cases h0:cdL s=0
 · have H0:=qH h0;have HRS:=qH (hRS h0);rw [h0];clear hRS h0;cases hn:zo t
   ·have HC:=qH (kU (t:=t) H0.out hn);have hnm:=qH (fun w=>(by have h:=xn t ht w;rw [hn] at h;exact h:Calls prog 153 #[.string t] w (RetQ (.bool false) w)));clear hn;go_wp2_with fail;refine qR (hnm.out _) ?_;go_wp2;go_returns;exact ⟨g,by rw [HC.out];rfl,hg,(fun h=>by rw [HC.out] at h;cases h),hb⟩
   ·have HC:=qH (kV (t:=t) H0.out hn);have hnm:=qH (fun w=>(by have h:=xn t ht w;rw [hn] at h;exact h:Calls prog 153 #[.string t] w (RetQ (.bool true) w)));clear hn;go_wp2_with fail;refine qR (hnm.out _) ?_;go_wp2;go_returns;exact ⟨g,by rw [HC.out];rfl,hg,fun _=>⟨H0.out,HRS.out⟩,hb⟩
 · have HC:=qH (cu (t:=t) h0);have H0:=qH h0;have hne:(cdL s == 0)=false:=by rw [beq_eq_false_iff_ne];exact h0
   clear hRS;obtain ⟨C,hC⟩:=zN (cdL s);rw [<-hC] at h0 hne HC |-;have HCC:=qH hC;clear hC;go_wp2;go_returns;exact ⟨g,by rw [HC.out];rfl,hg,(fun h=>absurd (HCC.out.symm.trans (HC.out.symm.trans h)) H0.out),hb⟩
theorem fB{es:List Entry}(h:∀ e ∈ es,xa e=true){k:Nat}{x:Entry}(hx:es[k]?=some x):-1000000<=x.value/\x.value<=1000000/\0<=x.day/\x.day<=100000/\x.what.size<=12:=by
 have:=uo (h x (List.mem_of_getElem? hx));omega
def wN(t:ByteArray)(es:List Entry):List Int:=(es.filter fun x=>x.what.toList == t.toList).map (·.value)
def uV(s t:ByteArray):List Int:=if cdW s t=0 then wN t (rdL s).1 else []
theorem mX{s t:ByteArray}(h:cdW s t=0):uV s t=wN t (rdL s).1:=by unfold uV;rw [if_pos h]
theorem oL{s t:ByteArray}(h:¬ cdW s t=0):uV s t=[]:=by unfold uV;rw [if_neg h]
theorem zbM(t:ByteArray)(es:List Entry):(wN t es).length<=es.length:=by
 unfold wN;rw [List.length_map];exact List.length_filter_le _ _
theorem zat{s t:ByteArray}(h:cdW s t=0):cdL s=0:=by
 unfold cdW at h;split at h
 ·assumption
 ·exact h
theorem ki{t:ByteArray}{es:List Entry}{k:Nat}{x:Entry}(h:es[k]?=some x):wN t (es.take (k + 1))=wN t (es.take k) ++ if (x.what.toList == t.toList)=true then [x.value] else []:=by
 rw [yJ h];unfold wN;rw [List.filter_append,List.map_append];cases hq:(x.what.toList == t.toList) <;> simp [hq]
theorem fJ:(prog.info? 2).map (fun i=>(i.zero,i.size,i.bytes))=some (some (.int .i64 0),1,8):=by kernel_rfl
theorem gJ(s t:ByteArray)(hs:s.size<=1048576)(ht:t.size<=9223372036854775807)(w:World):Calls prog 164 #[.string s,.string t] w (OutL 2 1 (uV s t).length (zd zp (uV s t)) (cdW s t) w):=by
 obtain ⟨i0,hi0,hz0,hz1,hz2⟩:=info_parts (P:=prog) (e:=2) (z:=.int .i64 0) (size:=1) (bytes:=8) fJ;go_in;go_wp2_with fail;refine (bU s t hs ht _).mono ?_;rintro e W ⟨g,rfl,hg,hRS,hb⟩;by_cases h0:cdW s t=0
 case neg=>
  have HC:=qH (oL h0);have hne2:(cdW s t != 0)=true:=by rw [bne_iff_ne];exact h0
  clear hRS;generalize cdW s t=C at *;clear h0;go_wp2;go_returns;rw [HC.out];exact OutL.nil hb
 obtain ⟨hz,A,c,hB,hown,_⟩:=hRS h0;have hG:=vO s;have hfew:(rdL s).1.length<=4000:=Nat.le_trans (re s) (vo hz);have HC:=qH (mX h0);have HZ:=qH h0;rw [h0];clear hRS h0 hz;have hent:=qH hG.ent;clear hG;generalize (rdL s).1=es at *;generalize (rdL s).2.1=st at *;generalize (rdL s).2.2=n at *;obtain ⟨m,hm0⟩:=zN es.length;rw [<-hm0] at hB hown hfew;have hm:=qH hm0.symm;clear hm0;have hAr:=Arr.own hown;clear hown;go_wp2_with fail;have hR:=qH (show (wN t (es.take 0)).length=0 from rfl)
 go_loopw [8,9] (fun ov i wr=>∃ (k r:Nat) (A':Option Addr) (c':Nat),k<=m/\r<=k/\i=.int .i64 k/\ov=.slice A' r c'/\Hid ((wN t (es.take k)).length=r)/\wr.ownsRow W.heap.size 2 1 (.slice A' r c') r (zd zp (wN t (es.take k)))/\Below W.heap.size W wr) (fun _ i _=>m - (intOf i).toNat)
 case atStart=>exact ⟨0,0,_,_,by omega,by omega,rfl,rfl,hR,zI W W.heap.size 2 1 (Nat.le_refl _),zc (Below.refl _ _) _⟩
 case round=>
  clear hR;obtain ⟨k,r,A',c',hk,hrk,rfl,rfl,hR,hownV,hv⟩:=hrel;have k3:=yc3 (hB.below hv);by_cases hlt:k < m
  · obtain ⟨x,hx⟩:=zx (xs:=es) (k:=k) (by rw [hm.out];exact hlt);obtain ⟨ad,rfl,hab,c0,c1,c2⟩:=Entry.at_ (hAr.below hv) hx;obtain ⟨v0,v1,_,_,_⟩:=fB hent.out hx;have hj0:(0:Int)<=(k:Int):=by omega
    have hj1:(k:Int) < (m:Int):=by omega
    have hst:=ki (t:=t) hx;clear hx;have HO:=qH hownV;cases hq1:(x.what.toList == t.toList)
    ·have HST:=qH (hst.trans (by rw [hq1];simp:_=wN t (es.take k)));clear hst;go_wp2_with fail;exact ⟨⟨k + 1,r,A',c',by omega,by omega,by go_num,rfl,qH (by rw [HST.out];exact hR.out),by rw [HST.out];exact hownV,hv⟩,by simp [intOf];omega⟩
    · have HST:=qH (hst.trans (by rw [hq1];simp:_=wN t (es.take k) ++ [x.value]));clear hst;go_wp2_with (at_builtin;refine qB _ _ rfl _ _ 58 2 rfl i0 _ 1 8 underlying58 hi0 hz0 hz1 hz2 rfl (by omega) W.heap.size (.slice A' r c') r (zd zp (wN t (es.take k))) rfl _ rfl rfl HO.out rfl (by simp [Value.oneCell']) (by unfold maxLen;omega) (by omega) hv.size ?_;intro A2 c2 w2 hown2 hg2)
      refine ⟨⟨k + 1,r + 1,A2,c2,by omega,by omega,by go_num,rfl,qH (by rw [HST.out,List.length_append,hR.out];rfl),by rw [HST.out,zY];exact hown2,zi hv hg2 (zn HO.out)⟩,by simp [intOf];omega⟩
  ·have HV:=qH (show wN t es=wN t (es.take k) by rw [List.take_of_length_le (by rw [hm.out];omega)]);go_wp2;go_returns;exact OutL.mk (yF hownV hb.size) (by rw [HC.out,HV.out];exact hR.out.symm) (by rw [HC.out,HV.out]) (by first | rfl | exact HZ.out.symm) (za hb hv)
theorem eA(s t:ByteArray)(hs:s.size<=1048576)(ht:t.size<=9223372036854775807)(w:World)(hT:Tabs w):Calls prog 86 #[.string s,.string t] w (OutL 2 1 (uV s t).length (zd zp (uV s t)) (cdW s t) w):=by
 obtain ⟨i0,hi0,hz0,hz1,hz2⟩:=info_parts (P:=prog) (e:=2) (z:=.int .i64 0) (size:=1) (bytes:=8) fJ;have HT:=qH hT;clear hT;go_in;go_wp2_with fail;refine (pS s hs _ HT.out).mono ?_;rintro e W ⟨A,c,m,es,st,n,rfl,hG,hm0,hown,hok,hno,hb0⟩;obtain ⟨WB,hWB⟩:=zN (W.alloc (Obj.cells #[.slice A m c,.int .i64 st,.int .i64 n] 146));have hb:Below w.heap.size w WB:=by rw [hWB];exact zc hb0 _
 have hAr:Arr WB A (zd Entry.cells es):=by rw [hWB];exact (Arr.own hown).alloc _
 have hX:Blk WB W.heap.size 146 #[.slice A m c,.int .i64 st,.int .i64 n]:=by rw [hWB];exact Blk.new _ _ _
 have HWB:=qH hWB;clear hWB hown hb0;by_cases h0:cdL s=0
 case neg=>
  have HW:=qH (cu (t:=t) h0);have HC:=qH (oL (s:=s) (t:=t) (by rw [HW.out];exact h0));have hne:(cdL s == 0)=false:=by rw [beq_eq_false_iff_ne];exact h0
  have hne2:(cdL s != 0)=true:=by rw [bne_iff_ne];exact h0
  clear hok hno hX hAr;generalize cdL s=C at *;clear h0;go_wp2_with fail;rw [<-HWB.out];go_returns;rw [HC.out,HW.out];exact OutL.nil hb
 have HRD:=qH (hok h0);have hfew:m<=4000:=by rw [<-hm0];have:=re s;rw [HRD.out] at this;exact Nat.le_trans this (vo h0)
 have H0:=qH h0;rw [h0];have hent:=qH hG.ent;have hm:=qH hm0;clear hok hno h0 hG hm0;cases hn:zo t
 · have HW:=qH (kU (t:=t) H0.out hn);have HC:=qH (oL (s:=s) (t:=t) (by rw [HW.out];decide));go_wp2_with (go_at_call 118;refine (xC t ht _).mono ?_;rintro e w' ⟨rfl,hq⟩;rw [hq];clear hq w';rw [hn])
   rw [<-HWB.out];go_returns;rw [HC.out,HW.out];exact OutL.nil hb
 have HW:=qH (kV (t:=t) H0.out hn);have HZ:=HW;have HC:=qH ((mX HW.out).trans (by rw [HRD.out]:_=wN t es));go_wp2_with (go_at_call 118;refine (xC t ht _).mono ?_;rintro e w' ⟨rfl,hq⟩;rw [hq];clear hq w';rw [hn])
 rw [<-HWB.out,show W.heap.size + 1=WB.heap.size from by rw [HWB.out,World.size_alloc]];clear hn;have hR:=qH (show (wN t (es.take 0)).length=0 from rfl)
 go_loopw [8,30] (fun ov i wr=>∃ (k r:Nat) (A':Option Addr) (c':Nat),k<=m/\r<=k/\i=.int .i64 k/\ov=.slice A' r c'/\Hid ((wN t (es.take k)).length=r)/\wr.ownsRow WB.heap.size 2 1 (.slice A' r c') r (zd zp (wN t (es.take k)))/\Below WB.heap.size WB wr) (fun _ i _=>m - (intOf i).toNat)
 case atStart=>exact ⟨0,0,_,_,by omega,by omega,rfl,rfl,hR,zI WB WB.heap.size 2 1 (Nat.le_refl _),zc (Below.refl _ _) _⟩
 case round=>
  clear hR;obtain ⟨k,r,A',c',hk,hrk,rfl,rfl,hR,hownV,hv⟩:=hrel;by_cases hlt:k < m
  · obtain ⟨x,hx⟩:=zx (xs:=es) (k:=k) (by rw [hm.out];exact hlt);obtain ⟨ad,rfl,hab,c0,c1,c2⟩:=Entry.at_ (hAr.below hv) hx;obtain ⟨v0,v1,_,_,_⟩:=fB hent.out hx;have hj0:(0:Int)<=(k:Int):=by omega
    have hj1:(k:Int) < (m:Int):=by omega
    have hst:=ki (t:=t) hx;clear hx;have HO:=qH hownV;cases hq1:(x.what.toList == t.toList)
    ·have HST:=qH (hst.trans (by rw [hq1];simp:_=wN t (es.take k)));clear hst;go_wp2_with fail;exact ⟨⟨k + 1,r,A',c',by omega,by omega,by go_num,rfl,qH (by rw [HST.out];exact hR.out),by rw [HST.out];exact hownV.alloc _,zc hv _⟩,by simp [intOf];omega⟩
    · have HST:=qH (hst.trans (by rw [hq1];simp:_=wN t (es.take k) ++ [x.value]));clear hst;go_wp2_with (at_builtin;refine qB _ _ rfl _ _ 58 2 rfl i0 _ 1 8 underlying58 hi0 hz0 hz1 hz2 rfl (by omega) WB.heap.size (.slice A' r c') r (zd zp (wN t (es.take k))) rfl _ (World.size_alloc _ _).symm rfl (HO.out.alloc _) rfl (by simp [Value.oneCell']) (by unfold maxLen;omega) (by omega) (Nat.le_trans hv.size (by simp)) ?_;intro A2 c2 w2 hown2 hg2)
      refine ⟨⟨k + 1,r + 1,A2,c2,by omega,by omega,by go_num,rfl,qH (by rw [HST.out,List.length_append,hR.out];rfl),by rw [HST.out,zY];exact hown2,zi (zc hv _) hg2 (zn HO.out)⟩,by simp [intOf];omega⟩
  ·have HV:=qH (show wN t es=wN t (es.take k) by rw [List.take_of_length_le (by rw [hm.out];omega)]);go_wp2;go_returns;exact OutL.mk (yF hownV hb.size) (by rw [HC.out,HV.out];exact hR.out.symm) (by rw [HC.out,HV.out]) (by first | rfl | exact HZ.out.symm) (za hb hv)
end Go.Proofs.YtpiehlfffjhoaaaGreatDoor
