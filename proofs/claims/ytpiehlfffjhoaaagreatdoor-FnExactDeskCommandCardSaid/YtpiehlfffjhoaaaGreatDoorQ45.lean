/- Lemmas for the law on the console: the parts CrW,CrR. -/
import Derived.Test.YtpiehlfffjhoaaaGreatDoorQ43
import Derived.Test.YtpiehlfffjhoaaaGreatDoorQ44
namespace Go.Proofs.YtpiehlfffjhoaaaGreatDoor
open Go.RowKit Go.Proofs.Tryz
set_option maxRecDepth 100000
set_option maxHeartbeats 8000000
theorem SR.one{w0 w:World}{g gl:Nat}{d:Dk}{O:List ByteArray}{ns:List Int}{ts:List ByteArray}{Ao An At:Option Addr}{n c no co kn cn kt ct:Nat}(h:SR w0 w g d O ns ts (some ⟨gl,0,none⟩) Ao An At n c no co kn cn kt ct)(j:Nat)(hj:j < n)(y:Last) :
 SR w0 (w.setCells gl (j * 6) y.cells) g ⟨d.f,d.xs.set j y,d.s,d.lg⟩ O ns ts (some ⟨gl,0,none⟩) Ao An At n c no co kn cn kt ct:=by
 have hg:=xw gl y.cells (j * 6) w;have hs:=hg.size;have hgl:g≠gl:=fun e=>(h.ag _ rfl).1 e.symm;have hO:=px y.cells _ (j * 6) _ h.own;rw [jk (by rw [h.hn];exact hj)] at hO;have ha:∀ {B:Option Addr},(∀ ad,B=some ad->ad.block≠g/\ad.block < w.heap.size)->∀ ad,B=some ad->ad.block≠g/\ad.block < (w.setCells gl (j * 6) y.cells).heap.size:=fun hB ad e=>⟨(hB ad e).1,by have:=(hB ad e).2;omega⟩
 refine ⟨h.blk.grown hg (fun e=>by injection e with e;exact hgl e),by rw [List.length_set];exact h.hn,h.ho,h.hk,h.ht,hO,h.out.kept hg ?_,h.nums.grown hg (fun ad e1 e2=>by injection e2 with e2;exact h.an_ _ ad rfl e1 e2.symm),h.texts.grown hg (fun ad e1 e2=>by injection e2 with e2;exact h.at_ _ ad rfl e1 e2.symm),ha h.ag,ha h.og,ha h.ng,ha h.tg,h.ao,h.no_,h.to_,tv h.bel hg (fun q e=>by injection e with e;subst e;exact zn h.own gl rfl),h.an_,h.at_⟩;cases Ao with
 | none=>exact .inl rfl
 | some ao=>exact .inr (fun e=>by injection e with e;exact h.ao _ ao rfl rfl e.symm)
theorem zaa(w0 w:World)(g:Nat)(d:Dk)(O:List ByteArray)(ns:List Int)(ts:List ByteArray)(A Ao An At:Option Addr)(n c no co kn cn kt ct:Nat)(nm t1 t2:ByteArray)(h:SR w0 w g d O ns ts A Ao An At n c no co kn cn kt ct)(hno:no<=900000)(hd:d.ok=true)(hts:ts=[nm,t1,t2])(hz0:nm.size<=1048576)(hz1:t1.size<=1048576)(hz2:t2.size<=1048576) :
 Calls prog 99 #[.pointer (some ⟨g,0,none⟩)] w (vl w0 g (xB d nm ((t1 ++ ⟨#[32]⟩) ++ t2)).1 (O ++ wS (xB d nm ((t1 ++ ⟨#[32]⟩) ++ t2))) ns ts w (.tuple #[])):=by
 subst hts;obtain ⟨ad,hAt,_,d0⟩:=zh (k:=0) h.texts rfl;obtain ⟨_,e1,_,d1⟩:=zh (k:=1) h.texts rfl;obtain ⟨_,e2,_,d2⟩:=zh (k:=2) h.texts rfl;subst hAt;injection e1 with e1;injection e2 with e2;subst e1 e2;obtain rfl:kt=3:=h.ht.symm;obtain ⟨hfB,hlB,hsB,hcB⟩:=yj hd;have hn30:n<=30:=by rw [<-h.hn];exact wj hlB
 have HLA:=qH (fun x hx=>xc hlB x hx);have HNZ:Hid (∀ x ∈ d.xs,x.name.size<=9223372036854775807):=qH (fun x hx=>Nat.le_trans (yH (xc hlB x hx)) (by omega));have HN:=qH h.hn;have l1:(⟨#[32]⟩:ByteArray).size=1:=rfl;have s1:(t1 ++ (⟨#[32]⟩:ByteArray)).size=t1.size + 1:=ByteArray.size_append;have s2:((t1 ++ (⟨#[32]⟩:ByteArray)) ++ t2).size=t1.size + 1 + t2.size:=by rw [zv,s1]
 have a0:=fun (w:World)=>run_string_add_sum (P:=prog) w t1 ⟨#[32]⟩ (by omega);obtain ⟨tm,htm⟩:=zN (t1 ++ (⟨#[32]⟩:ByteArray));rw [<-htm] at s1 s2 a0 |-;have a1:=fun (w:World)=>run_string_add_sum (P:=prog) w tm t2 (by omega);obtain ⟨tx,htx⟩:=zN (tm ++ t2);rw [<-htx] at s2 a1 |-;have A0:=qH a0;have A1:=qH a1;have HRC:=fun w=>ko tx (by omega) w;have HNO:=qH (fun (h:wv tx=none)=>(show xB d nm tx=(d,[],7) by unfold xB;rw [h];rfl));have HYE:=qH (fun k a (h:wv tx=some (k,a))=>(show xB d nm tx=if (yw d.xs nm).2=0 then
  (if (xZ (atD d nm) k a).2=0 then (⟨d.f,d.xs.set (yw d.xs nm).1.toNat (xZ (atD d nm) k a).1,d.s,d.lg⟩,[ltB (xZ (atD d nm) k a).1],0) else (d,[],(xZ (atD d nm) k a).2)) else (d,[],(yw d.xs nm).2) by unfold xB;rw [h];rfl))
 have HCO:=qH (fun k a (h:wv tx=some (k,a))=>(lR h).2);obtain ⟨o,ho⟩:=zN (wv tx);rw [<-ho] at HRC HNO HYE HCO;unfold pg at HRC;obtain ⟨ck,hck⟩:=zN ((o.getD (0,0)).1);obtain ⟨ca,hca⟩:=zN ((o.getD (0,0)).2);obtain ⟨bo,hbo⟩:=zN o.isSome;rw [<-hck,<-hca,<-hbo] at HRC;have HON:=qH (fun (h:bo=false)=>(show o=none by rw [hbo] at h;cases o with | none=>rfl | some p=>cases h));have HOS:=qH (fun (h:bo=true)=>(show o=some (ck,ca) by rw [hbo] at h;cases o with | none=>cases h | some p=>rw [hck,hca];rfl));replace HRC:=qH HRC;have HLN:=fun w h=>pA A d.xs n c nm HN (by omega) HNZ (Nat.le_trans hz0 (by omega)) w h;have HAT:=qH (fun (hc:(yw d.xs nm).2=0)=>nM (d:=d) hc);obtain ⟨J,hJ⟩:=zN ((yw d.xs nm).1);obtain ⟨K,hK⟩:=zN ((yw d.xs nm).2);rw [<-hJ,<-hK] at HLN HAT HYE;replace HLN:=qH HLN;have H:=qH h;have D0:=qH d0;have D1:=qH d1;have D2:=qH d2;clear hJ hK h hfB hlB hsB hcB hd d0 d1 d2 htm htx ho hck hca hbo a0 a1 l1 s1 s2;go_in;go_upto_region 0 with fail;apply ge (P:=fun V gz=>SR w0 V g d O ns [nm,t1,t2] A Ao An (some ad) n c no co kn cn 3 ct/\Blk V gz 126 #[.int .i64 ck,.int .i64 ca]/\g≠gz/\w.heap.size<=V.heap.size/\w.heap.size<=gz)
 · intro key;have t1c:w.cell? ⟨ad.block,ad.off + 1,none⟩=some (.string t1):=D1.out;have t2c:w.cell? ⟨ad.block,ad.off + 2,none⟩=some (.string t2):=D2.out;have c17:=uz H.out.blk;have a0:=A0.out;have a1:=A1.out;refine zH (fun w'=>Below w.heap.size w w'/\True) ?_ (fun hHeld=>?_)
   ·exact ⟨(Below.refl _ _).drew,trivial⟩
   have hd9:=hHeld.1;refine zU 0 9 ?_;refine zU 1 10 ?_;refine zU 2 11 ?_;refine zT 3 12 rfl (fun w hSw=>by
    have x_c17:=zb hSw.1 c17;go_simp;try with_reducible rfl) ?_
   refine zU 4 13 ?_;refine zT 5 14 rfl (fun w hSw=>by
    have x_t1c:=zb hSw.1 t1c;go_simp;try with_reducible rfl) ?_
   refine zU 6 15 ?_;refine zU 7 16 ?_;refine zU 8 17 ?_;refine zU 9 18 ?_;refine zT 10 19 rfl (fun w hSw=>by
    have x_c17:=zb hSw.1 c17;go_simp;try with_reducible rfl) ?_
   refine zU 11 20 ?_;refine zT 12 21 rfl (fun w hSw=>by
    have x_t2c:=zb hSw.1 t2c;go_simp;try with_reducible rfl) ?_
   refine zU 13 22 ?_;clear t1c t2c c17 a0 a1;refine wpAnyH_ready (rs:=[14,18]) (by as_aux_lemma=>kernel_rfl) (by simp) ?_;refine AllReadyH.cons (o:={ dst:=some 23,op:=_,type:=_,pos:=_,after:=_,guard:=_ }) rfl (fun K hK=>?_) (AllReadyH.cons (o:={ dst:=some 2,op:=_,type:=_,pos:=_,after:=_,guard:=_ }) rfl (fun K hK=>?_) AllReadyH.nil)
   · go_simp;go_split_ands;refine qS (HRC.out _) fun W2 hb9=>?_;replace hd9:=za hd9 hb9;clear hb9;go_wp2_with fail;refine zK hK ⟨hd9,trivial⟩ (fun hHeld=>?_);clear hK K;refine zU 15 8 ?_;refine zU 16 24 ?_;refine zU 17 25 ?_;refine zR 18 (some 2) rfl (fun K hK=>?_);go_simp;go_split_ands;obtain ⟨gz,hgz⟩:=zN ((W2).heap.size);obtain ⟨W3,hW3⟩:=zN (World.alloc W2 (Obj.cells #[.int .i64 0,.int .i64 0] 126));have HB0:Hid (Blk W3 gz 126 #[.int .i64 0,.int .i64 0]):=qH (by rw [hW3,hgz];exact Blk.new W2 _ _);have hb9:Below (W2).heap.size (W2) W3:=by rw [hW3];exact zc (Below.refl _ _) _
     have hgz2:w.heap.size<=gz:=by rw [hgz];first | exact hd9.size | exact Nat.le_refl _
     replace hd9:=za hd9 hb9;rw [<-hW3,<-hgz];clear hgz hW3;clear hb9;refine zK hK ⟨hd9,trivial⟩ (fun hHeld=>?_);clear hK K;refine zR 19 none rfl (fun K hK=>?_)
     skip
     go_split_ands;refine wp_store_row 126 _ _ rfl gz #[.int .i64 ck,.int .i64 ca] rfl rfl 126 #[Value.int .i64 0,Value.int .i64 0] HB0.out (by kernel_rfl) rfl (by simp [Value.oneCell']) ?_;have HF4:Hid (Blk (World.setRow W3 gz #[Value.int .i64 ck,Value.int .i64 ca]) gz 126 #[.int .i64 ck,.int .i64 ca]):=qH (setRow_heap _ _ _ _ _ _ HB0.out);have hd7:=zg hd9 hgz2 #[Value.int .i64 ck,Value.int .i64 ca];obtain ⟨W4,hW4⟩:=zN (World.setRow W3 gz #[Value.int .i64 ck,Value.int .i64 ca]);rw [<-hW4] at HF4 hd7 |-;clear hW4;refine hK.out _ _ ?_ (fun hHeld=>?_)
     ·(try dsimp only);go_split_ands;exact ⟨hd7,trivial⟩
     clear hK K;(try simp only [Act.put]);refine zU 20 3 ?_;refine zD ?_;clear hHeld;exact key.out W4 gz ⟨H.out.below hd7,HF4.out,by have:=H.out.blk.lt;omega,hd7.size,hgz2⟩
   · go_simp;go_split_ands;obtain ⟨gz,hgz⟩:=zN ((w).heap.size);obtain ⟨W3,hW3⟩:=zN (World.drew (World.alloc w (Obj.cells #[.int .i64 0,.int .i64 0] 126)));have HB0:Hid (Blk W3 gz 126 #[.int .i64 0,.int .i64 0]):=qH (by rw [hW3,hgz];exact Blk.new w _ _);have hb9:Below (World.drew w).heap.size (World.drew w) W3:=by rw [hW3];exact zc (Below.refl _ _) _
     have hgz2:w.heap.size<=gz:=by rw [hgz];first | exact hd9.size | exact Nat.le_refl _
     replace hd9:=za hd9 hb9;rw [<-hW3,<-hgz];clear hgz hW3;clear hb9;refine zK hK ⟨hd9,trivial⟩ (fun hHeld=>?_);clear hK K;refine zR 14 (some 23) rfl (fun K hK=>?_);go_simp;go_split_ands;refine qS (HRC.out _) fun W2 hb9=>?_;replace hd9:=za hd9 hb9;replace HB0:=qH (HB0.out.below hb9);clear hb9;go_wp2_with fail;refine zK hK ⟨hd9,trivial⟩ (fun hHeld=>?_);clear hK K;refine zU 15 8 ?_;refine zU 16 24 ?_;refine zU 17 25 ?_;refine zR 19 none rfl (fun K hK=>?_)
     skip
     go_split_ands;refine wp_store_row 126 _ _ rfl gz #[.int .i64 ck,.int .i64 ca] rfl rfl 126 #[Value.int .i64 0,Value.int .i64 0] HB0.out (by kernel_rfl) rfl (by simp [Value.oneCell']) ?_;have HF4:Hid (Blk (World.setRow W2 gz #[Value.int .i64 ck,Value.int .i64 ca]) gz 126 #[.int .i64 ck,.int .i64 ca]):=qH (setRow_heap _ _ _ _ _ _ HB0.out);have hd7:=zg hd9 hgz2 #[Value.int .i64 ck,Value.int .i64 ca];obtain ⟨W4,hW4⟩:=zN (World.setRow W2 gz #[Value.int .i64 ck,Value.int .i64 ca]);rw [<-hW4] at HF4 hd7 |-;clear hW4;refine hK.out _ _ ?_ (fun hHeld=>?_)
     ·(try dsimp only);go_split_ands;exact ⟨hd7,trivial⟩
     clear hK K;(try simp only [Act.put]);refine zU 20 3 ?_;refine zD ?_;clear hHeld;exact key.out W4 gz ⟨H.out.below hd7,HF4.out,by have:=H.out.blk.lt;omega,hd7.size,hgz2⟩
 intro V gc hP;obtain ⟨hS,hC,hgc,hz,hgcw⟩:=hP;have HS:=qH hS;have HCB:=qH hC;have HZV:=qH hz;clear hS hC hz;cases bo
 case false=>
  have HE:=qH (HNO.out (HON.out rfl));have HRP:=qH (yP w0 V g d O ns [nm,t1,t2] A Ao An (some ad) n c no co kn cn 3 ct HS.out (by omega) 7);go_wp2_with fail;refine HRP.out.mono ?_;rintro e W5 ⟨rfl,hz5,hr5⟩;go_wp2;go_returns;have hzv:=HZV.out;rw [HE.out];exact ⟨rfl,by omega,hr5⟩
 have HE0:=qH (HYE.out ck ca (HOS.out rfl));have HCG:Hid (xi ck ca=true):=qH (HCO.out ck ca (HOS.out rfl));have c4:=yc4 HS.out.blk;have c17:=uz HS.out.blk;obtain ⟨_,e9,_,q0⟩:=zh (k:=0) HS.out.texts rfl;injection e9 with e9;subst e9;have t0:V.cell? ad=some (.string nm):=by rw [<-show ad.add 0=ad from by unfold Addr.add;split <;> simp_all];exact q0
 go_upto_region 3 with fail;refine zH (fun w'=>Below V.heap.size V w'/\True) ?_ (fun hHeld=>?_)
 ·exact ⟨(Below.refl _ _).drew,trivial⟩
 have hd9:=hHeld.1;refine zU 0 31 ?_;refine zU 1 32 ?_;refine zU 2 33 ?_;refine zU 3 34 ?_;refine zT 4 35 rfl (fun w hSw=>by
  have x_c4:=zb hSw.1 c4;go_simp;try with_reducible rfl) ?_
 refine zU 5 36 ?_;refine zU 6 37 ?_;refine zU 7 38 ?_;refine zT 8 39 rfl (fun w hSw=>by
  have x_c17:=zb hSw.1 c17;go_simp;try with_reducible rfl) ?_
 refine zU 9 40 ?_;refine zT 10 41 rfl (fun w hSw=>by
  have x_t0:=zb hSw.1 t0;go_simp;try with_reducible rfl) ?_
 refine zR 11 (some 42) rfl (fun K hK=>?_);go_simp;go_split_ands;refine qS (HLN.out _ (Arr.own (ze HS.out.own hd9))) fun W2 hb9=>?_;replace hd9:=za hd9 hb9;clear hb9;go_wp2_with fail;refine zK hK ⟨hd9,trivial⟩ (fun hHeld=>?_);clear hK K;refine zU 12 30 ?_;refine zU 13 43 ?_;refine zU 14 44 ?_;refine zU 15 4 ?_;refine zU 16 5 ?_;refine zD ?_;clear hHeld c4 c17 t0 q0;have HSV:=qH (HS.out.below hd9);have HCV:=qH (HCB.out.below hd9);have HZ2:=qH hd9.size;clear hd9 HS HCB;by_cases hc:K=0
 case neg=>
  have HE:=qH (HE0.out.trans (if_neg hc));have HCC:=qH hc;have HRP:=qH (yP w0 W2 g d O ns [nm,t1,t2] A Ao An (some ad) n c no co kn cn 3 ct HSV.out (by omega) K);rw [if_neg hc,decide_eq_true hc] at HRP;clear hc;go_wp2_with fail;refine HRP.out.mono ?_;rintro e W5 ⟨rfl,hz5,hr5⟩;go_wp2;go_returns;have hzv:=HZV.out;have hz2:=HZ2.out;rw [HE.out,show wS (d,[],K)=[wZ K] from if_neg HCC.out];exact ⟨rfl,by omega,hr5⟩
 subst hc;have HE1:=HE0.out.trans (if_pos rfl);obtain ⟨hx,hJ⟩:=HAT.out rfl;obtain ⟨k,hk⟩:=zN J.toNat
 rw [<-hk] at hx hJ HE1;subst hJ;obtain ⟨x,hxe⟩:=zN (atD d nm);rw [<-hxe] at hx HE1;have hkn:k < n:=by rw [<-HN.out];exact (List.getElem?_eq_some_iff.1 hx).1
 obtain ⟨ad2,hA2,hab,e0,e1,e2,e3,e4,e5⟩:=Last.at_ (Arr.own HSV.out.own) hx;subst hA2;have HX:Hid (zy x=true):=qH (HLA.out x (List.mem_of_getElem? hx));have HAP:=fun gb w h=>nb x ck ca gb HX HCG w h;have HAZ:=qH (fun h=>rD (x:=x) (k:=ck) (a:=ca) h);unfold kH at HAP;obtain ⟨y,hy⟩:=zN ((xZ x ck ca).1);obtain ⟨K2,hK2⟩:=zN ((xZ x ck ca).2);rw [<-hy,<-hK2] at HAP HE1;rw [<-hy,<-hK2] at HAZ;replace HAP:=qH HAP;have HE2:=qH HE1;have HR0:=qH (fun W=>vG (.pointer (some ⟨g,0,none⟩)) W);have hk0:(0:Int)<=(k:Int):=by omega
 have hk1:(k:Int) < (n:Int):=by omega
 have E0:=qH e0;have E1:=qH e1;have E2:=qH e2;have E3:=qH e3;have E4:=qH e4;have E5:=qH e5;clear HE1 hx hxe hab hy hK2 e0 e1 e2 e3 e4 e5 hk HAT HE0;go_wp2_with fail;refine qR (HR0.out _) ?_;go_upto_region 5 with fail;apply ke (P:=fun V gz _=>SR w0 V g d O ns [nm,t1,t2] (some ad2) Ao An (some ad) n c no co kn cn 3 ct/\Blk V gz 100 (cL y)/\g≠gz/\ad2.block≠gz/\W2.heap.size<=V.heap.size)
 · intro key;have c4:=yc4 HSV.out.blk;have y0:=yc0 HCV.out;have y1:=yc1 HCV.out;have e0:=E0.out;have e1:=E1.out;have e2:=E2.out;have e3:=E3.out;have e4:=E4.out;have e5:=E5.out;refine zH (fun w'=>Below W2.heap.size W2 w'/\True) ?_ (fun hHeld=>?_)
   ·exact ⟨(Below.refl _ _).drew,trivial⟩
   have hd9:=hHeld.1;refine zU 0 49 ?_;refine zU 1 50 ?_;refine zU 2 51 ?_;refine zU 3 52 ?_;refine zT 4 53 rfl (fun w hSw=>by
    have x_c4:=zb hSw.1 c4;go_simp;try with_reducible rfl) ?_
   refine zU 5 54 ?_;refine zU 6 55 ?_;refine zT 7 56 rfl (fun w hSw=>by
    have x_e0:=zb hSw.1 e0;have x_e1:=zb hSw.1 e1;have x_e2:=zb hSw.1 e2;have x_e3:=zb hSw.1 e3;have x_e4:=zb hSw.1 e4;have x_e5:=zb hSw.1 e5;go_simp;try with_reducible rfl) ?_
   refine zT 8 57 rfl (fun w hSw=>by
    have x_y0:=zb hSw.1 y0;have x_y1:=zb hSw.1 y1;go_simp;try with_reducible rfl) ?_
   clear c4 y0 y1 e0 e1 e2 e3 e4 e5;refine wpAnyH_ready (rs:=[9,14]) (by as_aux_lemma=>kernel_rfl) (by simp) ?_;refine AllReadyH.cons (o:={ dst:=some 58,op:=_,type:=_,pos:=_,after:=_,guard:=_ }) rfl (fun K hK=>?_) (AllReadyH.cons (o:={ dst:=some 6,op:=_,type:=_,pos:=_,after:=_,guard:=_ }) rfl (fun K hK=>?_) AllReadyH.nil)
   · go_simp;go_split_ands;obtain ⟨gb,hgb⟩:=zN ((W2).heap.size);obtain ⟨W6,hW6⟩:=zN (World.drew (World.alloc W2 (Obj.cells #[.int .i64 ck,.int .i64 ca] 126)));have HBB:Hid (Blk W6 gb 126 #[.int .i64 ck,.int .i64 ca]):=qH (by rw [hW6,hgb];exact Blk.new W2 _ _);have hb9:Below (World.drew W2).heap.size (World.drew W2) W6:=by rw [hW6];exact zc (Below.refl _ _) _
     have hgb2:W2.heap.size<=gb:=by rw [hgb];first | exact hd9.size | exact Nat.le_refl _
     replace hd9:=za hd9 hb9;rw [<-hW6,<-hgb];clear hgb hW6;clear hb9;refine zK hK ⟨hd9,trivial⟩ (fun hHeld=>?_);clear hK K;refine wpAnyH_ready (rs:=[10,14]) (by as_aux_lemma=>kernel_rfl) (by simp) ?_;refine AllReadyH.cons (o:={ dst:=some 59,op:=_,type:=_,pos:=_,after:=_,guard:=_ }) rfl (fun K hK=>?_) (AllReadyH.cons (o:={ dst:=some 6,op:=_,type:=_,pos:=_,after:=_,guard:=_ }) rfl (fun K hK=>?_) AllReadyH.nil)
     · go_simp;go_split_ands;refine qS (HAP.out gb _ HBB.out) fun W8 hb9=>?_;replace hd9:=za hd9 hb9;clear hb9;go_wp2_with fail;refine zK hK ⟨hd9,trivial⟩ (fun hHeld=>?_);clear hK K;refine zU 11 48 ?_;refine zU 12 60 ?_;refine zU 13 61 ?_;refine zR 14 (some 6) rfl (fun K hK=>?_);go_simp;go_split_ands;obtain ⟨gz,hgz⟩:=zN ((W8).heap.size);obtain ⟨W3,hW3⟩:=zN (World.alloc W8 (Obj.cells cM 100));have HB0:Hid (Blk W3 gz 100 cM):=qH (by rw [hW3,hgz];exact Blk.new W8 _ _);have hb9:Below (W8).heap.size (W8) W3:=by rw [hW3];exact zc (Below.refl _ _) _
       have hgz2:W2.heap.size<=gz:=by rw [hgz];first | exact hd9.size | exact Nat.le_refl _
       replace hd9:=za hd9 hb9;rw [<-hW3,<-hgz];clear hgz hW3;clear hb9;refine zK hK ⟨hd9,trivial⟩ (fun hHeld=>?_);clear hK K;refine zR 15 none rfl (fun K hK=>?_)
       skip
       go_split_ands;refine wp_store_row 100 _ _ rfl gz (cL y) rfl rfl 100 cM HB0.out (by kernel_rfl) rfl (by simp [Value.oneCell']) ?_;have HF4:Hid (Blk (World.setRow W3 gz (cL y)) gz 100 (cL y)):=qH (setRow_heap _ _ _ _ _ _ HB0.out);have hd7:=zg hd9 hgz2 (cL y);obtain ⟨W4,hW4⟩:=zN (World.setRow W3 gz (cL y));rw [<-hW4] at HF4 hd7 |-;clear hW4;refine hK.out _ _ ?_ (fun hHeld=>?_)
       ·(try dsimp only);go_split_ands;exact ⟨hd7,trivial⟩
       clear hK K;(try simp only [Act.put]);refine zU 16 7 ?_;refine zD ?_;clear hHeld;exact key.out W4 gz gb ⟨HSV.out.below hd7,HF4.out,by have:=HSV.out.blk.lt;omega,by have:=(HSV.out.ag _ rfl).2;omega,hd7.size⟩
     · go_simp;go_split_ands;obtain ⟨gz,hgz⟩:=zN ((W6).heap.size);obtain ⟨W3,hW3⟩:=zN (World.alloc W6 (Obj.cells cM 100));have HB0:Hid (Blk W3 gz 100 cM):=qH (by rw [hW3,hgz];exact Blk.new W6 _ _);have hb9:Below (W6).heap.size (W6) W3:=by rw [hW3];exact zc (Below.refl _ _) _
       have hgz2:W2.heap.size<=gz:=by rw [hgz];first | exact hd9.size | exact Nat.le_refl _
       replace hd9:=za hd9 hb9;rw [<-hW3,<-hgz];clear hgz hW3;replace HBB:=qH (HBB.out.below hb9);clear hb9;refine zK hK ⟨hd9,trivial⟩ (fun hHeld=>?_);clear hK K;refine zR 10 (some 59) rfl (fun K hK=>?_);go_simp;go_split_ands;refine qS (HAP.out gb _ HBB.out) fun W8 hb9=>?_;replace hd9:=za hd9 hb9;replace HB0:=qH (HB0.out.below hb9);clear hb9;go_wp2_with fail;refine zK hK ⟨hd9,trivial⟩ (fun hHeld=>?_);clear hK K;refine zU 11 48 ?_;refine zU 12 60 ?_;refine zU 13 61 ?_;refine zR 15 none rfl (fun K hK=>?_)
       skip
       go_split_ands;refine wp_store_row 100 _ _ rfl gz (cL y) rfl rfl 100 cM HB0.out (by kernel_rfl) rfl (by simp [Value.oneCell']) ?_;have HF4:Hid (Blk (World.setRow W8 gz (cL y)) gz 100 (cL y)):=qH (setRow_heap _ _ _ _ _ _ HB0.out);have hd7:=zg hd9 hgz2 (cL y);obtain ⟨W4,hW4⟩:=zN (World.setRow W8 gz (cL y));rw [<-hW4] at HF4 hd7 |-;clear hW4;refine hK.out _ _ ?_ (fun hHeld=>?_)
       ·(try dsimp only);go_split_ands;exact ⟨hd7,trivial⟩
       clear hK K;(try simp only [Act.put]);refine zU 16 7 ?_;refine zD ?_;clear hHeld;exact key.out W4 gz gb ⟨HSV.out.below hd7,HF4.out,by have:=HSV.out.blk.lt;omega,by have:=(HSV.out.ag _ rfl).2;omega,hd7.size⟩
   · go_simp;go_split_ands;obtain ⟨gz,hgz⟩:=zN ((W2).heap.size);obtain ⟨W3,hW3⟩:=zN (World.drew (World.alloc W2 (Obj.cells cM 100)));have HB0:Hid (Blk W3 gz 100 cM):=qH (by rw [hW3,hgz];exact Blk.new W2 _ _);have hb9:Below (World.drew W2).heap.size (World.drew W2) W3:=by rw [hW3];exact zc (Below.refl _ _) _
     have hgz2:W2.heap.size<=gz:=by rw [hgz];first | exact hd9.size | exact Nat.le_refl _
     replace hd9:=za hd9 hb9;rw [<-hW3,<-hgz];clear hgz hW3;clear hb9;refine zK hK ⟨hd9,trivial⟩ (fun hHeld=>?_);clear hK K;refine zR 9 (some 58) rfl (fun K hK=>?_);go_simp;go_split_ands;obtain ⟨gb,hgb⟩:=zN ((W3).heap.size);obtain ⟨W6,hW6⟩:=zN (World.alloc W3 (Obj.cells #[.int .i64 ck,.int .i64 ca] 126));have HBB:Hid (Blk W6 gb 126 #[.int .i64 ck,.int .i64 ca]):=qH (by rw [hW6,hgb];exact Blk.new W3 _ _);have hb9:Below (W3).heap.size (W3) W6:=by rw [hW6];exact zc (Below.refl _ _) _
     have hgb2:W2.heap.size<=gb:=by rw [hgb];first | exact hd9.size | exact Nat.le_refl _
     replace hd9:=za hd9 hb9;rw [<-hW6,<-hgb];clear hgb hW6;replace HB0:=qH (HB0.out.below hb9);clear hb9;refine zK hK ⟨hd9,trivial⟩ (fun hHeld=>?_);clear hK K;refine zR 10 (some 59) rfl (fun K hK=>?_);go_simp;go_split_ands;refine qS (HAP.out gb _ HBB.out) fun W8 hb9=>?_;replace hd9:=za hd9 hb9;replace HB0:=qH (HB0.out.below hb9);clear hb9;go_wp2_with fail;refine zK hK ⟨hd9,trivial⟩ (fun hHeld=>?_);clear hK K;refine zU 11 48 ?_;refine zU 12 60 ?_;refine zU 13 61 ?_;refine zR 15 none rfl (fun K hK=>?_)
     skip
     go_split_ands;refine wp_store_row 100 _ _ rfl gz (cL y) rfl rfl 100 cM HB0.out (by kernel_rfl) rfl (by simp [Value.oneCell']) ?_;have HF4:Hid (Blk (World.setRow W8 gz (cL y)) gz 100 (cL y)):=qH (setRow_heap _ _ _ _ _ _ HB0.out);have hd7:=zg hd9 hgz2 (cL y);obtain ⟨W4,hW4⟩:=zN (World.setRow W8 gz (cL y));rw [<-hW4] at HF4 hd7 |-;clear hW4;refine hK.out _ _ ?_ (fun hHeld=>?_)
     ·(try dsimp only);go_split_ands;exact ⟨hd7,trivial⟩
     clear hK K;(try simp only [Act.put]);refine zU 16 7 ?_;refine zD ?_;clear hHeld;exact key.out W4 gz gb ⟨HSV.out.below hd7,HF4.out,by have:=HSV.out.blk.lt;omega,by have:=(HSV.out.ag _ rfl).2;omega,hd7.size⟩
 intro V gz gb hP;obtain ⟨hS,hY,hgz,hglz,hz⟩:=hP;have HS:=qH hS;have HYB:=qH hY;have HZ3:=qH hz;clear hS hY hz;obtain ⟨gl,hgl⟩:=xu HS.out.own (by omega);obtain rfl:=Option.some.inj hgl;replace hglz:gl≠gz:=hglz;by_cases hc:K2=0
 case neg=>
  have HE:=qH (HE2.out.trans (if_neg hc));have HCC:=qH hc;have HRP:=qH (yP w0 V g d O ns [nm,t1,t2] (some ⟨gl,0,none⟩) Ao An (some ad) n c no co kn cn 3 ct HS.out (by omega) K2);rw [if_neg hc,decide_eq_true hc] at HRP;clear hc;go_wp2_with fail;refine HRP.out.mono ?_;rintro e W5 ⟨rfl,hz5,hr5⟩;go_wp2;go_returns;have hzv:=HZV.out;have hz2:=HZ2.out;have hz3:=HZ3.out;rw [HE.out,show wS (d,[],K2)=[wZ K2] from if_neg HCC.out];exact ⟨rfl,by omega,hr5⟩
 subst hc;have HE3:=HE2.out.trans (if_pos rfl);obtain ⟨ey,hyB⟩:=HAZ.out rfl;have HYL:Hid (zy y=true):=qH (by rw [ey];exact hyB);rw [qi HYL.out] at HE3;have HE:=qH HE3;have HLT:=fun w=>lD y HYL w;obtain ⟨ty,hty⟩:=zN (xT y);rw [<-hty] at HLT HE;replace HLT:=qH HLT;clear HE3 ey hyB hty HAZ HE2;go_wp2_with fail;refine qR (HR0.out _) ?_;go_upto_region 7 with fail;refine zH (fun w'=>w'.cell? ⟨g,4,none⟩=some (.slice (some ⟨gl,0,none⟩) n c)/\w'.cell? ⟨gz,0,none⟩=some (.string y.name)/\w'.cell? ⟨gz,1,none⟩=some (.int .i64 y.length)/\w'.cell? ⟨gz,2,none⟩=some (.int .i64 y.b)/\w'.cell? ⟨gz,3,none⟩=some (.int .i64 y.i)/\w'.cell? ⟨gz,4,none⟩=some (.int .i64 y.h)/\w'.cell? ⟨gz,5,none⟩=some (.int .i64 y.p)) ?_ (fun hHeld=>?_)
 ·exact ⟨HS.out.blk.cell 4,HYB.out.cell 0,HYB.out.cell 1,HYB.out.cell 2,HYB.out.cell 3,HYB.out.cell 4,HYB.out.cell 5⟩
 refine zU 0 66 ?_;refine zU 1 67 ?_;refine zU 2 68 ?_;refine zU 3 69 ?_;refine zT 4 70 rfl (fun w hSw=>by
  obtain ⟨s0,s1,s2,s3,s4,s5,s6⟩:=hSw;go_simp;try with_reducible rfl) ?_
 refine zU 5 71 ?_;refine zT 6 72 rfl (fun w hSw=>by
  obtain ⟨s0,s1,s2,s3,s4,s5,s6⟩:=hSw;go_simp;try with_reducible rfl) ?_
 refine zU 7 73 ?_;refine zR 8 none rfl (fun K hK=>?_);have HSD:=HS.out.below (Below.refl V.heap.size V).drew;refine wp_store_mid 100 _ _ rfl gl (k * 6) (cL y) (by rfl) rfl (lN HSD.own (by show k * 6 + 6<=n * 6;omega)) (by kernel_rfl) (by simp [Value.oneCell']) ?_;have HS9:=HSD.one k hkn y;have HY9:=Blk.grown (HYB.out.below (Below.refl _ _).drew) (xw gl y.cells (k * 6) V.drew) (fun e=>by injection e with e;exact hglz e.symm);have hz9:=(xw gl y.cells (k * 6) V.drew).size;obtain ⟨W9,hW9⟩:=zN (World.setCells V.drew gl (k * 6) y.cells);rw [<-hW9] at HS9 HY9 hz9
 show K _ (World.setCells V.drew gl (k * 6) y.cells)
 rw [<-hW9];clear hW9;refine hK.out _ _ ?_ (fun hHeld=>?_)
 ·(try dsimp only);exact ⟨HS9.blk.cell 4,HY9.cell 0,HY9.cell 1,HY9.cell 2,HY9.cell 3,HY9.cell 4,HY9.cell 5⟩
 clear hK K;try simp only [Act.put]
 refine zD ?_;clear hHeld;have HSN:=qH HS9;have HYN:=qH HY9;have HZ9:=qH (show V.heap.size<=W9.heap.size from hz9);clear HS9 HY9 hz9 HSD;go_wp2_with (refine yL gz HYN.out underlying100 ?_)
 refine qS (HLT.out _) fun W12 hb=>?_;have HS12:=qH (HSN.out.below hb);have HZ12:=qH hb.size;clear hb HYN HSN;go_wp2_with fail;refine (sZ w0 W12 g _ O ns [nm,t1,t2] (some ⟨gl,0,none⟩) Ao An (some ad) n c no co kn cn 3 ct HS12.out (by omega) ty).mono ?_;rintro e W13 ⟨rfl,hz13,hr13⟩;go_wp2;go_returns;have hzv:=HZV.out;have hz2:=HZ2.out;have hz3:=HZ3.out;have hz9:=HZ9.out;have hz12:=HZ12.out;rw [HE.out];exact ⟨rfl,by omega,hr13⟩
def wdT(ws:List ByteArray):List UInt8->Nat->List ByteArray
 | [],_=>[]
 | c :: r,k=>(if c=120 then [zf ws k] else if c=114 then [yB ⟨#[32]⟩ (ws.drop k)] else []) ++ wdT ws r (k + 1)
def wdN(ws:List ByteArray):List UInt8->Nat->List Int
 | [],_=>[]
 | c :: r,k=>(if c=120 then [] else if c=114 then [] else [zq (zf ws k)]) ++ wdN ws r (k + 1)
def yQ(ws:List ByteArray):List UInt8->Nat->Bool
 | [],_=>true
 | c :: r,k=>(if c=120 then true else if c=114 then true else okB (zf ws k)) && yQ ws r (k + 1)
theorem zbr{ws:List ByteArray}(h:ws.length=2):yz ws=zf ws 1:=by
 obtain ⟨a,b,rfl⟩:∃ a b,ws=[a,b]:=by
  rcases ws with _ | ⟨a,_ | ⟨b,_ | ⟨c,r⟩⟩⟩ <;> simp at h;exact ⟨a,b,rfl⟩
 exact rL _ _
theorem sO:zW ya=⟨#[120]⟩:=by decide
theorem jl:ye ya=⟨#[119]⟩:=by decide
theorem zaY{ws:List ByteArray}(h:zf ws 0=ya):isD ws=decide (2=ws.length):=by
 unfold isD wy;rw [h,jl,show xd ya wi=true from by decide,Bool.true_and,show (⟨#[119]⟩:ByteArray).size=1 from rfl,decide_eq_false (show ¬ (⟨#[119]⟩:ByteArray)=⟨#[43]⟩ from by decide),Bool.false_or,Bool.eq_iff_iff];simp only [Bool.and_eq_true,decide_eq_true_eq];omega
theorem tu:zW yc=⟨#[120]⟩:=by decide
theorem jn:ye yc=⟨#[119]⟩:=by decide
theorem za0{ws:List ByteArray}(h:zf ws 0=yc):isD ws=decide (2=ws.length):=by
 unfold isD wy;rw [h,jn,show xd yc wi=true from by decide,Bool.true_and,show (⟨#[119]⟩:ByteArray).size=1 from rfl,decide_eq_false (show ¬ (⟨#[119]⟩:ByteArray)=⟨#[43]⟩ from by decide),Bool.false_or,Bool.eq_iff_iff];simp only [Bool.and_eq_true,decide_eq_true_eq];omega
theorem ue:zW zw=⟨#[114]⟩:=by decide
theorem nT:ye zw=⟨#[43]⟩:=by decide
theorem dp{ws:List ByteArray}(h:zf ws 0=zw):isD ws=decide (2<=ws.length):=by
 unfold isD wy;rw [h,nT,show xd zw wi=true from by decide,Bool.true_and,show (⟨#[43]⟩:ByteArray).size=1 from rfl,decide_eq_true (show (⟨#[43]⟩:ByteArray)=⟨#[43]⟩ from rfl),Bool.true_or,Bool.and_true]
theorem tt:zW yb=⟨#[114]⟩:=by decide
theorem jm:ye yb=⟨#[43]⟩:=by decide
theorem zaZ{ws:List ByteArray}(h:zf ws 0=yb):isD ws=decide (2<=ws.length):=by
 unfold isD wy;rw [h,jm,show xd yb wi=true from by decide,Bool.true_and,show (⟨#[43]⟩:ByteArray).size=1 from rfl,decide_eq_true (show (⟨#[43]⟩:ByteArray)=⟨#[43]⟩ from rfl),Bool.true_or,Bool.and_true]
theorem uG:zW zO=⟨#[114]⟩:=by decide
theorem lv:ye zO=⟨#[43]⟩:=by decide
theorem bL{ws:List ByteArray}(h:zf ws 0=zO):isD ws=decide (2<=ws.length):=by
 unfold isD wy;rw [h,lv,show xd zO wi=true from by decide,Bool.true_and,show (⟨#[43]⟩:ByteArray).size=1 from rfl,decide_eq_true (show (⟨#[43]⟩:ByteArray)=⟨#[43]⟩ from rfl),Bool.true_or,Bool.and_true]
theorem uC:zW zJ=⟨#[120,120,120]⟩:=by decide
theorem lp:ye zJ=⟨#[119,119,119]⟩:=by decide
theorem bH{ws:List ByteArray}(h:zf ws 0=zJ):isD ws=decide (4=ws.length):=by
 unfold isD wy;rw [h,lp,show xd zJ wi=true from by decide,Bool.true_and,show (⟨#[119,119,119]⟩:ByteArray).size=3 from rfl,decide_eq_false (show ¬ (⟨#[119,119,119]⟩:ByteArray)=⟨#[43]⟩ from by decide),Bool.false_or,Bool.eq_iff_iff];simp only [Bool.and_eq_true,decide_eq_true_eq];omega
theorem sk:zW yv=⟨#[110,110,110]⟩:=by decide
theorem fC:ye yv=⟨#[110,110,110]⟩:=by decide
theorem zcq{ws:List ByteArray}(h:zf ws 0=yv):isD ws=decide (4=ws.length):=by
 unfold isD wy;rw [h,fC,show xd yv wi=true from by decide,Bool.true_and,show (⟨#[110,110,110]⟩:ByteArray).size=3 from rfl,decide_eq_false (show ¬ (⟨#[110,110,110]⟩:ByteArray)=⟨#[43]⟩ from by decide),Bool.false_or,Bool.eq_iff_iff];simp only [Bool.and_eq_true,decide_eq_true_eq];omega
theorem uF:zW zM=⟨#[110,110,110,110]⟩:=by decide
theorem lu:ye zM=⟨#[110,110,110,110]⟩:=by decide
theorem bK{ws:List ByteArray}(h:zf ws 0=zM):isD ws=decide (5=ws.length):=by
 unfold isD wy;rw [h,lu,show xd zM wi=true from by decide,Bool.true_and,show (⟨#[110,110,110,110]⟩:ByteArray).size=4 from rfl,decide_eq_false (show ¬ (⟨#[110,110,110,110]⟩:ByteArray)=⟨#[43]⟩ from by decide),Bool.false_or,Bool.eq_iff_iff];simp only [Bool.and_eq_true,decide_eq_true_eq];omega
theorem uD:zW zL=⟨#[110,120,110]⟩:=by decide
theorem lq:ye zL=⟨#[110,119,110]⟩:=by decide
theorem bI{ws:List ByteArray}(h:zf ws 0=zL):isD ws=decide (4=ws.length):=by
 unfold isD wy;rw [h,lq,show xd zL wi=true from by decide,Bool.true_and,show (⟨#[110,119,110]⟩:ByteArray).size=3 from rfl,decide_eq_false (show ¬ (⟨#[110,119,110]⟩:ByteArray)=⟨#[43]⟩ from by decide),Bool.false_or,Bool.eq_iff_iff];simp only [Bool.and_eq_true,decide_eq_true_eq];omega
theorem uE:zW zV=⟨#[]⟩:=by decide
theorem lr:ye zV=⟨#[]⟩:=by decide
theorem bJ{ws:List ByteArray}(h:zf ws 0=zV):isD ws=decide (1=ws.length):=by
 unfold isD wy;rw [h,lr,show xd zV wi=true from by decide,Bool.true_and,show (⟨#[]⟩:ByteArray).size=0 from rfl,decide_eq_false (show ¬ (⟨#[]⟩:ByteArray)=⟨#[43]⟩ from by decide),Bool.false_or,Bool.eq_iff_iff];simp only [Bool.and_eq_true,decide_eq_true_eq];omega
theorem sl:zW yE=⟨#[]⟩:=by decide
theorem fD:ye yE=⟨#[]⟩:=by decide
theorem zcr{ws:List ByteArray}(h:zf ws 0=yE):isD ws=decide (1=ws.length):=by
 unfold isD wy;rw [h,fD,show xd yE wi=true from by decide,Bool.true_and,show (⟨#[]⟩:ByteArray).size=0 from rfl,decide_eq_false (show ¬ (⟨#[]⟩:ByteArray)=⟨#[43]⟩ from by decide),Bool.false_or,Bool.eq_iff_iff];simp only [Bool.and_eq_true,decide_eq_true_eq];omega
theorem mF(t:ByteArray):t=ya\/t=yc\/t=zw\/t=yb\/t=zO\/t=zJ\/t=yv\/t=zM\/t=zL\/t=zV\/t=yE\/(zW t=⟨#[45]⟩/\xd t wi=false):=by
 by_cases hfoot:t=ya
 ·simp [hfoot]
 by_cases hneed:t=yc
 ·simp [hneed]
 by_cases hclause:t=zw
 ·simp [hclause]
 by_cases hlast:t=yb
 ·simp [hlast]
 by_cases hstyle:t=zO
 ·simp [hstyle]
 by_cases halter:t=zJ
 ·simp [halter]
 by_cases hfit:t=yv
 ·simp [hfit]
 by_cases hraise:t=zM
 ·simp [hraise]
 by_cases henter:t=zL
 ·simp [henter]
 by_cases hlasts:t=zV
 ·simp [hlasts]
 by_cases hlog:t=yE
 ·simp [hlog]
 refine .inr (.inr (.inr (.inr (.inr (.inr (.inr (.inr (.inr (.inr (.inr (⟨?_,?_⟩)))))))))))
 ·unfold zW;simp only [hfoot,hneed,hclause,hlast,hstyle,halter,hfit,hraise,henter,hlasts,hlog,if_false]
 ·rw [<-Bool.not_eq_true];intro h;rw [memB_iff] at h;simp only [wi,List.mem_cons,List.not_mem_nil,or_false] at h;rcases h with h | h | h | h | h | h | h | h | h | h | h <;> first | exact hfoot h | exact hneed h | exact hclause h | exact hlast h | exact hstyle h | exact halter h | exact hfit h | exact hraise h | exact henter h | exact hlasts h | exact hlog h
theorem fV(ws:List ByteArray)(hd:isD ws=true):xH ws (ye (zf ws 0)).data.toList 1=if yQ ws (zW (zf ws 0)).data.toList 1=true then some (wdN ws (zW (zf ws 0)).data.toList 1) else none:=by
 rcases mF (zf ws 0) with h | h | h | h | h | h | h | h | h | h | h | ⟨h1,h2⟩
 ·rw [h,sO,jl];rfl
 ·rw [h,tu,jn];rfl
 ·rw [h,ue,nT];rfl
 ·rw [h,tt,jm];rfl
 ·rw [h,uG,lv];rfl
 ·rw [h,uC,lp];rfl
 ·rw [h,sk,fC];simp only [xH,yQ,wdN];by_cases o1:okB (zf ws 1)=true <;> by_cases o2:okB (zf ws 2)=true <;> by_cases o3:okB (zf ws 3)=true <;> simp [o1,o2,o3]
 ·rw [h,uF,lu];simp only [xH,yQ,wdN];by_cases o1:okB (zf ws 1)=true <;> by_cases o2:okB (zf ws 2)=true <;> by_cases o3:okB (zf ws 3)=true <;> by_cases o4:okB (zf ws 4)=true <;> simp [o1,o2,o3,o4]
 ·rw [h,uD,lq];simp only [xH,yQ,wdN];by_cases o1:okB (zf ws 1)=true <;> by_cases o3:okB (zf ws 3)=true <;> simp [o1,o3]
 ·rw [h,uE,lr];rfl
 ·rw [h,sl,fD];rfl
 ·exact absurd hd (by unfold isD;rw [h2];simp)
end Go.Proofs.YtpiehlfffjhoaaaGreatDoor
