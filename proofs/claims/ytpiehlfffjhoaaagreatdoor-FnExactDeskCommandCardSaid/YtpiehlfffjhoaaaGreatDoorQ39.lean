/- Lemmas for the law on the console: the parts CrI,CrJ. -/
import Derived.Test.YtpiehlfffjhoaaaGreatDoorQ37
import Derived.Test.YtpiehlfffjhoaaaGreatDoorQ38
namespace Go.Proofs.YtpiehlfffjhoaaaGreatDoor
open Go.RowKit Go.Proofs.Tryz
set_option maxRecDepth 100000
set_option maxHeartbeats 8000000
theorem ge{P G:World->Nat->Prop}{goal:Prop}(h:Hid (∀ V gz,P V gz->G V gz)->goal)(k:∀ V gz,P V gz->G V gz):goal:=h (qH k)
theorem zae(w0 w:World)(g:Nat)(d:Dk)(O:List ByteArray)(ns:List Int)(ts:List ByteArray)(A Ao An At:Option Addr)(n c no co kn cn kt ct:Nat)(t:ByteArray)(h:SR w0 w g d O ns ts A Ao An At n c no co kn cn kt ct)(hno:no<=900000)(hd:d.ok=true)(ht:ts[0]?=some t)(htz:t.size<=1048576) :
 Calls prog 109 #[.pointer (some ⟨g,0,none⟩)] w (vl w0 g (wF d t).1 (O ++ wS (wF d t)) ns ts w (.tuple #[])):=by
 obtain ⟨ad,hAt,hcol,d0⟩:=zh h.texts ht;subst hAt;have d1:w.cell? ad=some (.string t):=by rw [<-show ad.add 0=ad from by unfold Addr.add;split <;> simp_all];exact d0
 have hkt:0 < kt:=by rw [<-h.ht];exact (List.getElem?_eq_some_iff.1 ht).1
 have c17:=uz h.blk;obtain ⟨hfB,hlB,hsB,hcB⟩:=yj hd;have HFT:=qH (pq hsB);have HRF:=fun w=>kM t htz w;have HSO:=qH (fun (hc:(rdC t)=0)=>(show yZ (rdS t)=true from by
  have h9:=(rW hd (t:=t) (by unfold wF;rw [if_pos hc])).1;unfold wF at h9;rw [if_pos hc] at h9;exact (yj h9).2.2.1))
 have HYE:=qH (fun (hc:(rdC t)=0)=>(show wF d t=(⟨d.f,d.xs,(rdS t),d.lg⟩,[xQ (rdS t)],0) from if_pos hc));have HNO:=qH (fun (hc:¬ (rdC t)=0)=>(show wF d t=(d,[],(rdC t)) from if_neg hc));obtain ⟨y,hy⟩:=zN (rdS t);obtain ⟨K,hK⟩:=zN (rdC t);rw [<-hy,<-hK] at HRF;rw [<-hy,<-hK] at HSO HYE;rw [<-hK] at HNO;replace HRF:=qH HRF;have H:=qH h;clear hy hK h hfB hlB hsB hcB hd d0;go_in;go_wp2_with fail;refine qS (HRF.out _) fun W2 hb=>?_;have HR2:=qH (H.out.below hb);obtain ⟨gz,hgz⟩:=zN W2.heap.size;obtain ⟨W3,hW3⟩:=zN (W2.alloc (Obj.cells cT 30));have HB0:Hid (Blk W3 gz 30 cT):=qH (by rw [hW3,hgz];exact Blk.new _ _ _);have hb3:Below W2.heap.size W2 W3:=by rw [hW3];exact zc (Below.refl _ _) _
 have hgne:g < gz:=by have:=HR2.out.blk.lt;omega
 have hz2:=hb.size;have hgz2:W2.heap.size<=gz:=by omega
 clear d1 hcol c17;have HG:=qH hgz;have HW:=qH hW3;have HZ2:=qH hz2;clear hgz hW3 hz2 hb;by_cases hc:K=0
 case neg=>
  have HE:=qH (HNO.out hc);have HCC:=qH hc;go_wp2_with (first | (rw [<-HW.out,<-HG.out];refine yS gz (cS y) HB0.out ?_;have HF4:Hid (Blk (World.setRow W3 gz (cS y)) gz 30 (cS y)):=qH (setRow_heap _ _ _ _ _ _ HB0.out);have HS4:=qH (HR2.out.below (zg hb3 hgz2 (cS y)));have HZ4:=qH (zg hb3 hgz2 (cS y)).size;obtain ⟨W4,hW4⟩:∃ z,z=World.setRow W3 gz (cS y):=⟨_,rfl⟩;rw [<-hW4] at HF4 HS4 HZ4 |-;clear hW4))
  have HRP:=qH (yP w0 W4 g d O ns ts A Ao An (some ad) n c no co kn cn kt ct HS4.out (by omega) K);rw [if_neg hc,decide_eq_true hc] at HRP;clear hc;refine HRP.out.mono ?_;rintro e W5 ⟨rfl,hz5,hr5⟩;go_wp2;go_returns;have hz2:=HZ2.out;have hz4:=HZ4.out;rw [HE.out,show wS (d,[],K)=[wZ K] from if_neg HCC.out];exact ⟨rfl,by omega,hr5⟩
 subst hc;have HE:=qH (HYE.out rfl);have HSB:=qH (HSO.out rfl);have HR0:=qH (fun W=>vG (.pointer (some ⟨g,0,none⟩)) W);go_wp2_with (first | (rw [<-HW.out,<-HG.out];refine yS gz (cS y) HB0.out ?_;have HF4:Hid (Blk (World.setRow W3 gz (cS y)) gz 30 (cS y)):=qH (setRow_heap _ _ _ _ _ _ HB0.out);have HS4:=qH (HR2.out.below (zg hb3 hgz2 (cS y)));have HZ4:=qH (zg hb3 hgz2 (cS y)).size;obtain ⟨W4,hW4⟩:∃ z,z=World.setRow W3 gz (cS y):=⟨_,rfl⟩;rw [<-hW4] at HF4 HS4 HZ4 |-;clear hW4))
 refine qR (HR0.out _) ?_;go_wp2_with (first
  | (refine yL gz HF4.out underlying30 ?_)
  | (refine wpList_store_mid rfl 30 _ _ rfl g 5 (cS y) rfl rfl (vZ HS4.out.blk (by show 5 + 9<=18;omega)) (by kernel_rfl) (by simp [Value.oneCell']) ?_
     have HS5:=qH (HS4.out.mid (e:=⟨d.f,d.xs,y,d.lg⟩) 5 (Array.toList (cS y)) rfl (ri [Value.string y.u,Value.string y.c,Value.string y.l,Value.string y.s,Value.int .i64 y.t,Value.int .i64 y.h,Value.int .i64 y.e,Value.int .i64 y.d,Value.bool y.q] [Value.int .i64 d.f.length,Value.int .i64 d.f.b,Value.int .i64 d.f.i,Value.int .i64 d.f.h,Value.slice A n c,Value.string d.s.u,Value.string d.s.c,Value.string d.s.l,Value.string d.s.s,Value.int .i64 d.s.t,Value.int .i64 d.s.h,Value.int .i64 d.s.e,Value.int .i64 d.s.d,Value.bool d.s.q,Value.string d.lg,Value.slice Ao no co,Value.slice An kn cn,Value.slice (some ad) kt ct] 5 W4 HS4.out.blk));have HF5:=qH (tO (g':=g) HF4.out (by omega) (o:=5) (Array.toList (cS y)));have HZ5:=qH (xw g (Array.toList (cS y)) 5 W4).size;obtain ⟨W5,hW5⟩:=zN (World.setCells W4 g 5 (Array.toList (cS y)));rw [<-hW5] at HS5 HF5 HZ5 |-;clear hW5 HS4 HF4))
 refine qS (nX y HSB gz W5 HF5.out) fun W6 hb6=>?_;have HS6:=qH (HS5.out.below hb6);have HZ6:=qH hb6.size;clear hb6 HF5 HS5;go_wp2_with fail;refine (sZ w0 W6 g _ O ns ts A Ao An (some ad) n c no co kn cn kt ct HS6.out (by omega) (xQ y)).mono ?_;rintro e W7 ⟨rfl,hz7,hr7⟩;go_wp2;go_returns;have hz2:=HZ2.out;have hz4:=HZ4.out;have hz5:=HZ5.out;have hz6:=HZ6.out;rw [HE.out];exact ⟨rfl,by omega,hr7⟩
theorem ce(w0 w:World)(g:Nat)(d:Dk)(O:List ByteArray)(ns:List Int)(ts:List ByteArray)(A Ao An At:Option Addr)(n c no co kn cn kt ct:Nat)(t:ByteArray)(h:SR w0 w g d O ns ts A Ao An At n c no co kn cn kt ct)(hno:no<=900000)(hd:d.ok=true)(ht:ts[0]?=some t)(htz:t.size<=1048576) :
 Calls prog 100 #[.pointer (some ⟨g,0,none⟩)] w (vl w0 g (xV d t).1 (O ++ wS (xV d t)) ns ts w (.tuple #[])):=by
 obtain ⟨ad,hAt,hcol,d0⟩:=zh h.texts ht;subst hAt;have d1:w.cell? ad=some (.string t):=by rw [<-show ad.add 0=ad from by unfold Addr.add;split <;> simp_all];exact d0
 have hkt:0 < kt:=by rw [<-h.ht];exact (List.getElem?_eq_some_iff.1 ht).1
 have c17:=uz h.blk;obtain ⟨hfB,hlB,hsB,hcB⟩:=yj hd;have HFT:=qH (pq hsB);have HRF:=fun w=>mG d.s HFT t htz w;have HSO:=qH (fun (hc:(wn d.s t)=0)=>(show yZ (yX d.s t)=true from by
  have h9:=(sL hd (t:=t) (by unfold xV;rw [if_pos hc])).1;unfold xV at h9;rw [if_pos hc] at h9;exact (yj h9).2.2.1))
 have HYE:=qH (fun (hc:(wn d.s t)=0)=>(show xV d t=(⟨d.f,d.xs,(yX d.s t),d.lg⟩,[xQ (yX d.s t)],0) from if_pos hc));have HNO:=qH (fun (hc:¬ (wn d.s t)=0)=>(show xV d t=(d,[],(wn d.s t)) from if_neg hc));obtain ⟨y,hy⟩:=zN (yX d.s t);obtain ⟨K,hK⟩:=zN (wn d.s t);rw [<-hy,<-hK] at HRF;rw [<-hy,<-hK] at HSO HYE;rw [<-hK] at HNO;replace HRF:=qH HRF;have H:=qH h;clear hy hK h hfB hlB hsB hcB hd d0;go_in;go_upto_region 0 with fail;apply ge (P:=fun V gz=>SR w0 V g d O ns ts A Ao An (some ad) n c no co kn cn kt ct/\Blk V gz 30 (cS y)/\g≠gz/\w.heap.size<=V.heap.size)
 · intro key;have s0:=yc5 H.out.blk;have s1:=yc6 H.out.blk;have s2:=yc7 H.out.blk;have s3:=yc8 H.out.blk;have s4:=yc9 H.out.blk;have s5:=zdn H.out.blk;have s6:=zdo H.out.blk;have s7:=zdp H.out.blk;have s8:=zdq H.out.blk;refine zH (fun w'=>Below w.heap.size w w'/\True) ?_ (fun hHeld=>?_)
   ·exact ⟨(Below.refl _ _).drew,trivial⟩
   have hd9:=hHeld.1;refine zU 0 5 ?_;refine zU 1 6 ?_;refine zU 2 7 ?_;refine zU 3 8 ?_;refine zT 4 9 rfl (fun w hSw=>by
    have x_s0:=zb hSw.1 s0;have x_s1:=zb hSw.1 s1;have x_s2:=zb hSw.1 s2;have x_s3:=zb hSw.1 s3;have x_s4:=zb hSw.1 s4;have x_s5:=zb hSw.1 s5;have x_s6:=zb hSw.1 s6;have x_s7:=zb hSw.1 s7;have x_s8:=zb hSw.1 s8;go_simp;try with_reducible rfl) ?_
   refine zU 5 10 ?_;refine zU 6 11 ?_;refine zU 7 12 ?_;refine zT 8 13 rfl (fun w hSw=>by
    have x_c17:=zb hSw.1 c17;go_simp;try with_reducible rfl) ?_
   refine zU 9 14 ?_;refine zT 10 15 rfl (fun w hSw=>by
    have x_d1:=zb hSw.1 d1;go_simp;try with_reducible rfl) ?_
   clear s0 s1 s2 s3 s4 s5 s6 s7 s8;refine wpAnyH_ready (rs:=[11,15]) (by as_aux_lemma=>kernel_rfl) (by simp) ?_;refine AllReadyH.cons (o:={ dst:=some 16,op:=_,type:=_,pos:=_,after:=_,guard:=_ }) rfl (fun K hK=>?_) (AllReadyH.cons (o:={ dst:=some 2,op:=_,type:=_,pos:=_,after:=_,guard:=_ }) rfl (fun K hK=>?_) AllReadyH.nil)
   · go_simp;go_split_ands;refine qS (HRF.out _) fun W2 hb9=>?_;replace hd9:=za hd9 hb9;clear hb9;go_wp2_with fail;refine zK hK ⟨hd9,trivial⟩ (fun hHeld=>?_);clear hK K;refine zU 12 4 ?_;refine zU 13 17 ?_;refine zU 14 18 ?_;refine zR 15 (some 2) rfl (fun K hK=>?_);go_simp;go_split_ands;obtain ⟨gz,hgz⟩:=zN ((W2).heap.size);obtain ⟨W3,hW3⟩:=zN (World.alloc (W2) (Obj.cells cT 30));have HB0:Hid (Blk W3 gz 30 cT):=qH (by rw [hW3,hgz];exact Blk.new _ _ _);have hb9:Below (W2).heap.size (W2) W3:=by rw [hW3];exact zc (Below.refl _ _) _
     have hgz2:w.heap.size<=gz:=by rw [hgz];exact hd9.size
     replace hd9:=za hd9 hb9;rw [<-hW3,<-hgz];clear hb9 hgz hW3;refine zK hK ⟨hd9,trivial⟩ (fun hHeld=>?_);clear hK K;refine zR 16 none rfl (fun K hK=>?_)
     skip
     go_split_ands;refine wp_store_row 30 _ _ rfl gz (cS y) rfl rfl 30 cT HB0.out (by kernel_rfl) rfl (by simp [Value.oneCell']) ?_;have HF4:Hid (Blk (World.setRow W3 gz (cS y)) gz 30 (cS y)):=qH (setRow_heap _ _ _ _ _ _ HB0.out);have hd7:=zg hd9 hgz2 (cS y);obtain ⟨W4,hW4⟩:=zN (World.setRow W3 gz (cS y));rw [<-hW4] at HF4 hd7 |-;clear hW4;refine hK.out _ _ ?_ (fun hHeld=>?_)
     ·(try dsimp only);go_split_ands;exact ⟨hd7,trivial⟩
     clear hK K;(try simp only [Act.put]);refine zU 17 3 ?_;refine zD ?_;clear hHeld;exact key.out W4 gz ⟨H.out.below hd7,HF4.out,by have:=H.out.blk.lt;omega,hd7.size⟩
   · go_simp;go_split_ands;obtain ⟨gz,hgz⟩:=zN w.heap.size;obtain ⟨W3,hW3⟩:=zN (World.drew (World.alloc w (Obj.cells cT 30)));have HB0:Hid (Blk W3 gz 30 cT):=qH (by rw [hW3,hgz];exact Blk.new w _ _);have hb9:Below w.drew.heap.size w.drew W3:=by rw [hW3];exact zc (Below.refl _ _) _
     have hgz2:w.heap.size<=gz:=by omega
     replace hd9:=za hd9 hb9;rw [<-hW3,<-hgz];clear hb9 hgz hW3;refine zK hK ⟨hd9,trivial⟩ (fun hHeld=>?_);clear hK K;refine zR 11 (some 16) rfl (fun K hK=>?_);go_simp;go_split_ands;refine qS (HRF.out _) fun W2 hb9=>?_;replace hd9:=za hd9 hb9;replace HB0:=qH (HB0.out.below hb9);clear hb9;go_wp2_with fail;refine zK hK ⟨hd9,trivial⟩ (fun hHeld=>?_);clear hK K;refine zU 12 4 ?_;refine zU 13 17 ?_;refine zU 14 18 ?_;refine zR 16 none rfl (fun K hK=>?_)
     skip
     go_split_ands;refine wp_store_row 30 _ _ rfl gz (cS y) rfl rfl 30 cT HB0.out (by kernel_rfl) rfl (by simp [Value.oneCell']) ?_;have HF4:Hid (Blk (World.setRow W2 gz (cS y)) gz 30 (cS y)):=qH (setRow_heap _ _ _ _ _ _ HB0.out);have hd7:=zg hd9 hgz2 (cS y);obtain ⟨W4,hW4⟩:=zN (World.setRow W2 gz (cS y));rw [<-hW4] at HF4 hd7 |-;clear hW4;refine hK.out _ _ ?_ (fun hHeld=>?_)
     ·(try dsimp only);go_split_ands;exact ⟨hd7,trivial⟩
     clear hK K;(try simp only [Act.put]);refine zU 17 3 ?_;refine zD ?_;clear hHeld;exact key.out W4 gz ⟨H.out.below hd7,HF4.out,by have:=H.out.blk.lt;omega,hd7.size⟩
 · intro W4 gz hP;obtain ⟨hS4,hF4,hgne,hz4⟩:=hP;have HS4:=qH hS4;have HF4:=qH hF4;have HZ4:=qH hz4;clear hS4 hF4 hz4;by_cases hc:K=0
   case neg=>
    have HE:=qH (HNO.out hc);have HCC:=qH hc;go_wp2_with fail;have HRP:=qH (yP w0 W4 g d O ns ts A Ao An (some ad) n c no co kn cn kt ct HS4.out (by omega) K);rw [if_neg hc,decide_eq_true hc] at HRP;clear hc;refine HRP.out.mono ?_;rintro e W5 ⟨rfl,hz5,hr5⟩;go_wp2;go_returns;have hz4:=HZ4.out;rw [HE.out,show wS (d,[],K)=[wZ K] from if_neg HCC.out];exact ⟨rfl,by omega,hr5⟩
   subst hc;have HE:=qH (HYE.out rfl);have HSB:=qH (HSO.out rfl);have HR0:=qH (fun W=>vG (.pointer (some ⟨g,0,none⟩)) W);go_wp2_with fail;refine qR (HR0.out _) ?_;go_wp2_with (first
    | (refine yL gz HF4.out underlying30 ?_)
    | (refine wpList_store_mid rfl 30 _ _ rfl g 5 (cS y) rfl rfl (vZ HS4.out.blk (by show 5 + 9<=18;omega)) (by kernel_rfl) (by simp [Value.oneCell']) ?_
       have HS5:=qH (HS4.out.mid (e:=⟨d.f,d.xs,y,d.lg⟩) 5 (Array.toList (cS y)) rfl (ri [Value.string y.u,Value.string y.c,Value.string y.l,Value.string y.s,Value.int .i64 y.t,Value.int .i64 y.h,Value.int .i64 y.e,Value.int .i64 y.d,Value.bool y.q] [Value.int .i64 d.f.length,Value.int .i64 d.f.b,Value.int .i64 d.f.i,Value.int .i64 d.f.h,Value.slice A n c,Value.string d.s.u,Value.string d.s.c,Value.string d.s.l,Value.string d.s.s,Value.int .i64 d.s.t,Value.int .i64 d.s.h,Value.int .i64 d.s.e,Value.int .i64 d.s.d,Value.bool d.s.q,Value.string d.lg,Value.slice Ao no co,Value.slice An kn cn,Value.slice (some ad) kt ct] 5 W4 HS4.out.blk));have HF5:=qH (tO (g':=g) HF4.out (by omega) (o:=5) (Array.toList (cS y)));have HZ5:=qH (xw g (Array.toList (cS y)) 5 W4).size;obtain ⟨W5,hW5⟩:=zN (World.setCells W4 g 5 (Array.toList (cS y)));rw [<-hW5] at HS5 HF5 HZ5 |-;clear hW5 HS4 HF4))
   refine qS (nX y HSB gz W5 HF5.out) fun W6 hb6=>?_;have HS6:=qH (HS5.out.below hb6);have HZ6:=qH hb6.size;clear hb6 HF5 HS5;go_wp2_with fail;refine (sZ w0 W6 g _ O ns ts A Ao An (some ad) n c no co kn cn kt ct HS6.out (by omega) (xQ y)).mono ?_;rintro e W7 ⟨rfl,hz7,hr7⟩;go_wp2;go_returns;have hz4:=HZ4.out;have hz5:=HZ5.out;have hz6:=HZ6.out;rw [HE.out];exact ⟨rfl,by omega,hr7⟩
theorem zac(w0 w:World)(g:Nat)(d:Dk)(O:List ByteArray)(ns:List Int)(ts:List ByteArray)(A Ao An At:Option Addr)(n c no co kn cn kt ct:Nat)(h:SR w0 w g d O ns ts A Ao An At n c no co kn cn kt ct)(hno:no<=900000)(hd:d.ok=true) :
 Calls prog 105 #[.pointer (some ⟨g,0,none⟩)] w (vl w0 g (vS d).1 (O ++ wS (vS d)) ns ts w (.tuple #[])):=by
 obtain ⟨i0,hi0,hz0,hz1,hz2⟩:=info_parts (P:=prog) (e:=9) (z:=.string ByteArray.empty) (size:=1) (bytes:=16) vL;obtain ⟨hfB,hlB,hsB,hcB⟩:=yj hd;have hn30:n<=30:=by rw [<-h.hn];exact wj hlB
 have HLA:=qH (fun x hx=>xc hlB x hx);have HN:=qH h.hn;have H:=qH h;clear h hfB hlB hsB hcB hd;go_in;go_upto_region 1 with fail;obtain ⟨g0,hg0⟩:=zN w.heap.size;obtain ⟨W2,hW2⟩:=zN (w.alloc (Obj.cells #[] 9));have HR0:Hid (W2.ownsRow w.heap.size 9 1 (.slice (some ⟨g0,0,none⟩) 0 0) 0 (zd zt ((d.xs.take 0).map xT))):=qH (by rw [hW2,hg0];exact zI w w.heap.size 9 1 (Nat.le_refl _));have hb2:Below w.heap.size w W2:=by rw [hW2];exact zc (Below.refl _ _) _
 rw [<-hW2,<-hg0];clear hW2 hg0;go_wp2_with fail
 go_loopw [2,3] (fun v i wr=>∃ (j gr c':Nat),i=.int .i64 j/\v=.slice (some ⟨gr,0,none⟩) j c'/\j<=n/\Hid (wr.ownsRow w.heap.size 9 1 (.slice (some ⟨gr,0,none⟩) j c') j (zd zt ((d.xs.take j).map xT)))/\Below w.heap.size w wr) (fun _ i _=>n - (intOf i).toNat)
 case atStart=>exact ⟨0,g0,_,rfl,rfl,by omega,HR0,hb2⟩
 case round=>
 clear HR0 hb2;obtain ⟨j,gr,c',rfl,rfl,hj,HR,hv⟩:=hrel;have hi0':(0:Int)<=(j:Int):=by omega
 have HSR:=qH (H.out.below hv);have c4:=yc4 HSR.out.blk;by_cases hlt:j < n
 case neg=>
  have hi1:¬ (j:Int) < (n:Int):=by omega
  obtain rfl:j=n:=by omega
  have htk:d.xs.take j=d.xs:=List.take_of_length_le (by rw [HN.out];exact Nat.le_refl _);rw [htk] at HR;have HLS:=qH (ah w0 wr g d O (d.xs.map xT) ns ts A Ao An At (some ⟨gr,0,none⟩) j c no co kn cn kt ct j c' HSR.out hno (qH (by rw [List.length_map];exact HN.out)) (by omega) (Arr.own HR.out));have HE:Hid (O ++ wS (vS d)=O ++ d.xs.map xT ++ [okW j]):=qH (by
   rw [List.append_assoc]
   show O ++ (d.xs.map xT ++ [okW d.xs.length])=_
   rw [HN.out])
  have hz:=hv.size;clear htk;go_wp2_with fail;refine HLS.out.mono ?_;rintro e W5 ⟨rfl,hz5,hr5⟩;go_wp2;go_returns;rw [HE.out];exact ⟨rfl,by omega,hr5⟩
 case pos=>
 have hi1:(j:Int) < (n:Int):=by omega
 obtain ⟨x,hx⟩:=zx (xs:=d.xs) (k:=j) (by rw [HN.out];exact hlt);obtain ⟨ad,hAd,hab,c0,c1,c2,c3,c4',c5⟩:=Last.at_ (Arr.own HSR.out.own) hx;subst hAd;have HX:Hid (zy x=true):=qH (HLA.out x (List.mem_of_getElem? hx));have HLT:=fun w=>lD x HX w;obtain ⟨t,ht⟩:=zN (xT x);rw [<-ht] at HLT;have e9:zd zt ((d.xs.take (j + 1)).map xT)=zd zt ((d.xs.take j).map xT) ++ #[Value.string t].toList:=by rw [yJ hx,List.map_append,ht];simp [zd,zt]
 have E9:=qH e9;replace HLT:=qH HLT;clear hx ht e9 HSR;go_wp2_with fail;refine qS (HLT.out _) fun W5 hb=>?_;replace HR:=qH (ze HR.out hb);replace hv:=za hv hb;clear hb c0 c1 c2 c3 c4' c5 HLT c4;have hat:=zn HR.out;go_wp2_with (at_builtin;refine yu W5 #[.string t] rfl _ _ 24 9 rfl i0 _ 1 16 underlying24 hi0 hz0 hz1 hz2 rfl (by omega) w.heap.size (some ⟨gr,0,none⟩) j c' _ rfl _ rfl rfl HR.out rfl (by simp [Value.oneCell']) (by unfold maxLen;omega) (by omega) hv.size ?_;intro g7 c7 w7 hown7 hg7 hfr7)
 exact ⟨⟨j + 1,g7,c7,by go_num,rfl,by omega,qH (by rw [E9.out];exact hown7),zi hv hg7 hat⟩,by simp [intOf];omega⟩
theorem zcX(w0 w:World)(g:Nat)(d:Dk)(O:List ByteArray)(ns:List Int)(ts:List ByteArray)(A Ao An At:Option Addr)(n c no co kn cn kt ct:Nat)(h:SR w0 w g d O ns ts A Ao An At n c no co kn cn kt ct)(hno:no<=900000)(hd:d.ok=true) :
 Calls prog 106 #[.pointer (some ⟨g,0,none⟩)] w (vl w0 g (sF d).1 (O ++ wS (sF d)) ns ts w (.tuple #[])):=by
 obtain ⟨i0,hi0,hz0,hz1,hz2⟩:=info_parts (P:=prog) (e:=9) (z:=.string ByteArray.empty) (size:=1) (bytes:=16) vL;obtain ⟨hfB,hlB,hsB,hcB⟩:=yj hd;have hlg:=vo hcB;have HGD:=vO d.lg;have hfew:=Nat.le_trans (re d.lg) hlg;have HRL:=fun w=>rQ d.lg (by omega) w;have HE0:sF d=(d,(rdL d.lg).1.map yd ++ [okW (rdL d.lg).1.length],0):=rfl;unfold el at HRL;rw [hcB] at HRL;have HEN:=qH HGD.ent;obtain ⟨es,hes⟩:=zN ((rdL d.lg).1);obtain ⟨st,hst⟩:=zN ((rdL d.lg).2.1);obtain ⟨sn,hsn⟩:=zN ((rdL d.lg).2.2);rw [<-hes] at HRL HE0 HEN hfew;rw [<-hst,<-hsn] at HRL;obtain ⟨m,hm⟩:=zN es.length;rw [<-hm] at HRL HE0 hfew;have HN:=qH hm.symm;replace HRL:=qH HRL;have HE:=qH HE0;have c14:=pt h.blk;have H:=qH h;clear HGD hes hst hsn hm HE0 h hfB hlB hsB hcB hd;go_in;go_wp2_with fail;refine (HRL.out _).mono ?_;rintro e W ⟨g4,rfl,hg4,hRS,hb⟩;obtain ⟨B,cb,hB4,hown4,_⟩:=hRS trivial;have HB4:=qH hB4;have HA4:=qH (Arr.own hown4);have hlt4:=hB4.lt;have HSW:=qH (H.out.below hb);have HZW:=qH hb.size;clear hRS hB4 hown4 hb c14 HRL;go_upto_region 2 with fail;obtain ⟨g0,hg0⟩:=zN W.heap.size;obtain ⟨W2,hW2⟩:=zN (W.alloc (Obj.cells #[] 9));have HR0:Hid (W2.ownsRow W.heap.size 9 1 (.slice (some ⟨g0,0,none⟩) 0 0) 0 (zd zt ((es.take 0).map yd))):=qH (by rw [hW2,hg0];exact zI W W.heap.size 9 1 (Nat.le_refl _));have hb2:Below W.heap.size W W2:=by rw [hW2];exact zc (Below.refl _ _) _
 rw [<-hW2,<-hg0];clear hW2 hg0;go_wp2_with fail
 go_loopw [4,5] (fun v i wr=>∃ (j gr c':Nat),i=.int .i64 j/\v=.slice (some ⟨gr,0,none⟩) j c'/\j<=m/\Hid (wr.ownsRow W.heap.size 9 1 (.slice (some ⟨gr,0,none⟩) j c') j (zd zt ((es.take j).map yd)))/\Below W.heap.size W wr) (fun _ i _=>m - (intOf i).toNat)
 case atStart=>exact ⟨0,g0,_,rfl,rfl,by omega,HR0,hb2⟩
 case round=>
 clear HR0 hb2;obtain ⟨j,gr,c',rfl,rfl,hj,HR,hv⟩:=hrel;have hi0':(0:Int)<=(j:Int):=by omega
 have k3:=yc3 (HB4.out.below hv);by_cases hlt:j < m
 case neg=>
  have hi1:¬ (j:Int) < (m:Int):=by omega
  obtain rfl:j=m:=by omega
  have htk:es.take j=es:=List.take_of_length_le (by rw [HN.out];exact Nat.le_refl _);rw [htk] at HR;have HLS:=qH (ah w0 wr g d O (es.map yd) ns ts A Ao An At (some ⟨gr,0,none⟩) n c no co kn cn kt ct j c' (HSW.out.below hv) hno (qH (by rw [List.length_map];exact HN.out)) (by omega) (Arr.own HR.out));have HE2:Hid (O ++ wS (sF d)=O ++ es.map yd ++ [okW j]):=qH (by
   rw [List.append_assoc,HE.out];rfl)
  have hz:=hv.size;clear htk;go_wp2_with fail;refine HLS.out.mono ?_;rintro e W5 ⟨rfl,hz5,hr5⟩;go_wp2;go_returns;have hzw:=HZW.out;rw [HE2.out];exact ⟨rfl,by omega,hr5⟩
 case pos=>
 have hi1:(j:Int) < (m:Int):=by omega
 obtain ⟨x,hx⟩:=zx (xs:=es) (k:=j) (by rw [HN.out];exact hlt);obtain ⟨ad,hAd,hab,c0,c1,c2⟩:=Entry.at_ (HA4.out.below hv) hx;subst hAd;have HX:=qH (HEN.out x (List.mem_of_getElem? hx));have HLT:=qH (fun w c0 c1 c2=>sR (ad.add (j * 3)) x HX.out w c0 c1 c2);obtain ⟨t,ht⟩:=zN (yd x);rw [<-ht] at HLT;have e9:zd zt ((es.take (j + 1)).map yd)=zd zt ((es.take j).map yd) ++ #[Value.string t].toList:=by rw [yJ hx,List.map_append,ht];simp [zd,zt]
 have E9:=qH e9;clear hx ht e9;go_wp2_with fail;refine qS (HLT.out _ c0 c1 c2) fun W5 hb=>?_;replace HR:=qH (ze HR.out hb);replace hv:=za hv hb;clear hb c0 c1 c2 HLT k3;have hat:=zn HR.out;go_wp2_with (at_builtin;refine yu W5 #[.string t] rfl _ _ 24 9 rfl i0 _ 1 16 underlying24 hi0 hz0 hz1 hz2 rfl (by omega) W.heap.size (some ⟨gr,0,none⟩) j c' _ rfl _ rfl rfl HR.out rfl (by simp [Value.oneCell']) (by unfold maxLen;omega) (by omega) hv.size ?_;intro g7 c7 w7 hown7 hg7 hfr7)
 exact ⟨⟨j + 1,g7,c7,by go_num,rfl,by omega,qH (by rw [E9.out];exact hown7),zi hv hg7 hat⟩,by simp [intOf];omega⟩
end Go.Proofs.YtpiehlfffjhoaaaGreatDoor
