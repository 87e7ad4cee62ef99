/- Lemmas for the law on the console: the parts CoI,CoJ. -/
import Derived.Test.YtpiehlfffjhoaaaGreatDoorQ30
namespace Go.Proofs.YtpiehlfffjhoaaaGreatDoor
open Go.RowKit Go.Proofs.Tryz
set_option maxRecDepth 100000
set_option maxHeartbeats 8000000
theorem zcj(w0 w:World)(gd ga:Nat)(f:Foot)(xs:List Last)(s:Style)(lg:ByteArray)(n c:Nat)(A An:Option Addr)(ws:List ByteArray)(ns:List Int)(nw kn cn:Nat)(h:XIn w0 w gd ga f xs s lg n c A An ws ns nw kn)(hk:zf ws 0=yv)(h2:2<=nw)(gn:Nat)(hAn:An=some ⟨gn,0,none⟩)(h3:kn=3) :
 Calls prog 35 #[.pointer (some ⟨gd,0,none⟩),.slice (some ⟨ga,0,none⟩) nw nw,.slice An kn cn] w (OutX w0 gd (uQ ⟨f,xs,s,lg⟩ (yW ns 0) (yW ns 1) (yW ns 2))):=by
 have HBW:=qH h.hbw;have HWS:=qH h.hws;have HD:Hid (Blk w gd 32 (cD f A n c s lg)):=qH h.hdk;have HO:=qH h.hown;have HNE:=qH h.hne;have HT:=qH h.htabs;have HCN:=qH h.hchg;have HOK:=qH h.hok;have HSZ:=qH h.hsz;have hn:=h.hn;have hnw:=h.hnw;have hkn:=h.hkn;have hgd:=h.hgd;have hn30:=h.n30;have hnw0:=h.nw0;have hnw1:=h.nw1;have HJ:=qH (h.join);have hx0:=h.word0 hk;have HK:=qH hk;obtain ⟨hfB,hlB,hsB,hcB⟩:=yj h.hok;have HNZ:Hid (∀ x ∈ xs,x.name.size<=9223372036854775807):=qH (fun x hx=>Nat.le_trans (yH (xc hlB x hx)) (by omega));have n0:=h.numO hAn (k:=0) (by omega);have n1:=h.numO hAn (k:=1) (by omega);have n2:=h.numO hAn (k:=2) (by omega);subst h3;subst hAn;clear h hk;have hl1:(1:Int)<=(nw:Int):=by omega
 have hl2:¬ (nw - 1=0):=by omega
 have hl0:(0:Int) < (nw:Int):=by omega
 have hx1:w.cell? ⟨ga,0,none⟩=some (.string ⟨#[102,105,116]⟩):=hx0;clear hx0;go_in;go_wp2_with fail;refine qS HJ.out fun W hb=>?_;obtain ⟨rt,hrt⟩:=zN (yz ws);have HRT:=qH hrt;rw [<-hrt];clear hrt HJ;replace HBW:=qH (za HBW.out hb);replace HD:=qH (HD.out.below hb);replace HO:=qH (ze HO.out hb);replace hx1:=zb hb hx1;replace n0:=zb hb n0;replace n1:=zb hb n1;replace n2:=zb hb n2;clear hb;clear hl1 hl2;obtain ⟨lo,hlo⟩:=zN (yW ns 0);obtain ⟨hi,hhi⟩:=zN (yW ns 1);obtain ⟨gi,hgi⟩:=zN (yW ns 2);rw [<-hlo] at n0;rw [<-hhi] at n1;rw [<-hgi] at n2;have HLO:=qH hlo;have HHI:=qH hhi;have HGI:=qH hgi;clear hlo hhi hgi;have HBL:=fun gw w h1 h2=>ei A xs n c f lo hi gi gw hn (by omega) HNZ w h1 h2;have HFD:uQ ⟨f,xs,s,lg⟩ lo hi gi=if (xE xs f lo hi gi).2=0 then (⟨f,xs,s,lg⟩,[((xs[(xE xs f lo hi gi).1.toNat]?).getD ut).name],0) else (⟨f,xs,s,lg⟩,[],(xE xs f lo hi gi).2):=rfl
 have HBZ:=qH (fun h=>pF (xs:=xs) (f:=f) (lo:=lo) (hi:=hi) (gi:=gi) h);obtain ⟨r,hr⟩:=zN (xE xs f lo hi gi);rw [<-hr] at HBL HFD HBZ;clear hr;obtain ⟨kv,co⟩:=r;dsimp only at HBL HFD HBZ;replace HBL:=qH HBL;replace HFD:=qH HFD;go_upto_region 27 with fail;have c4:=yc4 HD.out;have c0:=yc0 HD.out;have c1:=yc1 HD.out;have c2:=yc2 HD.out;have c3:=yc3 HD.out;refine zH (fun w'=>Below W.heap.size W w'/\True) ?_ (fun hHeld=>?_)
 ·exact ⟨(Below.refl _ _).drew,trivial⟩
 have hd9:=hHeld.1;refine zU 0 115 ?_;refine zU 1 116 ?_;refine zU 2 117 ?_;refine zT 3 118 rfl (fun w hSw=>by
  have x_c4:=zb hSw.1 c4;go_simp;try with_reducible rfl) ?_
 refine zU 4 119 ?_;refine zU 5 120 ?_;refine zU 6 121 ?_;refine zT 7 122 rfl (fun w hSw=>by
  have x_c0:=zb hSw.1 c0;have x_c1:=zb hSw.1 c1;have x_c2:=zb hSw.1 c2;have x_c3:=zb hSw.1 c3;go_simp;try with_reducible rfl) ?_
 refine zU 8 123 ?_;refine zU 9 124 ?_;refine zT 10 125 rfl (fun w hSw=>by
  have x_n0:=zb hSw.1 n0;go_simp;try with_reducible rfl) ?_
 refine zU 11 126 ?_;refine zU 12 127 ?_;refine zT 13 128 rfl (fun w hSw=>by
  have x_n1:=zb hSw.1 n1;go_simp;try with_reducible rfl) ?_
 refine zU 14 129 ?_;refine zU 15 130 ?_;refine zT 16 131 rfl (fun w hSw=>by
  have x_n2:=zb hSw.1 n2;go_simp;try with_reducible rfl) ?_
 refine zR 17 (some 132) rfl (fun K hK=>?_);go_simp;go_split_ands;obtain ⟨W5,hW5⟩:=zN (World.drew (World.alloc W (Obj.cells #[.int .i64 1,.int .i64 1,.int .i64 1,.int .i64 1] 2)));obtain ⟨gw,hgx⟩:=zN W.heap.size;have HX0:Hid (Blk W5 gw 2 #[.int .i64 1,.int .i64 1,.int .i64 1,.int .i64 1]):=qH (by rw [hW5,hgx];exact Blk.new W _ _);have hb9:Below W.drew.heap.size W.drew W5:=by rw [hW5];exact zc (Below.refl _ _) _
 replace hd9:=za hd9 hb9;rw [<-hW5,<-hgx];clear hW5 hgx hb9;refine zK hK ⟨hd9,trivial⟩ (fun hHeld=>?_);clear hK K;refine zU 18 133 ?_;refine zR 19 (some 134) rfl (fun K hK=>?_);go_simp;go_split_ands;refine qS (HBL.out gw _ ((Arr.own HO.out).below hd9) HX0.out) fun V hb9=>?_;replace hd9:=za hd9 hb9;clear hb9 HX0 HBL;go_wp2_with fail;refine zK hK ⟨hd9,trivial⟩ (fun hHeld=>?_);clear hK K;refine zU 20 114 ?_;refine zU 21 135 ?_;refine zU 22 136 ?_;refine zU 23 18 ?_;refine zU 24 19 ?_;refine zD ?_;clear hHeld c4 c0 c1 c2 c3 n0 n1 n2;have hb:=hd9;clear hd9;replace HBW:=qH (za HBW.out hb);replace HD:=qH (HD.out.below hb);replace HO:=qH (ze HO.out hb);clear hb;by_cases hc:co=0
 case neg=>
  have HE:=qH (HFD.out.trans (if_neg hc));go_wp2;go_returns;exact OutX.no (by rw [<-HLO.out,<-HHI.out,<-HGI.out,HE.out]) hc HBW.out
 subst hc;obtain ⟨k,x,rfl,hx,_⟩:=HBZ.out rfl;have HE:=qH (HFD.out.trans (if_pos rfl));rw [Int.toNat_natCast,hx] at HE;obtain ⟨ad,hAd,hab,e0,e1,e2,e3,e4,e5⟩:=Last.at_ (Arr.own HO.out) hx;have hkn2:k < n:=by rw [<-hn.out];exact (List.getElem?_eq_some_iff.1 hx).1
 subst hAd;clear hx HBZ HFD;have hk0:(0:Int)<=(k:Int):=by omega
 have hk1:(k:Int) < (n:Int):=by omega
 have c4:=yc4 HD.out;go_wp2;go_returns;exact OutX.one (by rw [<-HLO.out,<-HHI.out,<-HGI.out,HE.out];rfl) hn.out HBW.out HO.out HD.out
theorem zaL(w0 w:World)(gd ga:Nat)(f:Foot)(xs:List Last)(s:Style)(lg:ByteArray)(n c:Nat)(A An:Option Addr)(ws:List ByteArray)(ns:List Int)(nw kn cn:Nat)(h:XIn w0 w gd ga f xs s lg n c A An ws ns nw kn)(hk:zf ws 0=yc)(h2:2<=nw) :
 Calls prog 35 #[.pointer (some ⟨gd,0,none⟩),.slice (some ⟨ga,0,none⟩) nw nw,.slice An kn cn] w (OutX w0 gd (vW ⟨f,xs,s,lg⟩ (zf ws 1))):=by
 have HBW:=qH h.hbw;have HWS:=qH h.hws;have HD:Hid (Blk w gd 32 (cD f A n c s lg)):=qH h.hdk;have HO:=qH h.hown;have HNE:=qH h.hne;have HT:=qH h.htabs;have HCN:=qH h.hchg;have HOK:=qH h.hok;have HSZ:=qH h.hsz;have hn:=h.hn;have hnw:=h.hnw;have hkn:=h.hkn;have hgd:=h.hgd;have hn30:=h.n30;have hnw0:=h.nw0;have hnw1:=h.nw1;have HJ:=qH (h.join);have hx0:=h.word0 hk;have HK:=qH hk;obtain ⟨hfB,hlB,hsB,hcB⟩:=yj h.hok;have HNZ:Hid (∀ x ∈ xs,x.name.size<=9223372036854775807):=qH (fun x hx=>Nat.le_trans (yH (xc hlB x hx)) (by omega));have w1:=h.word (k:=1) (by omega);have hwz:=h.hsz (zf ws 1);have hwm:zf ws 1 ∈ ws:=by
  unfold zf;have h3:1 < ws.length:=by rw [h.hnw.out];omega
  rw [List.getD_eq_getElem?_getD,List.getElem?_eq_getElem h3];exact List.getElem_mem h3
 replace hwz:=hwz hwm;clear hwm;clear h hk;have hl1:(1:Int)<=(nw:Int):=by omega
 have hl2:¬ (nw - 1=0):=by omega
 have hl0:(0:Int) < (nw:Int):=by omega
 have hx1:w.cell? ⟨ga,0,none⟩=some (.string ⟨#[110,101,101,100]⟩):=hx0;clear hx0;go_in;go_wp2_with fail;refine qS HJ.out fun W hb=>?_;obtain ⟨rt,hrt⟩:=zN (yz ws);have HRT:=qH hrt;rw [<-hrt];clear hrt HJ;replace HBW:=qH (za HBW.out hb);replace HD:=qH (HD.out.below hb);replace HO:=qH (ze HO.out hb);replace hx1:=zb hb hx1;replace w1:=zb hb w1;clear hb;clear hl1 hl2;obtain ⟨nm,hnm⟩:=zN (zf ws 1);rw [<-hnm] at w1 hwz;have HNM:=qH hnm;clear hnm;have hl1:(1:Int) < (nw:Int):=by omega
 have c4:=yc4 HD.out;have HLN:=qH (oV gd A xs n c nm hn (by omega) HNZ (by omega) W (Arr.own HO.out) c4);have HND:vW ⟨f,xs,s,lg⟩ nm=if (yw xs nm).2=0 then (⟨f,xs,s,lg⟩,[uj (wK (atD ⟨f,xs,s,lg⟩ nm) f)],0) else (⟨f,xs,s,lg⟩,[],(yw xs nm).2):=rfl
 clear c4;go_wp2_with fail;refine qS HLN.out fun W2 hb=>?_;clear HLN;replace HBW:=qH (za HBW.out hb);replace HD:=qH (HD.out.below hb);replace HO:=qH (ze HO.out hb);clear hb;have hsz:=HBW.out.size;obtain ⟨gz,hgz⟩:=zN W2.heap.size;obtain ⟨W3,hW3⟩:=zN (W2.alloc (Obj.cells cM 100));have HB0:Hid (Blk W3 gz 100 cM):=qH (by rw [hW3,hgz];exact Blk.new _ _ _);have hb:Below W2.heap.size W2 W3:=by rw [hW3];exact zc (Below.refl _ _) _
 have hgw:w0.heap.size<=gz:=by omega
 have hgne:gd < gz:=by have:=HD.out.lt;omega
 have hone:Hid (∀ k,(Value.slice A n c).ownBlock=some k->k≠gz):=qH (fun k e=>by have:=yr HO.out k e;omega);have HG:=qH hgz;have HW:=qH hW3;clear hgz hW3;replace HBW:=qH (za HBW.out hb);replace HD:=qH (HD.out.below hb);replace HO:=qH (ze HO.out hb);clear hb;by_cases hc:(yw xs nm).2=0
 case neg=>
  rw [jK hc];have HE:=qH (HND.trans (if_neg hc));obtain ⟨co,hco⟩:=zN ((yw xs nm).2);rw [<-hco] at HE hc |-;rw [show mo (ut,0,co)=#[.agg #[.string ⟨#[]⟩,.int .i64 0,.int .i64 0,.int .i64 0,.int .i64 0,.int .i64 0],.int .i64 0,.int .i64 co] from rfl];clear hco HND;go_wp2_with (rw [<-HW.out,<-HG.out];refine yS gz cM HB0.out ?_)
  go_returns;exact OutX.no (by rw [<-HNM.out,HE.out]) hc (zg HBW.out hgw _)
 obtain ⟨k,x,hk,hx,hnv⟩:=mS hc;have hat:atD ⟨f,xs,s,lg⟩ nm=x:=by unfold atD;dsimp only;rw [hk,Int.toNat_natCast,hx];rfl
 have HE0:=HND.trans (if_pos hc);rw [hat] at HE0;have HXB:=qH (xc hlB x (List.mem_of_getElem? hx));have HNB:=oF HXB.out hfB;have HNO:=fun w=>zbf x f HXB (qH hfB) w;have HRW:uj (wK x f)=yB ⟨#[32]⟩ (xL (wK x f)):=rfl;rw [hnv];rw [show mo (x,(k:Int),0)=#[.agg #[.string x.name,.int .i64 x.length,.int .i64 x.b,.int .i64 x.i,.int .i64 x.h,.int .i64 x.p],.int .i64 (k:Int),.int .i64 0] from rfl];obtain ⟨ps,hps⟩:=zN (wK x f);rw [<-hps] at HE0 HNB HNO HRW;have hp3:ps.length=3:=by rw [hps];rfl
 have HE:=qH HE0;have HNT:=qH (fun B d w h t=>sG ⟨#[32]⟩ (by decide) B ps 3 d (qH hp3) (by omega) (by omega) (qH (fun v hv=>by have:=HNB.2 v hv;omega)) w h t);replace HNO:=qH HNO;replace HRW:=qH HRW;replace hp3:=qH hp3;clear hps HE0 HNB HND hat hnv hx hk hc;go_upto_region 35 with (rw [<-HW.out,<-HG.out];refine yS gz (cL x) HB0.out ?_;have hf4:Blk (World.setRow W3 gz (cL x)) gz 100 (cL x):=setRow_heap _ _ _ _ _ _ HB0.out;have hg4:=yl W3 gz (cL x);have hd4:=HD.out.grown hg4 (fun e=>by injection e with e;omega);have ho4:=wD HO.out hone.out (cL x);have hw4:=zg HBW.out hgw (cL x);clear hg4 HD HO HBW HB0;obtain ⟨W4,hW4⟩:∃ z,z=World.setRow W3 gz (cL x):=⟨_,rfl⟩;rw [<-hW4] at hf4 hd4 ho4 hw4 |-;have HB0:=qH hf4;have HD:=qH hd4;have HO:=qH ho4;have HBW:=qH hw4;clear hW4 hf4 hd4 ho4 hw4)
 obtain ⟨m0,m1,m2,m3,m4,m5⟩:=qC6 HB0.out;have c0:=yc0 HD.out;have c1:=yc1 HD.out;have c2:=yc2 HD.out;have c3:=yc3 HD.out;refine zH (fun w'=>Below W4.heap.size W4 w'/\True) ?_ (fun hHeld=>?_)
 ·exact ⟨(Below.refl _ _).drew,trivial⟩
 have hd9:=hHeld.1;refine zT 0 163 rfl (fun w hSw=>by
  have x_m0:=zb hSw.1 m0;have x_m1:=zb hSw.1 m1;have x_m2:=zb hSw.1 m2;have x_m3:=zb hSw.1 m3;have x_m4:=zb hSw.1 m4;have x_m5:=zb hSw.1 m5;go_simp;try with_reducible rfl) ?_
 refine zU 1 164 ?_;refine zU 2 165 ?_;refine zU 3 166 ?_;refine zT 4 167 rfl (fun w hSw=>by
  have x_c0:=zb hSw.1 c0;have x_c1:=zb hSw.1 c1;have x_c2:=zb hSw.1 c2;have x_c3:=zb hSw.1 c3;go_simp;try with_reducible rfl) ?_
 clear c0 c1 c2 c3 m0 m1 m2 m3 m4 m5;refine zR 5 (some 168) rfl (fun K hK=>?_);go_simp;go_split_ands;refine (HNO.out _).mono ?_;rintro e V1 ⟨B,mm,d,rfl,hmm,hB,hb9⟩;obtain rfl:mm=3:=by rw [<-hmm];exact hp3.out
 replace hd9:=za hd9 hb9;have HBA:=qH hB;clear hb9 hB hmm HNO;go_wp2_with fail;refine zK hK ⟨hd9,trivial⟩ (fun hHeld=>?_);clear hK K;refine zR 6 (some 169) rfl (fun K hK=>?_);go_simp;go_split_ands;refine qS (HNT.out B d _ HBA.out (HT.out.below (za HBW.out hd9))) fun V2 hb9=>?_;replace hd9:=za hd9 hb9;clear hb9 HBA HNT;go_wp2_with fail;refine zK hK ⟨hd9,trivial⟩ (fun hHeld=>?_);clear hK K;refine zR 7 (some 170) rfl (fun K hK=>?_);go_simp;go_split_ands;have hb:=hd9;refine zK hK ⟨zc hd9 _,trivial⟩ (fun hHeld=>?_);clear hK K;refine zU 8 6 ?_;refine zU 9 7 ?_;refine zD ?_;clear hHeld hd9;replace HBW:=qH (za HBW.out hb);replace HD:=qH (HD.out.below hb);replace HO:=qH (ze HO.out hb);clear hb;go_wp2;go_returns;exact OutX.one (by rw [<-HNM.out,HE.out,HRW.out]) hn.out HBW.out HO.out HD.out
theorem px{g n c base e size:Nat}:∀ (vs cs:List Value) (o:Nat) (w:World),w.ownsRow base e size (.slice (some ⟨g,0,none⟩) n c) n cs->(w.setCells g o vs).ownsRow base e size (.slice (some ⟨g,0,none⟩) n c) n (ur cs o vs):=by
 intro vs
 induction vs with
 | nil=>intro cs o w h;exact h
 | cons v r ih=>
   intro cs o w h;exact ih _ _ _ (h.stored o v).1
theorem jk{xs:List Last}{k:Nat}{y:Last}(hk:k < xs.length):ur (zd Last.cells xs) (k * 6) y.cells=zd Last.cells (xs.set k y):=by
 have hl:(zd Last.cells xs).length=xs.length * 6:=yK Last.cells_length xs;have hy:y.cells.length=6:=Last.cells_length y;have key:∀ (xs:List Last) (k:Nat),k < xs.length->(zd Last.cells xs).take (k * 6) ++ y.cells ++ (zd Last.cells xs).drop (k * 6 + 6)=zd Last.cells (xs.set k y):=by
  intro xs
  induction xs with
  | nil=>intro k h;simp at h
  | cons x r ih=>
    intro k h;cases k with
    | zero=>
      have hx:x.cells.length=6:=Last.cells_length x;simp [zd,hx]
    | succ k=>
      have hx:x.cells.length=6:=Last.cells_length x;have h1:=ih k (by simpa using h);have e1:zd Last.cells (x :: r)=x.cells ++ zd Last.cells r:=by simp [zd]
      rw [e1,List.set_cons_succ];have e2:zd Last.cells (x :: r.set k y)=x.cells ++ zd Last.cells (r.set k y):=by simp [zd]
      rw [e2,<-h1];have e3:(k + 1) * 6=x.cells.length + k * 6:=by omega
      have e4:(k + 1) * 6 + 6=x.cells.length + (k * 6 + 6):=by omega
      rw [e4,e3,List.take_length_add_append,List.drop_length_add_append];simp [List.append_assoc]
 rw [mw _ _ _ (by rw [hl,hy];omega),hy];exact key xs k hk
theorem lN{w:World}{base e n c g o m:Nat}{cs:List Value}{size:Nat}(h:w.ownsRow base e size (.slice (some ⟨g,0,none⟩) n c) n cs)(hm:o + m<=n * size):w.there g o m:=by
 rcases h.2 with ⟨hv,_⟩ | ⟨g',cap,cur,hv,_,hg,hnc,_,hcs,_⟩
 ·cases hv
 ·simp only [Value.slice.injEq,Option.some.injEq,Addr.mk.injEq,and_true] at hv;obtain ⟨rfl,_,rfl⟩:=hv;have hle:n * size<=c * size:=Nat.mul_le_mul_right _ hnc;exact vZ (cs:=cur) hg (by rw [hcs];omega)
theorem cR(w0 w:World)(gd ga:Nat)(f:Foot)(xs:List Last)(s:Style)(lg:ByteArray)(n c:Nat)(A An:Option Addr)(ws:List ByteArray)(ns:List Int)(nw kn cn:Nat)(h:XIn w0 w gd ga f xs s lg n c A An ws ns nw kn)(hk:zf ws 0=zJ)(_h2:2<=nw)(h4:4<=nw) :
 Calls prog 35 #[.pointer (some ⟨gd,0,none⟩),.slice (some ⟨ga,0,none⟩) nw nw,.slice An kn cn] w (OutX w0 gd (xB ⟨f,xs,s,lg⟩ (zf ws 1) (zf ws 2 ++ ⟨#[32]⟩ ++ zf ws 3))):=by
 have HBW:=qH h.hbw;have HWS:=qH h.hws;have HD:Hid (Blk w gd 32 (cD f A n c s lg)):=qH h.hdk;have HO:=qH h.hown;have HNE:=qH h.hne;have HT:=qH h.htabs;have HCN:=qH h.hchg;have HOK:=qH h.hok;have HSZ:=qH h.hsz;have hn:=h.hn;have hnw:=h.hnw;have hkn:=h.hkn;have hgd:=h.hgd;have hn30:=h.n30;have hnw0:=h.nw0;have hnw1:=h.nw1;have HJ:=qH (h.join);have hx0:=h.word0 hk;have HK:=qH hk;obtain ⟨hfB,hlB,hsB,hcB⟩:=yj h.hok;have HNZ:Hid (∀ x ∈ xs,x.name.size<=9223372036854775807):=qH (fun x hx=>Nat.le_trans (yH (xc hlB x hx)) (by omega));have HLB:=qH hlB;have hz1:=h.hsz (zf ws 1);have hm1:zf ws 1 ∈ ws:=by
  unfold zf;have h3:1 < ws.length:=by rw [h.hnw.out];omega
  rw [List.getD_eq_getElem?_getD,List.getElem?_eq_getElem h3];exact List.getElem_mem h3
 replace hz1:=hz1 hm1;clear hm1;have w1:=h.word (k:=1) (by omega);have hz2:=h.hsz (zf ws 2);have hm2:zf ws 2 ∈ ws:=by
  unfold zf;have h3:2 < ws.length:=by rw [h.hnw.out];omega
  rw [List.getD_eq_getElem?_getD,List.getElem?_eq_getElem h3];exact List.getElem_mem h3
 replace hz2:=hz2 hm2;clear hm2;have w2:=h.word (k:=2) (by omega);have hz3:=h.hsz (zf ws 3);have hm3:zf ws 3 ∈ ws:=by
  unfold zf;have h3:3 < ws.length:=by rw [h.hnw.out];omega
  rw [List.getD_eq_getElem?_getD,List.getElem?_eq_getElem h3];exact List.getElem_mem h3
 replace hz3:=hz3 hm3;clear hm3;have w3:=h.word (k:=3) (by omega);clear hfB hlB hsB hcB;clear h hk;have hl1:(1:Int)<=(nw:Int):=by omega
 have hl2:¬ (nw - 1=0):=by omega
 have hl0:(0:Int) < (nw:Int):=by omega
 have hx1:w.cell? ⟨ga,0,none⟩=some (.string ⟨#[97,108,116,101,114]⟩):=hx0;clear hx0;go_in;go_wp2_with fail;refine qS HJ.out fun W hb=>?_;obtain ⟨rt,hrt⟩:=zN (yz ws);have HRT:=qH hrt;rw [<-hrt];clear hrt HJ;replace HBW:=qH (za HBW.out hb);replace HD:=qH (HD.out.below hb);replace HO:=qH (ze HO.out hb);replace hx1:=zb hb hx1;replace w1:=zb hb w1;replace w2:=zb hb w2;replace w3:=zb hb w3;clear hb;clear hl1 hl2;obtain ⟨p1,hp1⟩:=zN (zf ws 1);rw [<-hp1] at w1 hz1;have HP1:=qH hp1;clear hp1;obtain ⟨p2,hp2⟩:=zN (zf ws 2);rw [<-hp2] at w2 hz2;have HP2:=qH hp2;clear hp2;obtain ⟨p3,hp3⟩:=zN (zf ws 3);rw [<-hp3] at w3 hz3;have HP3:=qH hp3;clear hp3;have h1:(1:Int) < (nw:Int):=by omega
 have h2':(2:Int) < (nw:Int):=by omega
 have h3:(3:Int) < (nw:Int):=by omega
 have l1:(⟨#[32]⟩:ByteArray).size=1:=rfl;have a0:=fun (w:World)=>run_string_add_sum (P:=prog) w p2 ⟨#[32]⟩ (by omega);have a1:=fun (w:World)=>run_string_add_sum (P:=prog) w (p2 ++ ⟨#[32]⟩) p3 (by rw [zv];omega);have htz:(p2 ++ ⟨#[32]⟩ ++ p3).size<=4194304:=by rw [zv,zv];omega
 obtain ⟨tx,htx⟩:=zN (p2 ++ ⟨#[32]⟩ ++ p3);have HTX:=qH htx;rw [<-htx] at a1 htz;clear htx;have HRC:=fun w h1 h2=>kK tx htz w h1 h2;have HNO:=qH (fun (h:wv tx=none)=>(show xB ⟨f,xs,s,lg⟩ p1 tx=(⟨f,xs,s,lg⟩,[],7) by unfold xB;rw [h];rfl));have HYE:=qH (fun k a (h:wv tx=some (k,a))=>(show xB ⟨f,xs,s,lg⟩ p1 tx=if (yw xs p1).2=0 then
  (if (xZ (atD ⟨f,xs,s,lg⟩ p1) k a).2=0 then (⟨f,xs.set (yw xs p1).1.toNat (xZ (atD ⟨f,xs,s,lg⟩ p1) k a).1,s,lg⟩,[ltB (xZ (atD ⟨f,xs,s,lg⟩ p1) k a).1],0) else (⟨f,xs,s,lg⟩,[],(xZ (atD ⟨f,xs,s,lg⟩ p1) k a).2))
  else (⟨f,xs,s,lg⟩,[],(yw xs p1).2) by unfold xB;rw [h];rfl))
 obtain ⟨o,ho⟩:=zN (wv tx);rw [<-ho] at HRC HNO HYE;clear ho;obtain ⟨ck,hck⟩:=zN ((o.getD (0,0)).1);obtain ⟨ca,hca⟩:=zN ((o.getD (0,0)).2);obtain ⟨cb,hcb⟩:=zN o.isSome;unfold pg at HRC;rw [<-hck,<-hca,<-hcb] at HRC;have HCK:=qH hck;have HCA:=qH hca;have HCB:=qH hcb;replace HRC:=qH HRC;clear hck hca hcb;go_upto_region 37 with fail
 go_cut [23,24] (fun p b wx=>∃ gz,p=.pointer (some ⟨gz,0,none⟩)/\b=.bool cb/\W.heap.size<=gz/\Hid (Blk wx gz 126 #[.int .i64 ck,.int .i64 ca])/\Below W.heap.size W wx)
 case first=>
  refine zH (fun w'=>Below W.heap.size W w'/\True) ?_ (fun hHeld=>?_)
  ·exact ⟨(Below.refl _ _).drew,trivial⟩
  have hd9:=hHeld.1;refine zU 0 174 ?_;refine zU 1 175 ?_;refine zT 2 176 rfl (fun w hSw=>by
   have x_w2:=zb hSw.1 w2;go_simp;try with_reducible rfl) ?_
  refine zU 3 177 ?_;refine zU 4 178 ?_;refine zU 5 179 ?_;refine zT 6 180 rfl (fun w hSw=>by
   have x_w3:=zb hSw.1 w3;go_simp;try with_reducible rfl) ?_
  refine zU 7 181 ?_;refine wpAnyH_ready (rs:=[8,12]) (by as_aux_lemma=>kernel_rfl) (by simp) ?_;refine AllReadyH.cons (o:={ dst:=some 182,op:=_,type:=_,pos:=_,after:=_,guard:=_ }) rfl (fun K hK=>?_) (AllReadyH.cons (o:={ dst:=some 23,op:=_,type:=_,pos:=_,after:=_,guard:=_ }) rfl (fun K hK=>?_) AllReadyH.nil)
  · skip
    go_simp;go_split_ands;refine qS (HRC.out _ (HT.out.below (za HBW.out hd9)) (HCN.out.below (za HBW.out hd9))) fun V hb9=>?_;replace hd9:=za hd9 hb9;clear hb9;go_wp2_with fail;refine zK hK ⟨hd9,trivial⟩ (fun hHeld=>?_);clear hK K;refine zU 9 173 ?_;refine zU 10 183 ?_;refine zU 11 184 ?_;refine zR 12 (some 23) rfl (fun K hK=>?_);go_simp;go_split_ands;obtain ⟨V5,hV5⟩:=zN (World.alloc V (Obj.cells #[.int .i64 0,.int .i64 0] 126));obtain ⟨gz,hgz⟩:=zN V.heap.size;have HZ:Hid (Blk V5 gz 126 #[.int .i64 0,.int .i64 0]):=qH (by rw [hV5,hgz];exact Blk.new V _ _);have hzW:W.heap.size<=gz:=by rw [hgz];exact hd9.size
    have hb9:Below (V).heap.size (V) V5:=by rw [hV5];exact zc (Below.refl _ _) _
    replace hd9:=za hd9 hb9;rw [<-hV5,<-hgz];clear hV5 hgz hb9;refine zK hK ⟨hd9,trivial⟩ (fun hHeld=>?_);clear hK K;refine zR 13 none rfl (fun K hK=>?_)
    skip
    go_split_ands;refine wp_store_row 126 _ _ rfl gz #[.int .i64 ck,.int .i64 ca] rfl rfl 126 #[Value.int .i64 0,Value.int .i64 0] HZ.out (by kernel_rfl) rfl (by simp [Value.oneCell']) ?_;have HZ1:Hid (Blk (World.setRow V5 gz #[Value.int .i64 ck,Value.int .i64 ca]) gz 126 #[.int .i64 ck,.int .i64 ca]):=qH (setRow_heap _ _ _ _ _ _ HZ.out);have hd8:=zg hd9 hzW #[Value.int .i64 ck,Value.int .i64 ca];clear HZ hd9;obtain ⟨V6,hV6⟩:=zN (World.setRow V5 gz #[Value.int .i64 ck,Value.int .i64 ca]);rw [<-hV6] at HZ1 hd8 |-;clear hV6;refine hK.out _ _ ?_ (fun hHeld=>?_)
    ·(try dsimp only);go_split_ands;exact ⟨hd8,trivial⟩
    clear hK K;(try simp only [Act.put]);refine zU 14 24 ?_;refine zD ?_;go_wp2_with fail
    go_meet
    exact ⟨gz,rfl,rfl,hzW,HZ1,hd8⟩
  · skip
    go_simp;go_split_ands;obtain ⟨V5,hV5⟩:=zN (World.drew (World.alloc W (Obj.cells #[.int .i64 0,.int .i64 0] 126)));obtain ⟨gz,hgz⟩:=zN W.heap.size;have HZ:Hid (Blk V5 gz 126 #[.int .i64 0,.int .i64 0]):=qH (by rw [hV5,hgz];exact Blk.new W _ _);have hzW:W.heap.size<=gz:=by rw [hgz];exact hd9.size
    have hb9:Below (W.drew).heap.size (W.drew) V5:=by rw [hV5];exact zc (Below.refl _ _) _
    replace hd9:=za hd9 hb9;rw [<-hV5,<-hgz];clear hV5 hgz hb9;refine zK hK ⟨hd9,trivial⟩ (fun hHeld=>?_);clear hK K;refine zR 8 (some 182) rfl (fun K hK=>?_);go_simp;go_split_ands;refine qS (HRC.out _ (HT.out.below (za HBW.out hd9)) (HCN.out.below (za HBW.out hd9))) fun V hb9=>?_;have HZ2:=qH (HZ.out.below hb9);clear HZ;have HZ:=HZ2;clear HZ2;replace hd9:=za hd9 hb9;clear hb9;go_wp2_with fail;refine zK hK ⟨hd9,trivial⟩ (fun hHeld=>?_);clear hK K;refine zU 9 173 ?_;refine zU 10 183 ?_;refine zU 11 184 ?_;refine zR 13 none rfl (fun K hK=>?_)
    skip
    go_split_ands;refine wp_store_row 126 _ _ rfl gz #[.int .i64 ck,.int .i64 ca] rfl rfl 126 #[Value.int .i64 0,Value.int .i64 0] HZ.out (by kernel_rfl) rfl (by simp [Value.oneCell']) ?_;have HZ1:Hid (Blk (World.setRow V gz #[Value.int .i64 ck,Value.int .i64 ca]) gz 126 #[.int .i64 ck,.int .i64 ca]):=qH (setRow_heap _ _ _ _ _ _ HZ.out);have hd8:=zg hd9 hzW #[Value.int .i64 ck,Value.int .i64 ca];clear HZ hd9;obtain ⟨V6,hV6⟩:=zN (World.setRow V gz #[Value.int .i64 ck,Value.int .i64 ca]);rw [<-hV6] at HZ1 hd8 |-;clear hV6;refine hK.out _ _ ?_ (fun hHeld=>?_)
    ·(try dsimp only);go_split_ands;exact ⟨hd8,trivial⟩
    clear hK K;(try simp only [Act.put]);refine zU 14 24 ?_;refine zD ?_;go_wp2_with fail
    go_meet
    exact ⟨gz,rfl,rfl,hzW,HZ1,hd8⟩
 case rest=>
 clear a0 a1 w2 w3 HRC hx1;obtain ⟨gz,rfl,rfl,hgzW,HB0,hb⟩:=hcut
 rename World=>W4
 replace w1:=zb hb w1;have hgw0:w0.heap.size<=gz:=Nat.le_trans HBW.out.size hgzW;replace HBW:=qH (za HBW.out hb);replace HD:=qH (HD.out.below hb);replace HO:=qH (ze HO.out hb);clear hb;cases o with
 | none=>
   obtain rfl:cb=false:=HCB.out;have HE:=qH (HNO.out rfl);go_wp2;go_returns;exact OutX.no (by rw [<-HP1.out,<-HP2.out,<-HP3.out,<-HTX.out,HE.out]) (by decide) HBW.out
 | some p=>
 obtain ⟨k0,a0⟩:=p;obtain rfl:cb=true:=HCB.out;obtain rfl:ck=k0:=HCK.out;obtain rfl:ca=a0:=HCA.out;have HE0:=HYE.out _ _ rfl;have c4:=yc4 HD.out;have HLN:=qH (oV gd A xs n c p1 hn (by omega) HNZ (by omega) W4 (Arr.own HO.out) c4);clear c4 HNO HYE;go_wp2_with fail;refine qS HLN.out fun W5 hb=>?_;clear HLN w1;replace HBW:=qH (za HBW.out hb);replace HD:=qH (HD.out.below hb);replace HO:=qH (ze HO.out hb);replace HB0:=qH (HB0.out.below hb);clear hb;have hltz:=HB0.out.lt;have hszx:=HBW.out.size;obtain ⟨gx,hgz⟩:=zN W5.heap.size;obtain ⟨W6,hW3⟩:=zN (W5.alloc (Obj.cells cM 100));have HBX:Hid (Blk W6 gx 100 cM):=qH (by rw [hW3,hgz];exact Blk.new _ _ _);have hb:Below W5.heap.size W5 W6:=by rw [hW3];exact zc (Below.refl _ _) _
 have hgwx:w0.heap.size<=gx:=by omega
 have hgnex:gd < gx:=by have:=HD.out.lt;omega
 have honex:Hid (∀ k,(Value.slice A n c).ownBlock=some k->k≠gx):=qH (fun k e=>by have:=yr HO.out k e;omega);have hzx:gz < gx:=by omega
 have HGx:=qH hgz;have HWx:=qH hW3;clear hgz hW3;replace HBW:=qH (za HBW.out hb);replace HD:=qH (HD.out.below hb);replace HO:=qH (ze HO.out hb);replace HB0:=qH (HB0.out.below hb);clear hb;by_cases hc:(yw xs p1).2=0
 case neg=>
  rw [jK hc];have HE:=qH (HE0.trans (if_neg hc));obtain ⟨co,hco⟩:=zN ((yw xs p1).2);rw [<-hco] at HE hc |-;rw [show mo (ut,0,co)=#[.agg #[.string ⟨#[]⟩,.int .i64 0,.int .i64 0,.int .i64 0,.int .i64 0,.int .i64 0],.int .i64 0,.int .i64 co] from rfl];clear hco HE0;go_wp2_with (rw [<-HWx.out,<-HGx.out];refine yS gx cM HBX.out ?_)
  go_returns;exact OutX.no (by rw [<-HP1.out,<-HP2.out,<-HP3.out,<-HTX.out,HE.out]) hc (zg HBW.out hgwx _)
 obtain ⟨j,x,hk,hx,hnv⟩:=mS hc;have hat:atD ⟨f,xs,s,lg⟩ p1=x:=by unfold atD;dsimp only;rw [hk,Int.toNat_natCast,hx];rfl
 rw [if_pos hc,hat,hk,Int.toNat_natCast] at HE0;have HXB:=qH (xc HLB.out x (List.mem_of_getElem? hx));have hxz:x.name.size<=9223372036854775807:=Nat.le_trans (yH HXB.out) (by omega);have hjn:j < n:=by rw [<-hn.out];exact (List.getElem?_eq_some_iff.1 hx).1
 have HAP:=fun gc w h=>nG x ck ca gc hxz w h;have HAZ:=qH (fun h=>rD (x:=x) (k:=ck) (a:=ca) h);rw [hnv];rw [show mo (x,(j:Int),0)=#[.agg #[.string x.name,.int .i64 x.length,.int .i64 x.b,.int .i64 x.i,.int .i64 x.h,.int .i64 x.p],.int .i64 (j:Int),.int .i64 0] from rfl];unfold kH at HAP;obtain ⟨y,hy⟩:=zN ((xZ x ck ca).1);obtain ⟨co,hco⟩:=zN ((xZ x ck ca).2);rw [<-hy,<-hco] at HAP HE0 HAZ;replace HAP:=qH HAP;replace HE0:=qH HE0;clear hy hco hat hnv hx hk hc;go_upto_region 43 with (rw [<-HWx.out,<-HGx.out];refine yS gx (cL x) HBX.out ?_;have hf4:Blk (World.setRow W6 gx (cL x)) gx 100 (cL x):=setRow_heap _ _ _ _ _ _ HBX.out;have hg4:=yl W6 gx (cL x);have hd4:=HD.out.grown hg4 (fun e=>by injection e with e;omega);have ho4:=wD HO.out honex.out (cL x);have hw4:=zg HBW.out hgwx (cL x);have hx_HB0:=HB0.out.grown hg4 (fun e=>by injection e with e;omega);clear hg4 HD HO HBW HBX;obtain ⟨W7,hW4⟩:∃ z,z=World.setRow W6 gx (cL x):=⟨_,rfl⟩;rw [<-hW4] at hf4 hd4 ho4 hw4 hx_HB0 |-;have HBX:=qH hf4;have HD:=qH hd4;have HO:=qH ho4;have HBW:=qH hw4;replace HB0:=qH hx_HB0;clear hW4 hf4 hd4 ho4 hw4 hx_HB0)
 clear HWx HGx;obtain ⟨gc,hgc⟩:=zN W7.heap.size;obtain ⟨W8,hW8⟩:=zN (World.alloc W7 (Obj.cells #[.int .i64 ck,.int .i64 ca] 126));have HBC:Hid (Blk W8 gc 126 #[.int .i64 ck,.int .i64 ca]):=qH (by rw [hW8,hgc];exact Blk.new _ _ _);have hb8:Below W7.heap.size W7 W8:=by rw [hW8];exact zc (Below.refl _ _) _
 have HGc:=qH hgc;have HWc:=qH hW8;clear hgc hW8;go_wp2_with (first | (refine yL gx HBX.out underlying100 ?_) | (refine yL gz HB0.out underlying126 ?_))
 rw [<-HWc.out,<-HGc.out];refine qS (HAP.out gc _ HBC.out) fun W9 hb9=>?_;have hb:=za hb8 hb9;clear hb8 hb9 HAP HBC HWc HGc HB0;replace HBW:=qH (za HBW.out hb);replace HD:=qH (HD.out.below hb);replace HO:=qH (ze HO.out hb);replace HBX:=qH (HBX.out.below hb);clear hb;have honex2:Hid (∀ k,(Value.slice A n c).ownBlock=some k->k≠gx):=honex;by_cases hc:co=0
 case neg=>
  have HE:=qH (HE0.out.trans (if_neg hc));go_wp2_with (refine yS gx (cL y) HBX.out ?_;have hf4:Blk (World.setRow W9 gx (cL y)) gx 100 (cL y):=setRow_heap _ _ _ _ _ _ HBX.out;have hg4:=yl W9 gx (cL y);have hd4:=HD.out.grown hg4 (fun e=>by injection e with e;omega);have ho4:=wD HO.out honex.out (cL y);have hw4:=zg HBW.out hgwx (cL y);clear hg4 HD HO HBW HBX;obtain ⟨W10,hW4⟩:∃ z,z=World.setRow W9 gx (cL y):=⟨_,rfl⟩;rw [<-hW4] at hf4 hd4 ho4 hw4 |-;have HBX:=qH hf4;have HD:=qH hd4;have HO:=qH ho4;have HBW:=qH hw4;clear hW4 hf4 hd4 ho4 hw4)
  go_returns;exact OutX.no (by rw [<-HP1.out,<-HP2.out,<-HP3.out,<-HTX.out,HE.out]) hc HBW.out
 subst hc;have HE:=qH (HE0.out.trans (if_pos rfl));obtain ⟨ey,hyB⟩:=HAZ.out rfl;have HYB:Hid (zy y=true):=qH (by rw [ey];exact hyB);clear ey hyB HAZ HE0;go_upto_region 46 with (refine yS gx (cL y) HBX.out ?_;have hf4:Blk (World.setRow W9 gx (cL y)) gx 100 (cL y):=setRow_heap _ _ _ _ _ _ HBX.out;have hg4:=yl W9 gx (cL y);have hd4:=HD.out.grown hg4 (fun e=>by injection e with e;omega);have ho4:=wD HO.out honex.out (cL y);have hw4:=zg HBW.out hgwx (cL y);clear hg4 HD HO HBW HBX;obtain ⟨W10,hW4⟩:∃ z,z=World.setRow W9 gx (cL y):=⟨_,rfl⟩;rw [<-hW4] at hf4 hd4 ho4 hw4 |-;have HBX:=qH hf4;have HD:=qH hd4;have HO:=qH ho4;have HBW:=qH hw4;clear hW4 hf4 hd4 ho4 hw4)
 obtain ⟨gl,rfl⟩:=xu HO.out (by omega);have hglx:=HNE.out gl rfl;have hgly:=honex.out gl rfl;have c4:=yc4 HD.out;have hj0:(0:Int)<=(j:Int):=by omega
 have hj1:(j:Int) < (n:Int):=by omega
 obtain ⟨m0,m1,m2,m3,m4,m5⟩:=qC6 HBX.out;refine zH (fun w'=>w'.cell? ⟨gd,4,none⟩=some (.slice (some ⟨gl,0,none⟩) n c)/\w'.cell? ⟨gx,0,none⟩=some (.string y.name)/\w'.cell? ⟨gx,1,none⟩=some (.int .i64 y.length)/\w'.cell? ⟨gx,2,none⟩=some (.int .i64 y.b)/\w'.cell? ⟨gx,3,none⟩=some (.int .i64 y.i)/\w'.cell? ⟨gx,4,none⟩=some (.int .i64 y.h)/\w'.cell? ⟨gx,5,none⟩=some (.int .i64 y.p)) ?_ (fun hHeld=>?_)
 ·exact ⟨zb (Below.refl _ _).drew c4,zb (Below.refl _ _).drew m0,zb (Below.refl _ _).drew m1,zb (Below.refl _ _).drew m2,zb (Below.refl _ _).drew m3,zb (Below.refl _ _).drew m4,zb (Below.refl _ _).drew m5⟩
 refine zU 0 209 ?_;refine zU 1 210 ?_;refine zU 2 211 ?_;refine zT 3 212 rfl (fun w hSw=>by
  obtain ⟨s0,s1,s2,s3,s4,s5,s6⟩:=hSw;go_simp;try with_reducible rfl) ?_
 refine zU 4 213 ?_;refine zT 5 214 rfl (fun w hSw=>by
  obtain ⟨s0,s1,s2,s3,s4,s5,s6⟩:=hSw;go_simp;try with_reducible rfl) ?_
 refine zU 6 215 ?_;clear c4 m0 m1 m2 m3 m4 m5;refine zR 7 none rfl (fun K hK=>?_);go_split_ands;have HOD:=ze HO.out (Below.refl _ _).drew;refine wp_store_mid 100 _ _ rfl gl (j * 6) (cL y) (by rfl) rfl (lN HOD (by show j * 6 + 6<=n * 6;omega)) (by kernel_rfl) (by simp [Value.oneCell']) ?_;have HO11:=px (Array.toList (cL y)) _ (j * 6) _ HOD;rw [show ur (zd Last.cells xs) (j * 6) (Array.toList (cL y))=zd Last.cells (xs.set j y) from jk (by rw [hn.out];exact hjn)] at HO11;have hg11:=xw gl (Array.toList (cL y)) (j * 6) W10.drew;have HD11:=Blk.grown (HD.out.below (Below.refl _ _).drew) hg11 (fun e=>by injection e with e;omega);have HBX11:=Blk.grown (HBX.out.below (Below.refl _ _).drew) hg11 (fun e=>by injection e with e;omega);have HBW11:=qC (HBW.out.drew) (zn HO.out gl rfl) (j * 6) (Array.toList (cL y));obtain ⟨W11,hW11⟩:=zN (World.setCells W10.drew gl (j * 6) (Array.toList (cL y)));rw [<-hW11] at HO11 HD11 HBX11 HBW11 |-;clear hW11 HOD hg11;refine hK.out _ _ ?_ (fun hHeld=>?_)
 ·(try dsimp only);exact ⟨HD11.cell 4,HBX11.cell 0,HBX11.cell 1,HBX11.cell 2,HBX11.cell 3,HBX11.cell 4,HBX11.cell 5⟩
 clear hK K;try simp only [Act.put]
 refine zD ?_;clear hHeld HD HBX HBW HO;have HD:=qH HD11;have HBX:=qH HBX11;have HBW:=qH HBW11;have HO:=qH HO11;clear HD11 HBX11 HBW11 HO11;have HN9:Hid ((xs.set j y).length=n):=qH (by rw [List.length_set];exact hn.out);have HLT:=fun w h=>qu y (Nat.le_trans (yH HYB.out) (by omega)) w h;obtain ⟨ty,hty⟩:=zN (ltB y);rw [<-hty] at HLT HE;replace HLT:=qH HLT;clear hty;go_wp2_with (refine yL gx HBX.out underlying100 ?_)
 refine qS (HLT.out _ (HT.out.below HBW.out)) fun W12 hb=>?_;replace HBW:=qH (za HBW.out hb);replace HD:=qH (HD.out.below hb);replace HO:=qH (ze HO.out hb);clear hb;go_wp2;go_returns;exact OutX.one (by rw [<-HP1.out,<-HP2.out,<-HP3.out,<-HTX.out,HE.out]) HN9.out HBW.out HO.out HD.out
end Go.Proofs.YtpiehlfffjhoaaaGreatDoor
