/- Lemmas for the law on the console: the parts CoK,CoL,DeskW,CoM. -/
import Derived.Test.YtpiehlfffjhoaaaGreatDoorQ32
import Derived.Test.YtpiehlfffjhoaaaGreatDoorQ33
namespace Go.Proofs.YtpiehlfffjhoaaaGreatDoor
open Go.RowKit Go.Proofs.Tryz
set_option maxRecDepth 100000
set_option maxHeartbeats 8000000
theorem mT(sp:ByteArray)(B:Option Addr)(d:Nat)(w:World):Calls prog 77 #[.string sp,.slice B 0 d] w (Ret (.string ⟨#[]⟩) w):=by
 go_in;go_wp2_with fail;have hv1:=zc (Below.refl w.heap.size w) (.cells #[] 9);have HJ:=qH (fun a w=>Tryz.strings_Join_none a 0 sp w)
 go_loopw [5,11] (fun v i wr=>∃ g:Nat,i=.int .i64 0/\v=.slice (some ⟨g,0,none⟩) 0 0/\Below w.heap.size w wr) (fun _ i _=>0)
 case atStart=>exact ⟨_,rfl,rfl,hv1⟩
 case round=>
  obtain ⟨g,rfl,rfl,hv⟩:=hrel;go_wp2_with fail;refine (HJ.out _ _).mono ?_;rintro e W3 ⟨rfl,rfl⟩;go_wp2;go_returns;exact Ret.mk rfl hv
theorem OutX.bad{w0 w':World}{gd k d:Nat}{B:Option Addr}{r:xD}{c:Int}(hc:r.2.2=c)(h0:c≠0)(hb:Below w0.heap.size w0 w'):OutX w0 gd r (.returned (.tuple #[.slice B k d,.int .i64 c])) w':=by
 subst hc;exact ⟨B,k,d,rfl,hb,fun h=>absurd h h0⟩
theorem cW(w0 w:World)(gd ga:Nat)(f:Foot)(xs:List Last)(s:Style)(lg:ByteArray)(n c:Nat)(A An:Option Addr)(ws:List ByteArray)(ns:List Int)(nw kn cn:Nat)(h:XIn w0 w gd ga f xs s lg n c A An ws ns nw kn)(hk:zf ws 0=zM)(h2:2<=nw)(gn:Nat)(hAn:An=some ⟨gn,0,none⟩)(h4:kn=4) :
 Calls prog 35 #[.pointer (some ⟨gd,0,none⟩),.slice (some ⟨ga,0,none⟩) nw nw,.slice An kn cn] w (OutX w0 gd (vu ⟨f,xs,s,lg⟩ (yW ns 0) (yW ns 1) (yW ns 2) (yW ns 3))):=by
 have HBW:=qH h.hbw;have HWS:=qH h.hws;have HD:Hid (Blk w gd 32 (cD f A n c s lg)):=qH h.hdk;have HO:=qH h.hown;have HNE:=qH h.hne;have HT:=qH h.htabs;have HCN:=qH h.hchg;have HOK:=qH h.hok;have HSZ:=qH h.hsz;have hn:=h.hn;have hnw:=h.hnw;have hkn:=h.hkn;have hgd:=h.hgd;have hn30:=h.n30;have hnw0:=h.nw0;have hnw1:=h.nw1;have HJ:=qH (h.join);have hx0:=h.word0 hk;have HK:=qH hk;have n0:=h.numO hAn (k:=0) (by omega);have n1:=h.numO hAn (k:=1) (by omega);have n2:=h.numO hAn (k:=2) (by omega);have n3:=h.numO hAn (k:=3) (by omega);subst h4;subst hAn;clear h hk;have hl1:(1:Int)<=(nw:Int):=by omega
 have hl2:¬ (nw - 1=0):=by omega
 have hl0:(0:Int) < (nw:Int):=by omega
 have hx1:w.cell? ⟨ga,0,none⟩=some (.string ⟨#[114,97,105,115,101]⟩):=hx0;clear hx0;go_in;go_wp2_with fail;refine qS HJ.out fun W hb=>?_;obtain ⟨rt,hrt⟩:=zN (yz ws);have HRT:=qH hrt;rw [<-hrt];clear hrt HJ;replace HBW:=qH (za HBW.out hb);replace HD:=qH (HD.out.below hb);replace HO:=qH (ze HO.out hb);replace hx1:=zb hb hx1;replace n0:=zb hb n0;replace n1:=zb hb n1;replace n2:=zb hb n2;replace n3:=zb hb n3;clear hb;clear hl1 hl2;obtain ⟨v0,hv0⟩:=zN (yW ns 0);rw [<-hv0] at n0;have HV0:=qH hv0;clear hv0;obtain ⟨v1,hv1⟩:=zN (yW ns 1);rw [<-hv1] at n1;have HV1:=qH hv1;clear hv1;obtain ⟨v2,hv2⟩:=zN (yW ns 2);rw [<-hv2] at n2;have HV2:=qH hv2;clear hv2;obtain ⟨v3,hv3⟩:=zN (yW ns 3);rw [<-hv3] at n3;have HV3:=qH hv3;clear hv3;have HRF:=fun w=>er v0 v1 v2 v3 w;have HFD:vu ⟨f,xs,s,lg⟩ v0 v1 v2 v3=if (xy v0 v1 v2 v3).2=0 then (⟨f,xs,s,lg⟩,[uj (xy v0 v1 v2 v3).1],0) else (⟨f,xs,s,lg⟩,[],(xy v0 v1 v2 v3).2):=rfl
 have HBD:=jV v0 v1 v2 v3;have HYN:((xy v0 v1 v2 v3).2=0/\(xy v0 v1 v2 v3).1.length=3)\/(¬ (xy v0 v1 v2 v3).2=0/\(xy v0 v1 v2 v3).1=[]):=by
  unfold xy;split
  · split
    ·exact .inr ⟨by simp,rfl⟩
    ·exact .inl ⟨rfl,rfl⟩
  ·exact .inr ⟨by simp,rfl⟩
 obtain ⟨r,hr⟩:=zN (xy v0 v1 v2 v3);rw [<-hr] at HRF HFD HBD HYN;clear hr;obtain ⟨ps,co⟩:=r;dsimp only at HRF HFD HBD HYN;have HP:=qH HBD;have HQ:=qH HYN;replace HRF:=qH HRF;replace HFD:=qH HFD;clear HBD HYN;go_upto_region 61 with fail;refine zH (fun w'=>Below W.heap.size W w'/\True) ?_ (fun hHeld=>?_)
 ·exact ⟨(Below.refl _ _).drew,trivial⟩
 have hd9:=hHeld.1;refine zU 0 260 ?_;refine zU 1 261 ?_;refine zT 2 262 rfl (fun w hSw=>by
  have x_n0:=zb hSw.1 n0;go_simp;try with_reducible rfl) ?_
 refine zU 3 263 ?_;refine zU 4 264 ?_;refine zT 5 265 rfl (fun w hSw=>by
  have x_n1:=zb hSw.1 n1;go_simp;try with_reducible rfl) ?_
 refine zU 6 266 ?_;refine zU 7 267 ?_;refine zT 8 268 rfl (fun w hSw=>by
  have x_n2:=zb hSw.1 n2;go_simp;try with_reducible rfl) ?_
 refine zU 9 269 ?_;refine zU 10 270 ?_;refine zT 11 271 rfl (fun w hSw=>by
  have x_n3:=zb hSw.1 n3;go_simp;try with_reducible rfl) ?_
 refine zR 12 (some 272) rfl (fun K hK=>?_);go_simp;go_split_ands;refine (HRF.out _).mono ?_;rintro e V ⟨B,m,d,rfl,hm,hB,hb9⟩;have HBA:=qH hB;have HM:=qH hm;replace hd9:=za hd9 hb9;clear hb9 HRF hB hm;go_wp2_with fail;refine zK hK ⟨hd9,trivial⟩ (fun hHeld=>?_);clear hK K;refine zU 13 259 ?_;refine zU 14 273 ?_;refine zU 15 274 ?_;refine zU 16 32 ?_;refine zU 17 33 ?_;refine zD ?_;clear hHeld n0 n1 n2 n3;have hb:=hd9;clear hd9;replace HBW:=qH (za HBW.out hb);replace HD:=qH (HD.out.below hb);replace HO:=qH (ze HO.out hb);clear hb;by_cases hc:co=0
 case neg=>
  have HE:=qH (HFD.out.trans (if_neg hc));obtain rfl:ps=[]:=by
   rcases HQ.out with h | h
   ·exact absurd h.1 hc
   ·exact h.2
  obtain rfl:m=0:=HM.out.symm;have HN0:=qH (mT ⟨#[32]⟩ B d V);go_wp2_with fail;refine qS HN0.out fun V2 hb=>?_;go_wp2;go_returns;exact OutX.bad (by rw [<-HV0.out,<-HV1.out,<-HV2.out,<-HV3.out,HE.out]) hc (zc (za HBW.out hb) _)
 subst hc;have HE:=qH (HFD.out.trans (if_pos rfl));obtain rfl:m=3:=by
  rcases HQ.out with h | h
  ·rw [<-HM.out,h.2]
  ·exact absurd rfl h.1
 have HRW:Hid (uj ps=yB ⟨#[32]⟩ (xL ps)):=qH rfl;have HN3:=qH (sG ⟨#[32]⟩ (by decide) B ps 3 d HM (by omega) (by omega) (qH (fun v hv=>by have:=HP.out.2 v hv;omega)) V HBA.out (HT.out.below HBW.out));go_wp2_with fail;refine qS HN3.out fun V2 hb=>?_;replace HBW:=qH (za HBW.out hb);replace HD:=qH (HD.out.below hb);replace HO:=qH (ze HO.out hb);clear hb;go_wp2;go_returns;exact OutX.one (by rw [<-HV0.out,<-HV1.out,<-HV2.out,<-HV3.out,HE.out,HRW.out]) hn.out HBW.out HO.out HD.out
theorem cU(w0 w:World)(gd ga:Nat)(f:Foot)(xs:List Last)(s:Style)(lg:ByteArray)(n c:Nat)(A An:Option Addr)(ws:List ByteArray)(ns:List Int)(nw kn cn:Nat)(h:XIn w0 w gd ga f xs s lg n c A An ws ns nw kn)(hk:zf ws 0=zL)(_h2:2<=nw)(gn:Nat)(hAn:An=some ⟨gn,0,none⟩)(h3:kn=2)(h5:4<=nw) :
 Calls prog 35 #[.pointer (some ⟨gd,0,none⟩),.slice (some ⟨ga,0,none⟩) nw nw,.slice An kn cn] w (OutX w0 gd (vp ⟨f,xs,s,lg⟩ (yW ns 0) (zf ws 2) (yW ns 1))):=by
 have HBW:=qH h.hbw;have HWS:=qH h.hws;have HD:Hid (Blk w gd 32 (cD f A n c s lg)):=qH h.hdk;have HO:=qH h.hown;have HNE:=qH h.hne;have HT:=qH h.htabs;have HCN:=qH h.hchg;have HOK:=qH h.hok;have HSZ:=qH h.hsz;have hn:=h.hn;have hnw:=h.hnw;have hkn:=h.hkn;have hgd:=h.hgd;have hn30:=h.n30;have hnw0:=h.nw0;have hnw1:=h.nw1;have HJ:=qH (h.join);have hx0:=h.word0 hk;have HK:=qH hk;obtain ⟨hfB,hlB,hsB,hcB⟩:=yj h.hok;have hlg:=vo hcB;have HCB:=qH hcB;have n0:=h.numO hAn (k:=0) (by omega);have n1:=h.numO hAn (k:=1) (by omega);have w2:=h.word (k:=2) (by omega);have hwz:=h.hsz (zf ws 2);have hwm:zf ws 2 ∈ ws:=by
  unfold zf;have h3:2 < ws.length:=by rw [h.hnw.out];omega
  rw [List.getD_eq_getElem?_getD,List.getElem?_eq_getElem h3];exact List.getElem_mem h3
 replace hwz:=hwz hwm;clear hwm hfB hlB hsB hcB;subst h3;subst hAn;clear h hk;have hl1:(1:Int)<=(nw:Int):=by omega
 have hl2:¬ (nw - 1=0):=by omega
 have hl0:(0:Int) < (nw:Int):=by omega
 have hx1:w.cell? ⟨ga,0,none⟩=some (.string ⟨#[101,110,116,101,114]⟩):=hx0;clear hx0;go_in;go_wp2_with fail;refine qS HJ.out fun W hb=>?_;obtain ⟨rt,hrt⟩:=zN (yz ws);have HRT:=qH hrt;rw [<-hrt];clear hrt HJ;replace HBW:=qH (za HBW.out hb);replace HD:=qH (HD.out.below hb);replace HO:=qH (ze HO.out hb);replace hx1:=zb hb hx1;replace n0:=zb hb n0;replace n1:=zb hb n1;replace w2:=zb hb w2;clear hb;clear hl1 hl2;have hl2:(2:Int) < (nw:Int):=by omega
 obtain ⟨v0,hv0⟩:=zN (yW ns 0);rw [<-hv0] at n0;obtain ⟨v1,hv1⟩:=zN (yW ns 1);rw [<-hv1] at n1;obtain ⟨nm,hv2⟩:=zN (zf ws 2);rw [<-hv2] at w2 hwz;have HV0:=qH hv0;have HV1:=qH hv1;have HV2:=qH hv2;clear hv0 hv1 hv2;have HAE:=fun w h=>eh lg (by omega) ⟨v0,nm,v1⟩ (by show nm.size<=_;omega) w h;dsimp only at HAE;have HFD:vp ⟨f,xs,s,lg⟩ v0 nm v1=if (xK lg ⟨v0,nm,v1⟩).2=0 then (⟨f,xs,s,(xK lg ⟨v0,nm,v1⟩).1⟩,[zm (uV (xK lg ⟨v0,nm,v1⟩).1 nm).sum],0) else (⟨f,xs,s,lg⟩,[],(xK lg ⟨v0,nm,v1⟩).2):=rfl
 have HLA:=qH (fun h=>mQ (s:=lg) (x:=⟨v0,nm,v1⟩) HCB.out h);obtain ⟨r,hr⟩:=zN (xK lg ⟨v0,nm,v1⟩);rw [<-hr] at HAE HFD HLA;clear hr;obtain ⟨l2,co⟩:=r;dsimp only at HAE HFD HLA;replace HAE:=qH HAE;replace HFD:=qH HFD;have c14:=pt HD.out;go_upto_region 64 with fail;refine zH (fun w'=>Below W.heap.size W w'/\True) ?_ (fun hHeld=>?_)
 ·exact ⟨(Below.refl _ _).drew,trivial⟩
 have hd9:=hHeld.1;refine zU 0 282 ?_;refine zU 1 283 ?_;refine zU 2 284 ?_;refine zT 3 285 rfl (fun w hSw=>by
  have x_c14:=zb hSw.1 c14;go_simp;try with_reducible rfl) ?_
 refine zU 4 286 ?_;refine zU 5 287 ?_;refine zT 6 288 rfl (fun w hSw=>by
  have x_n0:=zb hSw.1 n0;go_simp;try with_reducible rfl) ?_
 refine zU 7 289 ?_;refine zU 8 290 ?_;refine zT 9 291 rfl (fun w hSw=>by
  have x_w2:=zb hSw.1 w2;go_simp;try with_reducible rfl) ?_
 refine zU 10 292 ?_;refine zU 11 293 ?_;refine zT 12 294 rfl (fun w hSw=>by
  have x_n1:=zb hSw.1 n1;go_simp;try with_reducible rfl) ?_
 refine zU 13 295 ?_;refine zR 14 (some 296) rfl (fun K hK=>?_);go_simp;go_split_ands;refine qS (HAE.out _ (HT.out.below (za HBW.out hd9))) fun V hb9=>?_;replace hd9:=za hd9 hb9;clear hb9 HAE;go_wp2_with fail;refine zK hK ⟨hd9,trivial⟩ (fun hHeld=>?_);clear hK K;refine zU 15 281 ?_;refine zU 16 297 ?_;refine zU 17 298 ?_;refine zU 18 34 ?_;refine zU 19 35 ?_;refine zD ?_;clear hHeld c14 n0 n1;have hb:=hd9;clear hd9;replace w2:=zb hb w2;replace HBW:=qH (za HBW.out hb);replace HD:=qH (HD.out.below hb);replace HO:=qH (ze HO.out hb);clear hb;by_cases hc:co=0
 case neg=>
  have HE:=qH (HFD.out.trans (if_neg hc));go_wp2;go_returns;exact OutX.no (by rw [<-HV0.out,<-HV1.out,<-HV2.out,HE.out]) hc HBW.out
 subst hc;have HE:=qH (HFD.out.trans (if_pos rfl));obtain ⟨e1,e2,e3,e4⟩:=HLA.out rfl;have hnm:zo nm=true:=by
  unfold xa at e3;simp only [Bool.and_eq_true] at e3;exact e3.1.2
 have hcw:cdW l2 nm=0:=kV e1 hnm;have HVO:=fun w h=>eA l2 nm (by omega) (by omega) w h;rw [hcw] at HVO;obtain ⟨b1,b2⟩:=mW l2 nm;obtain ⟨vs,hvs⟩:=zN (uV l2 nm);rw [<-hvs] at HVO b1 b2 HE;have hsm:=mC vs b2;obtain ⟨vn,hvn⟩:=zN vs.length;rw [<-hvn] at HVO b1 hsm;have HVN:Hid (vs.length=vn):=qH hvn.symm;have HB2:=qH b2;replace HVO:=qH HVO;obtain ⟨sm,hsme⟩:=zN vs.sum;rw [<-hsme] at hsm HE;have HSM:=qH hsme;clear e1 e2 e3 hnm hcw hvs hvn b2 hsme HLA HFD;have c14:=pt HD.out;have f14:V.frozen? ⟨gd,14,none⟩=false:=HD.out.frozen 14;have HD5:Hid (Blk (V.setCell ⟨gd,14,none⟩ (.string l2)) gd 32 (cD f A n c s l2)):=qH (HD.out.set_ 14 _);have HO5:=qH (yy HO.out (p:=⟨gd,14,none⟩) HNE.out (.string l2));have HBW5:=qH (zk HBW.out (p:=⟨gd,14,none⟩) hgd (.string l2));have hwl:=block_lt_of_cell w2;go_upto_region 68 with fail;obtain ⟨V2,hV2⟩:=zN (V.setCell ⟨gd,14,none⟩ (.string l2));have w2':V2.cell? ⟨ga,2,none⟩=some (.string nm):=by
  rw [hV2];exact (World.cell?_setCell_other V ⟨gd,14,none⟩ ⟨ga,2,none⟩ (.string l2) (by simp)).trans w2
 rw [<-hV2] at HD5 HO5 HBW5 |-;clear hV2 f14 c14 HO HD HBW w2 hwl;have c14:=pt HD5.out;refine zH (fun w'=>Below V2.heap.size V2 w'/\True) ?_ (fun hHeld=>?_)
 ·exact ⟨(Below.refl _ _).drew,trivial⟩
 have hd9:=hHeld.1;refine zU 0 307 ?_;refine zU 1 308 ?_;refine zU 2 309 ?_;refine zT 3 310 rfl (fun w hSw=>by
  have x_c14:=zb hSw.1 c14;go_simp;try with_reducible rfl) ?_
 refine zU 4 311 ?_;refine zU 5 312 ?_;refine zT 6 313 rfl (fun w hSw=>by
  have x_w2:=zb hSw.1 w2';go_simp;try with_reducible rfl) ?_
 refine zR 7 (some 314) rfl (fun K hK=>?_);go_simp;go_split_ands;refine (HVO.out _ (HT.out.below (za HBW5.out hd9))).mono ?_;rintro e V3 ⟨B,d,rfl,hown,hb9⟩;have HBA:=qH (Arr.own hown);replace hd9:=za hd9 hb9;clear hb9 HVO hown;go_wp2_with fail;refine zK hK ⟨hd9,trivial⟩ (fun hHeld=>?_);clear hK K;refine zU 8 306 ?_;refine zU 9 315 ?_;refine zU 10 316 ?_;refine zU 11 36 ?_;refine zU 12 35 ?_;refine zD ?_;clear hHeld c14 w2';have HD:=qH (HD5.out.below hd9);have HO:=qH (ze HO5.out hd9);have HBW:=qH (za HBW5.out hd9);clear HD5 HO5 HBW5 hd9;have HS:=qH (zcQ B vs vn d HVN (by omega) (qH (fun v hv=>by have:=HB2.out v hv;omega)) V3 HBA.out);rw [<-HSM.out] at HS;go_wp2_with fail;refine qS HS.out fun V4 hb=>?_;replace HBW:=qH (za HBW.out hb);replace HD:=qH (HD.out.below hb);replace HO:=qH (ze HO.out hb);clear hb;have HDC:=qH (fun h=>xp sm (by omega) (by omega) V4 h);go_wp2_with fail;refine qS (HDC.out (HT.out.below HBW.out).pow) fun V5 hb=>?_;replace HBW:=qH (za HBW.out hb);replace HD:=qH (HD.out.below hb);replace HO:=qH (ze HO.out hb);clear hb;go_wp2;go_returns;exact OutX.one (by rw [<-HV0.out,<-HV1.out,<-HV2.out,HE.out]) hn.out HBW.out HO.out HD.out
theorem pZ(ws:List ByteArray):∀ (l:List UInt8) (k:Nat) (ns:List Int),xH ws l k=some ns->ns.length=l.count 110
 | [],k,ns,h=>by rw [xH] at h;injection h with h;subst h;rfl
 | c :: r,k,ns,h=>by
   rw [xH] at h;by_cases hc:c=110
   · rw [if_pos hc] at h;split at h
     · cases hr:xH ws r (k + 1) with
       | none=>rw [hr] at h;cases h
       | some m=>
         rw [hr] at h;injection h with h;subst h;rw [List.length_cons,pZ ws r _ m hr,hc,List.count_cons_self]
     ·cases h
   ·rw [if_neg hc] at h;rw [pZ ws r _ ns h,List.count_cons_of_ne hc]
theorem zak{ws:List ByteArray}{fm:ByteArray}(h:wy ws fm=true):fm.size + 1<=ws.length/\(fm=⟨#[43]⟩\/ws.length<=fm.size + 1):=by
 unfold wy at h;simp only [Bool.and_eq_true,Bool.or_eq_true,decide_eq_true_eq] at h;exact h
theorem cO{d:Dk}{ws:List ByteArray}{ns:List Int}(h:zf ws 0=ya):yi d ws ns=vj d (yz ws):=by
 unfold yi;rw [h,if_pos rfl]
theorem eY:ye ya=⟨#[119]⟩:=by
 unfold ye;rw [if_pos rfl]
theorem cP{d:Dk}{ws:List ByteArray}{ns:List Int}(h:zf ws 0=yb):yi d ws ns=xt d (yz ws):=by
 unfold yi;rw [h,if_neg (by decide:¬ yb=ya),if_pos rfl]
theorem eZ:ye yb=⟨#[43]⟩:=by
 unfold ye;rw [if_neg (by decide:¬ yb=ya),if_neg (by decide:¬ yb=yc),if_pos rfl]
theorem eR{d:Dk}{ws:List ByteArray}{ns:List Int}(h:zf ws 0=zV):yi d ws ns=vS d:=by
 unfold yi;rw [h,if_neg (by decide:¬ zV=ya),if_neg (by decide:¬ zV=yb),if_pos rfl]
theorem fg:ye zV=⟨#[]⟩:=by
 unfold ye;rw [if_neg (by decide:¬ zV=ya),if_neg (by decide:¬ zV=yc),if_neg (by decide:¬ zV=yb),if_neg (by decide:¬ zV=zO),if_neg (by decide:¬ zV=zw),if_neg (by decide:¬ zV=yv),if_neg (by decide:¬ zV=zJ),if_neg (by decide:¬ zV=zM),if_neg (by decide:¬ zV=zL)]
theorem zaH{d:Dk}{ws:List ByteArray}{ns:List Int}(h:zf ws 0=yv):yi d ws ns=uQ d (yW ns 0) (yW ns 1) (yW ns 2):=by
 unfold yi;rw [h,if_neg (by decide:¬ yv=ya),if_neg (by decide:¬ yv=yb),if_neg (by decide:¬ yv=zV),if_pos rfl]
theorem br:ye yv=⟨#[110,110,110]⟩:=by
 unfold ye;rw [if_neg (by decide:¬ yv=ya),if_neg (by decide:¬ yv=yc),if_neg (by decide:¬ yv=yb),if_neg (by decide:¬ yv=zO),if_neg (by decide:¬ yv=zw),if_pos rfl]
theorem cQ{d:Dk}{ws:List ByteArray}{ns:List Int}(h:zf ws 0=yc):yi d ws ns=vW d (zf ws 1):=by
 unfold yi;rw [h,if_neg (by decide:¬ yc=ya),if_neg (by decide:¬ yc=yb),if_neg (by decide:¬ yc=zV),if_neg (by decide:¬ yc=yv),if_pos rfl]
theorem da:ye yc=⟨#[119]⟩:=by
 unfold ye;rw [if_neg (by decide:¬ yc=ya),if_pos rfl]
theorem eP{d:Dk}{ws:List ByteArray}{ns:List Int}(h:zf ws 0=zJ):yi d ws ns=xB d (zf ws 1) (zf ws 2 ++ ⟨#[32]⟩ ++ zf ws 3):=by
 unfold yi;rw [h,if_neg (by decide:¬ zJ=ya),if_neg (by decide:¬ zJ=yb),if_neg (by decide:¬ zJ=zV),if_neg (by decide:¬ zJ=yv),if_neg (by decide:¬ zJ=yc),if_pos rfl]
theorem fd:ye zJ=⟨#[119,119,119]⟩:=by
 unfold ye;rw [if_neg (by decide:¬ zJ=ya),if_neg (by decide:¬ zJ=yc),if_neg (by decide:¬ zJ=yb),if_neg (by decide:¬ zJ=zO),if_neg (by decide:¬ zJ=zw),if_neg (by decide:¬ zJ=yv),if_pos rfl]
theorem eT{d:Dk}{ws:List ByteArray}{ns:List Int}(h:zf ws 0=zO):yi d ws ns=wF d (yz ws):=by
 unfold yi;rw [h,if_neg (by decide:¬ zO=ya),if_neg (by decide:¬ zO=yb),if_neg (by decide:¬ zO=zV),if_neg (by decide:¬ zO=yv),if_neg (by decide:¬ zO=yc),if_neg (by decide:¬ zO=zJ),if_pos rfl]
theorem fi:ye zO=⟨#[43]⟩:=by
 unfold ye;rw [if_neg (by decide:¬ zO=ya),if_neg (by decide:¬ zO=yc),if_neg (by decide:¬ zO=yb),if_pos rfl]
theorem gZ{d:Dk}{ws:List ByteArray}{ns:List Int}(h:zf ws 0=zw):yi d ws ns=xV d (yz ws):=by
 unfold yi;rw [h,if_neg (by decide:¬ zw=ya),if_neg (by decide:¬ zw=yb),if_neg (by decide:¬ zw=zV),if_neg (by decide:¬ zw=yv),if_neg (by decide:¬ zw=yc),if_neg (by decide:¬ zw=zJ),if_neg (by decide:¬ zw=zO),if_pos rfl]
theorem jq:ye zw=⟨#[43]⟩:=by
 unfold ye;rw [if_neg (by decide:¬ zw=ya),if_neg (by decide:¬ zw=yc),if_neg (by decide:¬ zw=yb),if_neg (by decide:¬ zw=zO),if_pos rfl]
theorem eS{d:Dk}{ws:List ByteArray}{ns:List Int}(h:zf ws 0=zM):yi d ws ns=vu d (yW ns 0) (yW ns 1) (yW ns 2) (yW ns 3):=by
 unfold yi;rw [h,if_neg (by decide:¬ zM=ya),if_neg (by decide:¬ zM=yb),if_neg (by decide:¬ zM=zV),if_neg (by decide:¬ zM=yv),if_neg (by decide:¬ zM=yc),if_neg (by decide:¬ zM=zJ),if_neg (by decide:¬ zM=zO),if_neg (by decide:¬ zM=zw),if_pos rfl]
theorem fh:ye zM=⟨#[110,110,110,110]⟩:=by
 unfold ye;rw [if_neg (by decide:¬ zM=ya),if_neg (by decide:¬ zM=yc),if_neg (by decide:¬ zM=yb),if_neg (by decide:¬ zM=zO),if_neg (by decide:¬ zM=zw),if_neg (by decide:¬ zM=yv),if_neg (by decide:¬ zM=zJ),if_pos rfl]
theorem eQ{d:Dk}{ws:List ByteArray}{ns:List Int}(h:zf ws 0=zL):yi d ws ns=vp d (yW ns 0) (zf ws 2) (yW ns 1):=by
 unfold yi;rw [h,if_neg (by decide:¬ zL=ya),if_neg (by decide:¬ zL=yb),if_neg (by decide:¬ zL=zV),if_neg (by decide:¬ zL=yv),if_neg (by decide:¬ zL=yc),if_neg (by decide:¬ zL=zJ),if_neg (by decide:¬ zL=zO),if_neg (by decide:¬ zL=zw),if_neg (by decide:¬ zL=zM),if_pos rfl]
theorem fe:ye zL=⟨#[110,119,110]⟩:=by
 unfold ye;rw [if_neg (by decide:¬ zL=ya),if_neg (by decide:¬ zL=yc),if_neg (by decide:¬ zL=yb),if_neg (by decide:¬ zL=zO),if_neg (by decide:¬ zL=zw),if_neg (by decide:¬ zL=yv),if_neg (by decide:¬ zL=zJ),if_neg (by decide:¬ zL=zM),if_pos rfl]
theorem zaI{d:Dk}{ws:List ByteArray}{ns:List Int}(h:zf ws 0=yE):yi d ws ns=sF d:=by
 unfold yi;rw [h,if_neg (by decide:¬ yE=ya),if_neg (by decide:¬ yE=yb),if_neg (by decide:¬ yE=zV),if_neg (by decide:¬ yE=yv),if_neg (by decide:¬ yE=yc),if_neg (by decide:¬ yE=zJ),if_neg (by decide:¬ yE=zO),if_neg (by decide:¬ yE=zw),if_neg (by decide:¬ yE=zM),if_neg (by decide:¬ yE=zL)]
theorem bt:ye yE=⟨#[]⟩:=by
 unfold ye;rw [if_neg (by decide:¬ yE=ya),if_neg (by decide:¬ yE=yc),if_neg (by decide:¬ yE=yb),if_neg (by decide:¬ yE=zO),if_neg (by decide:¬ yE=zw),if_neg (by decide:¬ yE=yv),if_neg (by decide:¬ yE=zJ),if_neg (by decide:¬ yE=zM),if_neg (by decide:¬ yE=zL)]
theorem dA{t:ByteArray}(h:xd t wi=true):t=zJ\/t=zw\/t=zL\/t=yv\/t=ya\/t=yb\/t=zV\/t=yE\/t=yc\/t=zM\/t=zO:=by
 have hx:=memB_iff.1 h;unfold wi at hx;simp only [List.mem_cons,List.not_mem_nil,or_false] at hx;exact hx
theorem ba(w0 w:World)(gd ga:Nat)(f:Foot)(xs:List Last)(s:Style)(lg:ByteArray)(n c:Nat)(A An:Option Addr)(ws:List ByteArray)(ns:List Int)(nw kn cn:Nat)(h:XIn w0 w gd ga f xs s lg n c A An ws ns nw kn)(hi:isD ws=true)(hns:xH ws (ye (zf ws 0)).data.toList 1=some ns)(hAn:0 < kn->∃ gn,An=some ⟨gn,0,none⟩) :
 Calls prog 35 #[.pointer (some ⟨gd,0,none⟩),.slice (some ⟨ga,0,none⟩) nw nw,.slice An kn cn] w (OutX w0 gd (yi ⟨f,xs,s,lg⟩ ws ns)):=by
 have hkn:=pZ _ _ _ _ hns;rw [h.hkn.out] at hkn;unfold isD at hi;rw [Bool.and_eq_true] at hi;obtain ⟨hm,har⟩:=hi;obtain ⟨ha1,ha2⟩:=zak har;rw [h.hnw.out] at ha1 ha2;clear har hns;rcases dA hm with hk | hk | hk | hk | hk | hk | hk | hk | hk | hk | hk
 ·rw [hk,fd] at ha1 ha2 hkn;rw [eP hk];have z1:(⟨#[119,119,119]⟩:ByteArray).size=3:=rfl;rw [z1] at ha1 ha2;exact cR w0 w gd ga f xs s lg n c A An ws ns nw kn cn h hk (by omega) (by omega)
 ·rw [hk,jq] at ha1 ha2 hkn;rw [gZ hk];have z1:(⟨#[43]⟩:ByteArray).size=1:=rfl;rw [z1] at ha1 ha2;exact eU w0 w gd ga f xs s lg n c A An ws ns nw kn cn h hk (by omega)
 ·rw [hk,fe] at ha1 ha2 hkn;rw [eQ hk];have z1:(⟨#[110,119,110]⟩:ByteArray).size=3:=rfl;rw [z1] at ha1 ha2;have z2:kn=2:=hkn.trans (by decide);obtain ⟨gn,hA⟩:=hAn (by omega);exact cU w0 w gd ga f xs s lg n c A An ws ns nw kn cn h hk (by omega) gn hA z2 (by omega)
 ·rw [hk,br] at ha1 ha2 hkn;rw [zaH hk];have z1:(⟨#[110,110,110]⟩:ByteArray).size=3:=rfl;rw [z1] at ha1 ha2;have z2:kn=3:=hkn.trans (by decide);obtain ⟨gn,hA⟩:=hAn (by omega);exact zcj w0 w gd ga f xs s lg n c A An ws ns nw kn cn h hk (by omega) gn hA z2
 ·rw [hk,eY] at ha1 ha2 hkn;rw [cO hk];have z1:(⟨#[119]⟩:ByteArray).size=1:=rfl;rw [z1] at ha1 ha2;exact zaJ w0 w gd ga f xs s lg n c A An ws ns nw kn cn h hk (by omega)
 ·rw [hk,eZ] at ha1 ha2 hkn;rw [cP hk];have z1:(⟨#[43]⟩:ByteArray).size=1:=rfl;rw [z1] at ha1 ha2;exact zaK w0 w gd ga f xs s lg n c A An ws ns nw kn cn h hk (by omega)
 · rw [hk,fg] at ha1 ha2 hkn;rw [eR hk];have z1:(⟨#[]⟩:ByteArray).size=0:=rfl;rw [z1] at ha1 ha2;have z3:nw=1:=by
    rcases ha2 with e | e
    ·exact absurd e (by decide)
    ·omega
   exact cV w0 w gd ga f xs s lg n c A An ws ns nw kn cn h hk z3
 · rw [hk,bt] at ha1 ha2 hkn;rw [zaI hk];have z1:(⟨#[]⟩:ByteArray).size=0:=rfl;rw [z1] at ha1 ha2;have z3:nw=1:=by
    rcases ha2 with e | e
    ·exact absurd e (by decide)
    ·omega
   exact zck w0 w gd ga f xs s lg n c A An ws ns nw kn cn h hk z3
 ·rw [hk,da] at ha1 ha2 hkn;rw [cQ hk];have z1:(⟨#[119]⟩:ByteArray).size=1:=rfl;rw [z1] at ha1 ha2;exact zaL w0 w gd ga f xs s lg n c A An ws ns nw kn cn h hk (by omega)
 ·rw [hk,fh] at ha1 ha2 hkn;rw [eS hk];have z1:(⟨#[110,110,110,110]⟩:ByteArray).size=4:=rfl;rw [z1] at ha1 ha2;have z2:kn=4:=hkn.trans (by decide);obtain ⟨gn,hA⟩:=hAn (by omega);exact cW w0 w gd ga f xs s lg n c A An ws ns nw kn cn h hk (by omega) gn hA z2
 ·rw [hk,fi] at ha1 ha2 hkn;rw [eT hk];have z1:(⟨#[43]⟩:ByteArray).size=1:=rfl;rw [z1] at ha1 ha2;exact cZ w0 w gd ga f xs s lg n c A An ws ns nw kn cn h hk (by omega)
def nQ:List ByteArray:=[⟨#[97,108,116,101,114]⟩,⟨#[99,108,97,117,115,101]⟩,⟨#[101,110,116,101,114]⟩,⟨#[102,105,116]⟩,⟨#[102,111,111,116]⟩,⟨#[108,97,115,116]⟩,⟨#[108,97,115,116,115]⟩,⟨#[108,111,103]⟩,⟨#[110,101,101,100]⟩,⟨#[114,97,105,115,101]⟩,⟨#[115,116,121,108,101]⟩]
theorem gq(w:World):Calls prog 31 #[] w (zcU 9 1 11 (zd zt nQ) w):=by
 have hown:=World.ownsRow_lit (base:=w.heap.size) (e:=9) (size:=1) w #[Value.string ⟨#[97,108,116,101,114]⟩,Value.string ⟨#[99,108,97,117,115,101]⟩,Value.string ⟨#[101,110,116,101,114]⟩,Value.string ⟨#[102,105,116]⟩,Value.string ⟨#[102,111,111,116]⟩,Value.string ⟨#[108,97,115,116]⟩,Value.string ⟨#[108,97,115,116,115]⟩,Value.string ⟨#[108,111,103]⟩,Value.string ⟨#[110,101,101,100]⟩,Value.string ⟨#[114,97,105,115,101]⟩,Value.string ⟨#[115,116,121,108,101]⟩] 11 (Nat.le_refl _) (by simp [maxLen]) (by simp);have HO:=qH hown;clear hown;go_in;go_wp2;go_returns;exact ⟨w.heap.size,rfl,HO.out,zc (Below.refl _ _) _⟩
theorem fM(c:UInt8)(s:ByteArray):yB ⟨#[c]⟩ (zl c s)=s:=by
 unfold yB zl;rw [List.map_map];have e:((fun x:ByteArray=>x.data.toList) ∘ fun l:List UInt8=>(⟨l.toArray⟩:ByteArray))=id:=by funext l;simp
 rw [e,List.map_id];have h:=jZ c s.data.toList;apply ByteArray.ext;apply Array.ext'
 show Lib.join (spl c s.data.toList) [c]=s.data.toList
 exact h.symm
theorem dO(s:ByteArray):(yz (zl 32 s)).size<=s.size:=by
 have h:=fM 32 s;have e1:∀ L:List ByteArray,(yB ⟨#[32]⟩ L).size=(Lib.join (L.map (·.data.toList)) [32]).length:=by
  intro L;unfold yB;rw [<-zu]
 have e2:s.size=(yB ⟨#[32]⟩ (zl 32 s)).size:=by rw [h]
 unfold yz;rw [e2,e1,e1];generalize zl 32 s=L;cases L with
 | nil=>simp
 | cons a r=>
   rw [List.drop_succ_cons,List.drop_zero,List.map_cons,Lib.join_cons,List.length_append];cases r with
   | nil=>simp [Lib.join_nil]
   | cons b t=>
     rw [List.map_cons,Lib.join_cons,List.length_append];simp only [Lib.joinTail,List.map_cons,List.flatten_cons,List.length_append];omega
theorem jY(c:UInt8)(s:ByteArray):0 < (zl c s).length:=by
 unfold zl;rw [List.length_map];exact List.length_pos_iff.2 (uk c _)
def OutDc(r:xD)(w:World)(e:Ending)(w':World):Prop:=∃ (A:Option Addr) (n c:Nat) (B:Option Addr) (k c':Nat),e=.returned (.tuple #[.agg #[.int .i64 r.1.f.length,.int .i64 r.1.f.b,.int .i64 r.1.f.i,.int .i64 r.1.f.h,.slice A n c,.string r.1.s.u,.string r.1.s.c,.string r.1.s.l,.string r.1.s.s,.int .i64 r.1.s.t,.int .i64 r.1.s.h,.int .i64 r.1.s.e,.int .i64 r.1.s.d,.bool r.1.s.q,.string r.1.lg],.slice B k c',.int .i64 r.2.2])/\Below w.heap.size w w'/\r.1.xs.length=n/\r.2.1.length=k/\∃ lo mid,w.heap.size<=lo/\Own w' lo mid 100 6 n (.slice A n c) (zd Last.cells r.1.xs)/\w'.ownsRow mid 9 1 (.slice B k c') k (zd zt r.2.1)
theorem OutDc.mk{r:xD}{w W:World}{f:Foot}{xs:List Last}{s:Style}{lg:ByteArray}{L:List ByteArray}{co:Int}{A B:Option Addr}{n c k c' g4 lo mid:Nat}(hr:r=(⟨f,xs,s,lg⟩,L,co))(hn:xs.length=n)(hk:L.length=k)(hb:Below w.heap.size w W)(hg:w.heap.size<=g4)(hg2:g4 < lo)(h1:Own W lo mid 100 6 n (.slice A n c) (zd Last.cells xs))(h2:W.ownsRow mid 9 1 (.slice B k c') k (zd zt L))(row:Array Value):OutDc r w (.returned (.tuple #[.agg #[.int .i64 f.length,.int .i64 f.b,.int .i64 f.i,.int .i64 f.h,.slice A n c,.string s.u,.string s.c,.string s.l,.string s.s,.int .i64 s.t,.int .i64 s.h,.int .i64 s.e,.int .i64 s.d,.bool s.q,.string lg],.slice B k c',.int .i64 co])) (World.setRow W g4 row):=by
 subst hr;have hg4:=yl W g4 row;have hlm:=h1.2.1;refine ⟨A,n,c,B,k,c',rfl,zg hb hg row,hn,hk,lo,mid,by omega,h1.grown hg4 (fun j e=>by injection e with e;omega),h2.kept hg4 ?_⟩;cases hv:(Value.slice B k c').ownBlock with
 | none=>exact .inl rfl
 | some j=>exact .inr (fun e=>by have:=zn h2 j hv;injection e with e;omega)
theorem OutDc.of{r:xD}{w W:World}{f:Foot}{xs:List Last}{s:Style}{lg:ByteArray}{L:List ByteArray}{co:Int}{A B:Option Addr}{n c k c' lo mid:Nat}(hr:r=(⟨f,xs,s,lg⟩,L,co))(hn:xs.length=n)(hk:L.length=k)(hb:Below w.heap.size w W)(hg:w.heap.size<=lo)(h1:Own W lo mid 100 6 n (.slice A n c) (zd Last.cells xs))(h2:W.ownsRow mid 9 1 (.slice B k c') k (zd zt L)):OutDc r w (.returned (.tuple #[.agg #[.int .i64 f.length,.int .i64 f.b,.int .i64 f.i,.int .i64 f.h,.slice A n c,.string s.u,.string s.c,.string s.l,.string s.s,.int .i64 s.t,.int .i64 s.h,.int .i64 s.e,.int .i64 s.d,.bool s.q,.string lg],.slice B k c',.int .i64 co])) W:=by
 subst hr;exact ⟨A,n,c,B,k,c',rfl,hb,hn,hk,lo,mid,hg,h1,h2⟩
theorem OutDc.zero{r:xD}{w W:World}{co:Int}{g4:Nat}(hr:r=(zDk,[],co))(hb:Below w.heap.size w W)(hg:w.heap.size<=g4)(row:Array Value):OutDc r w (.returned (.tuple #[.agg #[.int .i64 0,.int .i64 0,.int .i64 0,.int .i64 0,.slice none 0 0,.string ⟨#[]⟩,.string ⟨#[]⟩,.string ⟨#[]⟩,.string ⟨#[]⟩,.int .i64 0,.int .i64 0,.int .i64 0,.int .i64 0,.bool false,.string ⟨#[]⟩],.slice none 0 0,.int .i64 co])) (World.setRow W g4 row):=by
 subst hr;have hb2:=zg hb hg row;exact ⟨none,0,0,none,0,0,rfl,hb2,rfl,rfl,(World.setRow W g4 row).heap.size,(World.setRow W g4 row).heap.size,hb2.size,⟨World.ownsRow_nil _ _ _ _,Nat.le_refl _,Nat.le_refl _,fun k e=>by cases e⟩,World.ownsRow_nil _ _ _ _⟩
theorem dE{ws:List ByteArray}{l:List UInt8}{j:Nat}{b:UInt8}(h:l[j]?=some b)(k:Nat):xH ws (l.drop j) k=if b=110 then (if okB (zf ws k)=true then (xH ws (l.drop (j + 1)) (k + 1)).map (zq (zf ws k) :: ·) else none) else xH ws (l.drop (j + 1)) (k + 1):=by
 rw [yM h,xH]
theorem uT{ws:List ByteArray}{k:Nat}(h:k < ws.length):zf ws k ∈ ws:=by
 unfold zf;rw [List.getD_eq_getElem?_getD,List.getElem?_eq_getElem h];exact List.getElem_mem h
theorem wA{ws:List ByteArray}{k:Nat}(h:k < ws.length):ws[k]?=some (zf ws k):=by
 unfold zf;rw [List.getD_eq_getElem?_getD,List.getElem?_eq_getElem h];rfl
theorem dd(t:ByteArray):(ye t).size<=4:=by
 unfold ye
 repeat' split
 all_goals decide
theorem fv:wi=nQ:=rfl
end Go.Proofs.YtpiehlfffjhoaaaGreatDoor
