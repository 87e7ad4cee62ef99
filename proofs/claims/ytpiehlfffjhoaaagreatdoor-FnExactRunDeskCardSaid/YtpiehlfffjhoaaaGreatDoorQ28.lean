/- Lemmas for the law on the console: the parts StyI,StyZ,CoF,CoG. -/
import Derived.Test.YtpiehlfffjhoaaaGreatDoorQ1
import Derived.Test.YtpiehlfffjhoaaaGreatDoorQ0
import Derived.Test.YtpiehlfffjhoaaaGreatDoorQ27
import Derived.Test.YtpiehlfffjhoaaaGreatDoorQ16
import Derived.Test.YtpiehlfffjhoaaaGreatDoorQ20
import Derived.Test.YtpiehlfffjhoaaaGreatDoorQ10
import Derived.Lib.IndexAny
import Derived.Test.YtpiehlfffjhoaaaGreatDoorQ26
import Derived.Test.YtpiehlfffjhoaaaGreatDoorQ12
namespace Go.Proofs.YtpiehlfffjhoaaaGreatDoor
open Go.RowKit
set_option maxRecDepth 100000
set_option maxHeartbeats 8000000
theorem aA:(Tryz.prog.info? 9).map (fun i=>(i.zero,i.size,i.bytes))=some (some (.string ByteArray.empty),1,16):=by kernel_rfl
theorem aY (x:Style):0 < (vc x).length:=by
 unfold vc xB;rw [List.flatMap_cons,sM (by unfold vt;exact yC _ _ (yC _ _ (yC _ _ (by decide))))];simp
theorem zau {x:Style} (hx:xb x=true):(Lib.join ((vc x).map (·.data.toList)) [59,32]).length≤300:=by
 have h:=(qO hx).1;unfold xQ at h;simpa [ByteArray.size,Lib.join] using h
theorem aZ {x:Style} {j:Nat} {R:ByteArray} (h:(xB x)[j]?=some R):((xB x).take (j + 1)).flatMap wm=((xB x).take j).flatMap wm ++ wm R:=by
 rw [yD h,List.flatMap_append];simp
theorem ot (x:Style) (hx:Hid (xb x=true)) (w:World) (hT:Tabs w):Calls Tryz.prog 82 #[.agg #[.string x.u,.string x.c,.string x.l,.string x.s,.int .i64 x.t,.int .i64 x.h,.int .i64 x.e,.int .i64 x.d,.bool x.q]] w (Ret (.string (xQ x)) w):=by
 obtain ⟨i0,hi0,hz0,hz1,hz2⟩:=info_parts (P:=Tryz.prog) (e:=9) (z:=.string ByteArray.empty) (size:=1) (bytes:=16) aA;have HT:=qH hT;clear hT;have hsx:Hid (x.u.size≤4194304∧x.c.size≤4194304∧x.l.size≤4194304∧x.s.size≤4194304):=qH (by have h:=(pL hx.out).1;omega);have V1:=fun w=>sR x hsx w;rw [hx.out] at V1;replace V1:=qH V1;have HCL:=qH (fun t (ht:t ∈ styW) w h=>bW x hx t ht w h);have HTX:=qH (fun k h=>zaX hx.out k h);have HLN:=qH (zau hx.out);obtain ⟨W,hW⟩:=zN (w.alloc (Obj.cells (cS x) 30));obtain ⟨gx,hgx⟩:=zN w.heap.size;have hv:Below w.heap.size w W:=by rw [hW];exact zc (Below.refl _ _) _
 have hX:Hid (Blk W gx 30 (cS x)):=qH (by rw [hW,hgx];exact Blk.new _ _ _);have HW:=qH hW;have HGX:=qH hgx;clear hW hgx;go_enter Tryz.func82,Tryz.ntmps82;go_upto_region 1 with fail;rw [←HW.out,←HGX.out];clear HW HGX;go_wp2_with (refine yL gx hX.out Tryz.underlying30 ?_)
 refine qS (V1.out _) fun W1 hb=>?_;replace hv:=za hv hb;replace hX:=qH (hX.out.below hb);clear hb V1;have hlx1:gx < W1.heap.size:=hX.out.lt;go_wp2_with fail;have hO0:=zG W1 w.heap.size 9 1 hv.size;have hb:=zc (Below.refl W1.heap.size W1) (.cells #[] 9);refine qS (qZ _) fun W2 hq=>?_;obtain ⟨gw,hgw⟩:=zN ((W1.alloc (.cells #[] 9)).heap.size);have HB:Hid (Blk W2 gw 9 (styW.map Value.string).toArray):=qH (by rw [hq,hgw];exact Blk.new _ _ _);have hb2:Below (W1.alloc (.cells #[] 9)).heap.size (W1.alloc (.cells #[] 9)) W2:=by rw [hq];exact zc (Below.refl _ _) _
 rw [←hgw];have HO:=qH (ze hO0 hb2);have hgl:W1.heap.size < gw:=by rw [hgw,World.size_alloc];omega
 replace hX:=qH ((hX.out.below hb).below hb2);replace hv:=za (za hv hb) hb2;have HR0:=qH (show ([]:List ByteArray)=((xB x).take 0).flatMap wm from rfl);obtain ⟨g0,hg0⟩:=zN W1.heap.size;rw [←hg0] at HO hgl hlx1 ⊢;clear hb hb2 hq hgw hO0 hg0;go_wp2_with fail
 go_loopw [3,13] (fun v i wr=>∃ (j k g1 c1:Nat) (ou:List ByteArray),j≤6∧i=.int .i64 j∧v=.slice (some ⟨g1,0,none⟩) k c1∧k≤j∧g1≠gw∧Hid (ou.length=k)∧Hid (ou=((xB x).take j).flatMap wm)∧Hid (wr.ownsRow w.heap.size 9 1 (.slice (some ⟨g1,0,none⟩) k c1) k (zd zn ou))∧Hid (Blk wr gx 30 (cS x))∧Hid (Blk wr gw 9 (styW.map Value.string).toArray)∧Below w.heap.size w wr∧gx < g1) (fun _ i _=>6 - (intOf i).toNat)
 case atStart=>exact ⟨0,0,g0,0,[],by omega,rfl,rfl,by omega,by omega,qH rfl,HR0,HO,hX,HB,hv,hlx1⟩
 case round=>
 clear HO hX HB hv HR0 hgl hlx1;obtain ⟨j,k,g1,c1,ou,hj,rfl,rfl,hkj,hne,HU,HR,HO,hX,HB,hv,hgx1⟩:=hrel;have hj0:(0:Int)≤(j:Int):=by omega
 by_cases hlt:j < 6
 case neg=>
  have hj6:j=6:=by omega
  subst hj6;have hj1:¬ ((6:Nat):Int) < 6:=by omega
  have hou:ou=vc x:=by rw [HR.out];unfold vc;rw [List.take_of_length_le (by simp [xB])]
  subst hou;have hk0:0 < k:=by rw [←HU.out];exact aY x
  have hgl:=yw HO.out g1 rfl;have hcap:k≤c1:=by obtain ⟨_,_,e,h,_⟩:=xT HO.out;injection e with _ _ e3;omega
  have hjn:=Tryz.strings_Join g1 0 c1 (vc x) ⟨#[59,32]⟩ wr (fun i y hy=>by
   have hi:i < (vc x).length:=(List.getElem?_eq_some_iff.1 hy).1;have h0:=HO.out.cellAt i (by rw [Nat.mul_one,←HU.out];exact hi);rw [Nat.zero_add,h0];have:=qj (f:=zn) (s:=1) (fun _=>rfl) (vc x) i 0 y hy (by omega);rw [Nat.mul_one,Nat.add_zero] at this;exact this) hgl (by rw [HU.out];omega) (by rw [HU.out];exact hcap) (Nat.le_trans HLN.out (by omega))
  rw [HU.out] at hjn;have HJ:=qH hjn;clear hjn hk0 hcap hgl;go_wp2_with fail;refine qS HJ.out fun W3 hb3=>?_;go_wp2_with fail;go_returns;exact Ret.mk rfl (za hv hb3)
 case pos=>
 have hj1:(j:Int) < 6:=by omega
 obtain ⟨t,ht,hk⟩:=zar j hlt;have c0:wr.cell? ⟨gw,j,none⟩=some (.string t):=(HB.out.cell j).trans (by simp [ht]);have HC:=fun w h=>HCL.out t (List.mem_of_getElem? ht) w h;have hR:=HTX.out j hlt;rw [hk] at HC;obtain ⟨R,hRe⟩:=zN (clK (j:Int) x);rw [←hRe] at HC hR;replace HC:=qH HC;have HS:=qH (aZ hR);clear ht hk hR hRe;go_wp2_with (refine yL gx hX.out Tryz.underlying30 ?_)
 refine qS (HC.out _ (HT.out.below hv)) fun W3 hb=>?_;replace hv:=za hv hb;replace hX:=qH (hX.out.below hb);replace HB:=qH (HB.out.below hb);replace HO:=qH (ze HO.out hb);clear hb c0 HC;have hE:=xH R;by_cases h0:R.size=0
 · rw [decide_eq_true h0] at hE;have HS2:=qH (show ou=((xB x).take (j + 1)).flatMap wm by rw [HS.out,←HR.out];unfold wm;rw [if_pos h0,List.append_nil]);clear h0 HS;go_wp2_with fail;exact ⟨⟨j + 1,k,g1,c1,ou,by omega,by go_num,rfl,by omega,hne,HU,HS2,HO,hX,HB,hv,hgx1⟩,by simp [intOf];omega⟩
 · rw [decide_eq_false h0] at hE;have HS2:=qH (show ou ++ [R]=((xB x).take (j + 1)).flatMap wm by rw [HS.out,←HR.out];unfold wm;rw [if_neg h0]);clear h0 HS;go_wp2_with (at_builtin;refine yq W3 #[.string R] rfl _ _ 24 9 rfl i0 _ 1 16 Tryz.underlying24 hi0 hz0 hz1 hz2 rfl (by omega) w.heap.size (some ⟨g1,0,none⟩) k c1 _ rfl _ rfl rfl HO.out rfl (by simp [Value.oneCell']) (by unfold maxLen;omega) (by omega) hv.size ?_;intro g4 c4 W4 hown4 hg4 hf4)
   have hlw:=HB.out.lt;have hlx:=hX.out.lt;have hne4:g4≠gw∧gx < g4:=by
    rcases hf4 with e | e
    · simp only [Option.some.injEq,Addr.mk.injEq,and_true] at e;omega
    · omega
   have hX4:=hX.out.grown hg4 (by intro e;simp at e;omega);have HB4:=HB.out.grown hg4 (by intro e;simp at e;omega);have hv4:=zh hv hg4 (fun k e=>by simp at e;have:=zl HO.out g1 rfl;omega);exact ⟨⟨j + 1,k + 1,g4,c4,ou ++ [R],by omega,by go_num,rfl,by omega,hne4.1,qH (by rw [List.length_append,HU.out];rfl),HS2,qH (by rw [zX,wb];exact hown4),qH hX4,qH HB4,hv4,hne4.2⟩,by simp [intOf];omega⟩
theorem cY (s:ByteArray):decide ((zi 59 s).length≤1) = !decide (0≤Lib.indexByte s.data.toList 59):=by
 rw [←Lib.contains_iff_indexByte];unfold zi;rw [List.length_map,rU];by_cases h:(59:UInt8) ∈ s.data.toList
 · have h1:=List.count_pos_iff.2 h;rw [decide_eq_false (by omega),List.contains_iff_mem.2 h];rfl
 · have h1:=List.count_eq_zero.2 h;have h2:s.data.toList.contains (59:UInt8)=false:=by
    rw [Bool.eq_false_iff];intro hc;exact h (List.contains_iff_mem.1 hc)
   rw [h2,decide_eq_true (by omega)];rfl
theorem lA (x:Style) (hx:Hid (x.u.size≤4194304∧x.c.size≤4194304∧x.l.size≤4194304∧x.s.size≤4194304)) (s:ByteArray) (hs:s.size≤1048576) (w:World) (hT:Tabs w):Calls Tryz.prog 83 #[.agg #[.string x.u,.string x.c,.string x.l,.string x.s,.int .i64 x.t,.int .i64 x.h,.int .i64 x.e,.int .i64 x.d,.bool x.q],.string s] w (RetT #[.agg #[.string (yW x s).u,.string (yW x s).c,.string (yW x s).l,.string (yW x s).s,.int .i64 (yW x s).t,.int .i64 (yW x s).h,.int .i64 (yW x s).e,.int .i64 (yW x s).d,.bool (yW x s).q],.int .i64 (wk x s)] w):=by
 have HT:=qH hT;clear hT;obtain ⟨W,hW⟩:=zN ((w.alloc (Obj.cells (cS x) 30)).alloc (Obj.cells cT 30));obtain ⟨gx,hgx⟩:=zN w.heap.size;obtain ⟨gr,hgr⟩:=zN (w.heap.size + 1);have hv:Below w.heap.size w W:=by rw [hW];exact zc (zc (Below.refl _ _) _) _
 have hX:Hid (Blk W gx 30 (cS x)):=qH (by rw [hW,hgx];exact (Blk.new _ _ _).alloc _);have hR:Hid (Blk W gr 30 cT):=qH (by
  have h:=Blk.new (w.alloc (Obj.cells (cS x) 30)) 30 cT;rw [World.size_alloc] at h;rw [hW,hgr];exact h)
 have hge:w.heap.size≤gr:=by omega
 have HW:=qH hW;have HGX:=qH hgx;have HGR:=qH hgr;clear hW hgx hgr;have HOK:=fun w=>sR x hx w;obtain ⟨sb,hsb⟩:=zN (xb x);rw [←hsb] at HOK;replace HOK:=qH HOK;have HSB:=qH hsb.symm;clear hsb;go_enter Tryz.func83,Tryz.ntmps83;go_upto_region 1 with fail;rw [←HW.out,←HGR.out,←HGX.out];clear HW HGR HGX;go_wp2_with (refine yL gx hX.out Tryz.underlying30 ?_)
 refine qS (HOK.out _) fun W1 hb=>?_;replace hv:=za hv hb;replace hX:=qH (hX.out.below hb);replace hR:=qH (hR.out.below hb);clear hb HOK;cases sb
 · have H1:=qH (show yW x s=yy by unfold yW;rw [HSB.out];rfl);have H2:=qH (show wk x s=1 by unfold wk;rw [HSB.out];rfl);go_wp2_with (refine yS gr cT hR.out ?_)
   refine bodyPost_ret (zk (P:=Tryz.prog) rfl _ _ gr 30 cT (0,0) _ rfl ?_ Tryz.underlying30 rfl (by kernel_rfl)) rfl ?_
   · exact setRow_heap _ _ _ _ _ _ hR.out
   · exact RetT.mk (by rw [H1.out,H2.out];rfl) (zg hv hge _)
 have hok:uj s=(!decide (0≤Lib.indexByte s.data.toList 59) && decide (zE (zO s)=0)):=by unfold uj;rw [cY]
 have hpr:yW x s=(if uj s=true then yr x (zO s) else yy):=by unfold yW;rw [HSB.out];rfl
 have hpc:wk x s=(if uj s=true then 0 else 7):=by unfold wk;rw [HSB.out];rfl
 have HSC:=fun w=>Tryz.strings_Contains_one s 59 w;obtain ⟨cb,hcb⟩:=zN (decide (0≤Lib.indexByte s.data.toList 59));rw [←hcb] at hok HSC;replace HSC:=qH HSC;have HOKC:=qH hok;have HPR:=qH hpr;have HPC:=qH hpc;have HCP:=qH (fun w h=>ro s (by omega) w h);clear hcb hok hpr hpc HSB;go_wp2_with fail;refine qR (HSC.out _) ?_;clear HSC;cases cb
 case true=>
  have hk:uj s=false:=by rw [HOKC.out];rfl
  have H1:=qH (show yW x s=yy by rw [HPR.out,hk];rfl);have H2:=qH (show wk x s=7 by rw [HPC.out,hk];rfl);clear hk;go_wp2_with (refine yS gr cT hR.out ?_)
  refine bodyPost_ret (zk (P:=Tryz.prog) rfl _ _ gr 30 cT (0,0) _ rfl ?_ Tryz.underlying30 rfl (by kernel_rfl)) rfl ?_
  · exact setRow_heap _ _ _ _ _ _ hR.out
  · exact RetT.mk (by rw [H1.out,H2.out];rfl) (zg hv hge _)
 go_wp2_with fail;refine qS (HCP.out _ (HT.out.below hv)) fun W4 hb=>?_;replace hv:=za hv hb;replace hX:=qH (hX.out.below hb);replace hR:=qH (hR.out.below hb);clear hb HCP;by_cases hp0:zE (zO s)=0
 case neg=>
  have hpq:(zE (zO s) != 0)=true:=by rw [bne_iff_ne];exact hp0
  have hk:uj s=false:=by rw [HOKC.out,decide_eq_false hp0,Bool.and_false]
  have H1:=qH (show yW x s=yy by rw [HPR.out,hk];rfl);have H2:=qH (show wk x s=7 by rw [HPC.out,hk];rfl);clear hk hp0;go_wp2_with (refine yS gr cT hR.out ?_)
  refine bodyPost_ret (zk (P:=Tryz.prog) rfl _ _ gr 30 cT (0,0) _ rfl ?_ Tryz.underlying30 rfl (by kernel_rfl)) rfl ?_
  · exact setRow_heap _ _ _ _ _ _ hR.out
  · exact RetT.mk (by rw [H1.out,H2.out];rfl) (zg hv hge _)
 have hpq:(zE (zO s) != 0)=false:=by rw [hp0];rfl
 have hk:uj s=true:=by rw [HOKC.out,decide_eq_true hp0];rfl
 have H1:=qH (show yW x s=yr x (zO s) by rw [HPR.out,hk];rfl);have H2:=qH (show wk x s=0 by rw [HPC.out,hk];rfl);have HWT:=fun w h=>bt x s (by omega) (qH hp0) w h;rw [←H1.out] at HWT;replace HWT:=qH HWT;clear hk hp0;obtain ⟨Y,hY⟩:=zN (yW x s);rw [←hY] at HWT;have HY:=qH hY.symm;clear hY;go_wp2_with (refine yL gx hX.out Tryz.underlying30 ?_)
 refine qS (HWT.out _ (HT.out.below hv)) fun W5 hb=>?_;replace hv:=za hv hb;replace hR:=qH (hR.out.below hb);clear hb HWT;go_wp2_with (refine yS gr (cS Y) hR.out ?_)
 refine bodyPost_ret (zk (P:=Tryz.prog) rfl _ _ gr 30 (cS Y) (0,0) _ rfl ?_ Tryz.underlying30 rfl (by kernel_rfl)) rfl ?_
 · exact setRow_heap _ _ _ _ _ _ hR.out
 · exact RetT.mk (by rw [HY.out,H2.out];rfl) (zg hv hge _)
theorem ed {t:ByteArray} (h:zo t=true):t.size≤12:=by
 by_cases h12:12 < t.size
 · rw [wN (.inl h12)] at h;cases h
 · omega
theorem zcv {x:Style} (hx:xb x=true):x.u.size≤4194304∧x.c.size≤4194304∧x.l.size≤4194304∧x.s.size≤4194304:=by
 rw [wB] at hx;obtain ⟨h1,h2,h3,h4,_⟩:=hx;have e1:=ed h1;have e2:=ed h2;have e4:=ed h4;rw [Bool.or_eq_true] at h3;refine ⟨by omega,by omega,?_,by omega⟩;rcases h3 with h | h
 · have:=of_decide_eq_true h;omega
 · have:=ed h;omega
theorem eP {w:World} {g:Nat} {t:TypeId} {cs:Array Value} (h:Blk w g t cs) (o:Nat) (vs:List Value) (he:(cs.toList.drop o).take vs.length=vs):w.rangeAt g o vs:=fun j v hj=>by
 have hl:j < vs.length:=(List.getElem?_eq_some_iff.1 hj).1;rw [h.cell,←hj,←he,List.getElem?_take,if_pos hl,List.getElem?_drop,Array.getElem?_toList]
theorem sV {g:Nat} {t:TypeId}:∀ (vs cs:List Value) (o:Nat) (w:World),Blk w g t cs.toArray→Blk (w.setCells g o vs) g t (uQ cs o vs).toArray
 | [],_,_,_,h=>h
 | v :: r,cs,o,w,h=>sV r (cs.set o v) (o + 1) _ (by have h1:=h.set_ o v;rwa [List.setIfInBounds_toArray] at h1)
theorem dq (w0 w:World) (gd ga:Nat) (f:Foot) (xs:List Last) (s:Style) (lg:ByteArray) (n c:Nat) (A An:Option Addr) (ws:List ByteArray) (ns:List Int) (nw kn cn:Nat) (h:XIn w0 w gd ga f xs s lg n c A An ws ns nw kn) (hk:zf ws 0=zM) (h2:2≤nw) :
 Calls Tryz.prog 35 #[.pointer (some ⟨gd,0,none⟩),.slice (some ⟨ga,0,none⟩) nw nw,.slice An kn cn] w (OutX w0 gd (wC ⟨f,xs,s,lg⟩ (yx ws))):=by
 have HBW:=qH h.hbw;have HWS:=qH h.hws;have HD:Hid (Blk w gd 32 (cD f A n c s lg)):=qH h.hdk;have HO:=qH h.hown;have HNE:=qH h.hne;have HT:=qH h.htabs;have HCN:=qH h.hchg;have HOK:=qH h.hok;have HSZ:=qH h.hsz;have hn:=h.hn;have hnw:=h.hnw;have hkn:=h.hkn;have hgd:=h.hgd;have hn30:=h.n30;have hnw0:=h.nw0;have hnw1:=h.nw1;have HJ:=qH (h.join);have hx0:=h.word0 hk;have HK:=qH hk;have hrz:=h.hrsz;clear h hk;have hl1:(1:Int)≤(nw:Int):=by omega
 have hl2:¬ (nw - 1=0):=by omega
 have hl0:(0:Int) < (nw:Int):=by omega
 have hx1:w.cell? ⟨ga,0,none⟩=some (.string ⟨#[115,116,121,108,101]⟩):=hx0;clear hx0;go_enter Tryz.func35,Tryz.ntmps35;go_wp2_with fail;refine qS HJ.out fun W hb=>?_;obtain ⟨rt,hrt⟩:=zN (yx ws);have HRT:=qH hrt;rw [←hrt];rw [←hrt] at hrz;clear hrt HJ;replace HBW:=qH (za HBW.out hb);replace HD:=qH (HD.out.below hb);replace HO:=qH (ze HO.out hb);replace hx1:=zb hb hx1;clear hb;clear hl1 hl2;have HRF:=fun w h=>jt rt hrz w h;have HFD:Hid (wC ⟨f,xs,s,lg⟩ rt=if rdC rt=0 then (⟨f,xs,rdS rt,lg⟩,[xQ (rdS rt)],0) else (⟨f,xs,s,lg⟩,[],rdC rt)):=qH rfl;have HSY:=qH (fun (hc:(wC ⟨f,xs,s,lg⟩ rt).2.2=0)=>(ym (rI HOK.out hc).1).2.2.1);obtain ⟨y,hy⟩:=zN (rdS rt);obtain ⟨co,hco⟩:=zN (rdC rt);rw [←hy,←hco] at HRF HFD;rw [HFD.out] at HSY;replace HRF:=qH HRF;clear hy hco;go_wp2_with fail;refine qS (HRF.out _ (HT.out.below HBW.out)) fun W2 hb=>?_;replace HBW:=qH (za HBW.out hb);replace HD:=qH (HD.out.below hb);replace HO:=qH (ze HO.out hb);clear hb;have hsz:=HBW.out.size;obtain ⟨gz,hgz⟩:=zN W2.heap.size;obtain ⟨W3,hW3⟩:=zN (W2.alloc (Obj.cells cT 30));have HB0:Hid (Blk W3 gz 30 cT):=qH (by rw [hW3,hgz];exact Blk.new _ _ _);have hb:Below W2.heap.size W2 W3:=by rw [hW3];exact zc (Below.refl _ _) _
 have hgw:w0.heap.size≤gz:=by omega
 have hgne:gd < gz:=by have:=HD.out.lt;omega
 have hone:Hid (∀ k,(Value.slice A n c).ownBlock=some k→k≠gz):=qH (fun k e=>by have:=yw HO.out k e;omega);have HG:=qH hgz;have HW:=qH hW3;clear hgz hW3;replace HBW:=qH (za HBW.out hb);replace HD:=qH (HD.out.below hb);replace HO:=qH (ze HO.out hb);clear hb;by_cases hc:co=0
 case neg=>
  have HE:=qH (HFD.out.trans (if_neg hc));go_wp2_with (rw [←HW.out,←HG.out];refine yS gz (cS y) HB0.out ?_)
  go_returns;exact OutX.no (by rw [←HRT.out,HE.out]) hc (zg HBW.out hgw _)
 case pos=>
  subst hc;have HE:=qH (HFD.out.trans (if_pos rfl));have HST:=qH (HSY.out (by rw [if_pos rfl]));rw [if_pos rfl] at HST;have HFT:=qH (fun w h=>ot y HST w h);go_wp2_with (first
   | (refine yL gz HF5.out Tryz.underlying30 ?_)
   | (refine yL gz HF4.out Tryz.underlying30 ?_)
   | (refine wpList_store_mid rfl 30 _ _ rfl gd 5 (cS y) rfl rfl (vS HD4.out (by show 5 + 9≤15;omega)) (by kernel_rfl) (by simp [Value.oneCell']) ?_
      have HD5:Hid (Blk (World.setCells W4 gd 5 (Array.toList (cS y))) gd 32 (cD f A n c y lg)):=qH (sV [Value.string y.u,Value.string y.c,Value.string y.l,Value.string y.s,Value.int .i64 y.t,Value.int .i64 y.h,Value.int .i64 y.e,Value.int .i64 y.d,Value.bool y.q] [Value.int .i64 f.length,Value.int .i64 f.b,Value.int .i64 f.i,Value.int .i64 f.h,Value.slice A n c,Value.string s.u,Value.string s.c,Value.string s.l,Value.string s.s,Value.int .i64 s.t,Value.int .i64 s.h,Value.int .i64 s.e,Value.int .i64 s.d,Value.bool s.q,Value.string lg] 5 W4 HD4.out);have HF5:=qH (tz (g':=gd) HF4.out (by omega) (o:=5) (Array.toList (cS y)));have HO5:=qH (tZ HO4.out HNE.out 5 (Array.toList (cS y)));have HBW5:=qH (qg HBW4.out hgd 5 (Array.toList (cS y)));obtain ⟨W5,hW5⟩:=zN (World.setCells W4 gd 5 (Array.toList (cS y)));rw [←hW5] at HD5 HF5 HO5 HBW5 ⊢;clear hW5;clear HD4 HF4 HO4 HBW4)
   | (rw [←HW.out,←HG.out];refine yS gz (cS y) HB0.out ?_
      have HF4:Hid (Blk (World.setRow W3 gz (cS y)) gz 30 (cS y)):=qH (setRow_heap _ _ _ _ _ _ HB0.out);have hg4:=yh W3 gz (cS y);have HD4:=qH (HD.out.grown hg4 (fun e=>by injection e with e;omega));have HO4:=qH (wS HO.out hone.out (cS y));have HBW4:=qH (zg HBW.out hgw (cS y));clear hg4;obtain ⟨W4,hW4⟩:=zN (World.setRow W3 gz (cS y));rw [←hW4] at HF4 HD4 HO4 HBW4 ⊢;clear hW4))
  refine qS (HFT.out _ (HT.out.below HBW5.out)) fun W6 hb=>?_;have HD6:=qH (HD5.out.below hb);have HO6:=qH (ze HO5.out hb);have HBW6:=qH (za HBW5.out hb);clear hb HF5 HD5 HO5 HBW5;go_wp2_with fail;go_returns;exact OutX.one (by rw [←HRT.out,HE.out]) hn.out HBW6.out HO6.out HD6.out
theorem fF (w0 w:World) (gd ga:Nat) (f:Foot) (xs:List Last) (s:Style) (lg:ByteArray) (n c:Nat) (A An:Option Addr) (ws:List ByteArray) (ns:List Int) (nw kn cn:Nat) (h:XIn w0 w gd ga f xs s lg n c A An ws ns nw kn) (hk:zf ws 0=zw) (h2:2≤nw) :
 Calls Tryz.prog 35 #[.pointer (some ⟨gd,0,none⟩),.slice (some ⟨ga,0,none⟩) nw nw,.slice An kn cn] w (OutX w0 gd (xV ⟨f,xs,s,lg⟩ (yx ws))):=by
 have HBW:=qH h.hbw;have HWS:=qH h.hws;have HD:Hid (Blk w gd 32 (cD f A n c s lg)):=qH h.hdk;have HO:=qH h.hown;have HNE:=qH h.hne;have HT:=qH h.htabs;have HCN:=qH h.hchg;have HOK:=qH h.hok;have HSZ:=qH h.hsz;have hn:=h.hn;have hnw:=h.hnw;have hkn:=h.hkn;have hgd:=h.hgd;have hn30:=h.n30;have hnw0:=h.nw0;have hnw1:=h.nw1;have HJ:=qH (h.join);have hx0:=h.word0 hk;have HK:=qH hk;have hrz:=h.hrsz;clear h hk;have hl1:(1:Int)≤(nw:Int):=by omega
 have hl2:¬ (nw - 1=0):=by omega
 have hl0:(0:Int) < (nw:Int):=by omega
 have hx1:w.cell? ⟨ga,0,none⟩=some (.string ⟨#[99,108,97,117,115,101]⟩):=hx0;clear hx0;go_enter Tryz.func35,Tryz.ntmps35;go_wp2_with fail;refine qS HJ.out fun W hb=>?_;obtain ⟨rt,hrt⟩:=zN (yx ws);have HRT:=qH hrt;rw [←hrt];rw [←hrt] at hrz;clear hrt HJ;replace HBW:=qH (za HBW.out hb);replace HD:=qH (HD.out.below hb);replace HO:=qH (ze HO.out hb);replace hx1:=zb hb hx1;clear hb;clear hl1 hl2;have HRF:=fun w h=>lA s (qH (zcv (ym HOK.out).2.2.1)) rt hrz w h;have HFD:Hid (xV ⟨f,xs,s,lg⟩ rt=if wk s rt=0 then (⟨f,xs,yW s rt,lg⟩,[xQ (yW s rt)],0) else (⟨f,xs,s,lg⟩,[],wk s rt)):=qH rfl;have HSY:=qH (fun (hc:(xV ⟨f,xs,s,lg⟩ rt).2.2=0)=>(ym (sz HOK.out hc).1).2.2.1);obtain ⟨y,hy⟩:=zN (yW s rt);obtain ⟨co,hco⟩:=zN (wk s rt);rw [←hy,←hco] at HRF HFD;rw [HFD.out] at HSY;replace HRF:=qH HRF;clear hy hco;go_wp2_with ((refine wpList_load_mid rfl 30 _ rfl gd 5 rfl [Value.string s.u,Value.string s.c,Value.string s.l,Value.string s.s,Value.int .i64 s.t,Value.int .i64 s.h,Value.int .i64 s.e,Value.int .i64 s.d,Value.bool s.q] _ (eP HD.out 5 [Value.string s.u,Value.string s.c,Value.string s.l,Value.string s.s,Value.int .i64 s.t,Value.int .i64 s.h,Value.int .i64 s.e,Value.int .i64 s.d,Value.bool s.q] rfl) Tryz.underlying30 rfl (by kernel_rfl) ?_))
 refine qS (HRF.out _ (HT.out.below HBW.out)) fun W2 hb=>?_;replace HBW:=qH (za HBW.out hb);replace HD:=qH (HD.out.below hb);replace HO:=qH (ze HO.out hb);clear hb;have hsz:=HBW.out.size;obtain ⟨gz,hgz⟩:=zN W2.heap.size;obtain ⟨W3,hW3⟩:=zN (W2.alloc (Obj.cells cT 30));have HB0:Hid (Blk W3 gz 30 cT):=qH (by rw [hW3,hgz];exact Blk.new _ _ _);have hb:Below W2.heap.size W2 W3:=by rw [hW3];exact zc (Below.refl _ _) _
 have hgw:w0.heap.size≤gz:=by omega
 have hgne:gd < gz:=by have:=HD.out.lt;omega
 have hone:Hid (∀ k,(Value.slice A n c).ownBlock=some k→k≠gz):=qH (fun k e=>by have:=yw HO.out k e;omega);have HG:=qH hgz;have HW:=qH hW3;clear hgz hW3;replace HBW:=qH (za HBW.out hb);replace HD:=qH (HD.out.below hb);replace HO:=qH (ze HO.out hb);clear hb;by_cases hc:co=0
 case neg=>
  have HE:=qH (HFD.out.trans (if_neg hc));go_wp2_with (rw [←HW.out,←HG.out];refine yS gz (cS y) HB0.out ?_)
  go_returns;exact OutX.no (by rw [←HRT.out,HE.out]) hc (zg HBW.out hgw _)
 case pos=>
  subst hc;have HE:=qH (HFD.out.trans (if_pos rfl));have HST:=qH (HSY.out (by rw [if_pos rfl]));rw [if_pos rfl] at HST;have HFT:=qH (fun w h=>ot y HST w h);go_wp2_with (first
   | (refine yL gz HF5.out Tryz.underlying30 ?_)
   | (refine yL gz HF4.out Tryz.underlying30 ?_)
   | (refine wpList_store_mid rfl 30 _ _ rfl gd 5 (cS y) rfl rfl (vS HD4.out (by show 5 + 9≤15;omega)) (by kernel_rfl) (by simp [Value.oneCell']) ?_
      have HD5:Hid (Blk (World.setCells W4 gd 5 (Array.toList (cS y))) gd 32 (cD f A n c y lg)):=qH (sV [Value.string y.u,Value.string y.c,Value.string y.l,Value.string y.s,Value.int .i64 y.t,Value.int .i64 y.h,Value.int .i64 y.e,Value.int .i64 y.d,Value.bool y.q] [Value.int .i64 f.length,Value.int .i64 f.b,Value.int .i64 f.i,Value.int .i64 f.h,Value.slice A n c,Value.string s.u,Value.string s.c,Value.string s.l,Value.string s.s,Value.int .i64 s.t,Value.int .i64 s.h,Value.int .i64 s.e,Value.int .i64 s.d,Value.bool s.q,Value.string lg] 5 W4 HD4.out);have HF5:=qH (tz (g':=gd) HF4.out (by omega) (o:=5) (Array.toList (cS y)));have HO5:=qH (tZ HO4.out HNE.out 5 (Array.toList (cS y)));have HBW5:=qH (qg HBW4.out hgd 5 (Array.toList (cS y)));obtain ⟨W5,hW5⟩:=zN (World.setCells W4 gd 5 (Array.toList (cS y)));rw [←hW5] at HD5 HF5 HO5 HBW5 ⊢;clear hW5;clear HD4 HF4 HO4 HBW4)
   | (rw [←HW.out,←HG.out];refine yS gz (cS y) HB0.out ?_
      have HF4:Hid (Blk (World.setRow W3 gz (cS y)) gz 30 (cS y)):=qH (setRow_heap _ _ _ _ _ _ HB0.out);have hg4:=yh W3 gz (cS y);have HD4:=qH (HD.out.grown hg4 (fun e=>by injection e with e;omega));have HO4:=qH (wS HO.out hone.out (cS y));have HBW4:=qH (zg HBW.out hgw (cS y));clear hg4;obtain ⟨W4,hW4⟩:=zN (World.setRow W3 gz (cS y));rw [←hW4] at HF4 HD4 HO4 HBW4 ⊢;clear hW4))
  refine qS (HFT.out _ (HT.out.below HBW5.out)) fun W6 hb=>?_;have HD6:=qH (HD5.out.below hb);have HO6:=qH (ze HO5.out hb);have HBW6:=qH (za HBW5.out hb);clear hb HF5 HD5 HO5 HBW5;go_wp2_with fail;go_returns;exact OutX.one (by rw [←HRT.out,HE.out]) hn.out HBW6.out HO6.out HD6.out
theorem ai (w0 w:World) (gd ga:Nat) (f:Foot) (xs:List Last) (s:Style) (lg:ByteArray) (n c:Nat) (A An:Option Addr) (ws:List ByteArray) (ns:List Int) (nw kn cn:Nat) (h:XIn w0 w gd ga f xs s lg n c A An ws ns nw kn) (hk:zf ws 0=yb) (h2:2≤nw) :
 Calls Tryz.prog 35 #[.pointer (some ⟨gd,0,none⟩),.slice (some ⟨ga,0,none⟩) nw nw,.slice An kn cn] w (OutX w0 gd (xt ⟨f,xs,s,lg⟩ (yx ws))):=by
 have HBW:=qH h.hbw;have HWS:=qH h.hws;have HD:Hid (Blk w gd 32 (cD f A n c s lg)):=qH h.hdk;have HO:=qH h.hown;have HNE:=qH h.hne;have HT:=qH h.htabs;have HCN:=qH h.hchg;have HOK:=qH h.hok;have HSZ:=qH h.hsz;have hn:=h.hn;have hnw:=h.hnw;have hkn:=h.hkn;have hgd:=h.hgd;have hn30:=h.n30;have hnw0:=h.nw0;have hnw1:=h.nw1;have HJ:=qH (h.join);have hx0:=h.word0 hk;have HK:=qH hk;have hrz:(yx ws).size≤4194304:=Nat.le_trans h.hrsz (by omega);obtain ⟨hfB,hlB,hsB,hcB⟩:=ym h.hok;have HFT:=qH (rj hsB);have hlg:=wP hcB;have HNZ:Hid (∀ x ∈ xs,x.name.size≤9223372036854775807):=qH (fun x hx=>Nat.le_trans (yB (yV hlB x hx)) (by omega));clear h hk;have hl1:(1:Int)≤(nw:Int):=by omega
 have hl2:¬ (nw - 1=0):=by omega
 have hl0:(0:Int) < (nw:Int):=by omega
 have hx1:w.cell? ⟨ga,0,none⟩=some (.string ⟨#[108,97,115,116]⟩):=hx0;clear hx0;go_enter Tryz.func35,Tryz.ntmps35;go_wp2_with fail;refine qS HJ.out fun W hb=>?_;obtain ⟨rt,hrt⟩:=zN (yx ws);have HRT:=qH hrt;rw [←hrt];rw [←hrt] at hrz;clear hrt HJ;replace HBW:=qH (za HBW.out hb);replace HD:=qH (HD.out.below hb);replace HO:=qH (ze HO.out hb);replace hx1:=zb hb hx1;clear hb;clear hl1 hl2;have HRF:=fun w h=>fg rt hrz w h;have HSO:=qH (fun x (h:wc rt=some x)=>(lp h).2);have HNO:=qH (fun (h:wc rt=none)=>(show xt ⟨f,xs,s,lg⟩ rt=(⟨f,xs,s,lg⟩,[],7) by unfold xt;rw [h];rfl));have HYE:=qH (fun x (h:wc rt=some x)=>(show xt ⟨f,xs,s,lg⟩ rt=if (yO xs x).2=0 then (⟨f,(yO xs x).1,s,lg⟩,[uW f (yO xs x).1.length],0) else (⟨f,xs,s,lg⟩,[],(yO xs x).2) by unfold xt;rw [h];rfl));have HLO:=qH (fun (hc:(xt ⟨f,xs,s,lg⟩ rt).2.2=0)=>(kO HOK.out hc).1);obtain ⟨o,ho⟩:=zN (wc rt);rw [←ho] at HRF HSO HNO HYE;replace HRF:=qH HRF;clear ho;go_wp2_with fail;refine qS (HRF.out _ (HT.out.below HBW.out)) fun W2 hb=>?_;replace HBW:=qH (za HBW.out hb);replace HD:=qH (HD.out.below hb);replace HO:=qH (ze HO.out hb);clear hb;have hsz:=HBW.out.size;obtain ⟨gz,hgz⟩:=zN W2.heap.size;obtain ⟨W3,hW3⟩:=zN (W2.alloc (Obj.cells cM 100));have HB0:Hid (Blk W3 gz 100 cM):=qH (by rw [hW3,hgz];exact Blk.new _ _ _);have hb:Below W2.heap.size W2 W3:=by rw [hW3];exact zc (Below.refl _ _) _
 have hgw:w0.heap.size≤gz:=by omega
 have hgne:gd < gz:=by have:=HD.out.lt;omega
 have hone:Hid (∀ k,(Value.slice A n c).ownBlock=some k→k≠gz):=qH (fun k e=>by have:=yw HO.out k e;omega);have HG:=qH hgz;have HW:=qH hW3;clear hgz hW3;replace HBW:=qH (za HBW.out hb);replace HD:=qH (HD.out.below hb);replace HO:=qH (ze HO.out hb);clear hb;cases o with
 | none=>
   rw [show vm none=#[.agg #[.string ⟨#[]⟩,.int .i64 0,.int .i64 0,.int .i64 0,.int .i64 0,.int .i64 0],.bool false] from rfl];have HE:=qH (HNO.out rfl);go_wp2_with (rw [←HW.out,←HG.out];refine yS gz cM HB0.out ?_)
   go_returns;exact OutX.no (by rw [←HRT.out,HE.out]) (by decide) (zg HBW.out hgw _)
 | some x=>
   rw [show vm (some x)=#[.agg #[.string x.name,.int .i64 x.length,.int .i64 x.b,.int .i64 x.i,.int .i64 x.h,.int .i64 x.p],.bool true] from rfl];have HXB:=qH (HSO.out x rfl);have hxz:x.name.size≤9223372036854775807:=Nat.le_trans (yB HXB.out) (by omega);have HE:=qH (HYE.out x rfl);clear HSO HNO HYE HRF;have HAL:=fun w h=>eF A xs n c x hn (by omega) HNZ hxz w h;have hap:=lV xs x;have HADK:=qH (fun (h:(yO xs x).2=0)=>(lW h).1);obtain ⟨ys,hys⟩:=zN ((yO xs x).1);obtain ⟨co,hco⟩:=zN ((yO xs x).2);rw [←hys] at HAL HE hap HADK;rw [←hco] at HAL HE HADK;clear hys hco;obtain ⟨n2,hn2⟩:=zN ys.length;rw [←hn2] at HAL hap HE;have HN2:Hid (ys.length=n2):=qH hn2.symm;clear hn2;replace HAL:=qH HAL;go_upto_region 13 with (rw [←HW.out,←HG.out];refine yS gz (cL x) HB0.out ?_;have hf4:Blk (World.setRow W3 gz (cL x)) gz 100 (cL x):=setRow_heap _ _ _ _ _ _ HB0.out;have hg4:=yh W3 gz (cL x);have hd4:=HD.out.grown hg4 (fun e=>by injection e with e;omega);have ho4:=wS HO.out hone.out (cL x);have hw4:=zg HBW.out hgw (cL x);clear hg4 HD HO HBW HB0;obtain ⟨W4,hW4⟩:∃ z,z=World.setRow W3 gz (cL x):=⟨_,rfl⟩;rw [←hW4] at hf4 hd4 ho4 hw4 ⊢;have HB0:=qH hf4;have HD:=qH hd4;have HO:=qH ho4;have HBW:=qH hw4;clear hW4 hf4 hd4 ho4 hw4)
   obtain ⟨m0,m1,m2,m3,m4,m5⟩:=qC6 HB0.out;have c4:W4.cell? ⟨gd,4,none⟩=some (.slice A n c):=HD.out.cell 4;refine zH (fun w'=>Below W4.heap.size W4 w'∧True) ?_ (fun hHeld=>?_)
   · exact ⟨(Below.refl _ _).drew,trivial⟩
   have hd9:=hHeld.1;refine zU 0 72 ?_;refine zU 1 73 ?_;refine zU 2 74 ?_;refine zT 3 75 rfl (fun w hSw=>by
    have x_c4:=zb hSw.1 c4;go_simp;try with_reducible rfl) ?_
   refine zT 4 76 rfl (fun w hSw=>by
    have x_m0:=zb hSw.1 m0;have x_m1:=zb hSw.1 m1;have x_m2:=zb hSw.1 m2;have x_m3:=zb hSw.1 m3;have x_m4:=zb hSw.1 m4;have x_m5:=zb hSw.1 m5;go_simp;try with_reducible rfl) ?_
   refine zR 5 (some 77) rfl (fun K hK=>?_);go_simp;go_split_ands;refine (HAL.out _ (Arr.own (ze HO.out hd9))).mono ?_;rintro e V ⟨A2,c2,rfl,hown,hb9⟩;have hown2:=yT hown hd9.size;replace hd9:=za hd9 hb9;clear hb9 hown;go_wp2_with fail;refine zK hK ⟨hd9,trivial⟩ (fun hHeld=>?_);clear hK K;refine zU 6 71 ?_;refine zU 7 78 ?_;refine zU 8 79 ?_;refine zU 9 13 ?_;refine zU 10 14 ?_;refine zD ?_;clear hHeld c4 m0 m1 m2 m3 m4 m5 HAL;have HO2:=qH (yT hown2 HBW.out.size);have hfar:Hid (∀ k,(Value.slice A2 n2 c2).ownBlock=some k→k≠gd):=qH (fun k e=>by have:=zl hown2 k e;have:=HD.out.lt;omega);have hb:=hd9;clear hown2 hd9;replace HBW:=qH (za HBW.out hb);replace HD:=qH (HD.out.below hb);replace HO:=qH (ze HO.out hb);clear hb;by_cases hc:co=0
   case neg=>
    rw [if_neg hc] at HE;go_wp2_with fail;go_returns;exact OutX.no (by rw [←HRT.out,HE.out]) hc HBW.out
   subst hc;rw [if_pos rfl] at HE;have HLB:=qH (HADK.out rfl);have HDT:=fun w h ht=>fa f s lg A2 ys n2 c2 HN2 (by omega) (qH (fun x hx=>Nat.le_trans (yB (yV HLB.out x hx)) (by omega))) HFT (by omega) w h ht;have hok2:=HLO.out (by rw [HE.out]);rw [HE.out] at hok2;rw [show qi f ys s lg n2=uW f n2 by unfold qi;exact if_pos hok2] at HDT;replace HDT:=qH HDT;clear hok2;have c4:V.cell? ⟨gd,4,none⟩=some (.slice A n c):=HD.out.cell 4;have f4:V.frozen? ⟨gd,4,none⟩=false:=HD.out.frozen 4;have HD5:Hid (Blk (V.setCell ⟨gd,4,none⟩ (.slice A2 n2 c2)) gd 32 (cD f A2 n2 c2 s lg)):=qH (HD.out.set_ 4 _);have HO5:=qH (xm HO2.out (p:=⟨gd,4,none⟩) hfar.out (.slice A2 n2 c2));have HBW5:=qH (zt HBW.out (p:=⟨gd,4,none⟩) hgd (.slice A2 n2 c2));go_upto_region 17 with fail;obtain ⟨V2,hV2⟩:=zN (V.setCell ⟨gd,4,none⟩ (.slice A2 n2 c2));rw [←hV2] at HD5 HO5 HBW5 ⊢;clear hV2 f4 c4 HO HD HBW HO2;go_wp2_with (refine yL gd HD5.out Tryz.underlying32 ?_)
   refine qS (HDT.out _ (Arr.own HO5.out) (HT.out.below HBW5.out)) fun W6 hb=>?_;have HD6:=qH (HD5.out.below hb);have HO6:=qH (ze HO5.out hb);have HBW6:=qH (za HBW5.out hb);clear hb HD5 HO5 HBW5;go_wp2_with fail;go_returns;exact OutX.one (by rw [←HRT.out,HE.out]) HN2.out HBW6.out HO6.out HD6.out
end Go.Proofs.YtpiehlfffjhoaaaGreatDoor
