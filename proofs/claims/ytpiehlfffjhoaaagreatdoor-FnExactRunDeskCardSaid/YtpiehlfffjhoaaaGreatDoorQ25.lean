/- Lemmas for the law on the console: the parts CnX,CnD. -/
import Derived.Test.YtpiehlfffjhoaaaGreatDoorQ1
import Derived.Test.YtpiehlfffjhoaaaGreatDoorQ0
import Derived.Test.YtpiehlfffjhoaaaGreatDoorQ24
import Derived.Lib.SlicesS
namespace Go.Proofs.YtpiehlfffjhoaaaGreatDoor
open Go.RowKit
set_option maxRecDepth 100000
set_option maxHeartbeats 8000000
theorem gh:∀ (a b:List UInt8),(32:UInt8) ∉ a→Lib.index (a ++ 32 :: b) [32]=a.length
 | [],b,_=>by rw [List.nil_append,Lib.index];simp [List.isPrefixOf]
 | c :: r,b,h=>by
   simp only [List.mem_cons,not_or] at h;have ih:=gh r b h.2;have hp:([32]:List UInt8).isPrefixOf (c :: (r ++ 32 :: b))=false:=by simp [List.isPrefixOf,h.1]
   rw [List.cons_append,Lib.index,hp,ih];simp <;> omega
theorem zci {a b:List UInt8} (h:(32:UInt8) ∉ a):Lib.cut (a ++ 32 :: b) [32]=(a,b,true):=by
 unfold Lib.cut;rw [gh a b h,if_pos (by omega)];simp
def chA (s:ByteArray):ByteArray:=⟨(Lib.cut s.data.toList [32]).1.toArray⟩
def rK (s:ByteArray):ByteArray:=⟨(Lib.cut s.data.toList [32]).2.1.toArray⟩
def chR (s:ByteArray):ByteArray:=⟨(Lib.trimPrefix (rK s).data.toList [43]).toArray⟩
def namesC:List ByteArray:=[chW 0,chW 1,chW 2,chW 3,chW 4,chW 5]
def chI (s:ByteArray):Int:=Lib.idxOfS namesC (chA s)
theorem za9 {k:Int} (h1:1≤k) (h5:k≤5):Lib.idxOfS namesC (chW k)=k:=by
 rcases (show k=1∨k=2∨k=3∨k=4∨k=5 by omega) with rfl | rfl | rfl | rfl | rfl <;> decide
theorem zac {s:ByteArray} {k a:Int} (h:wn s=some (k,a)):chI s=k∧okB (chR s)=true∧zq (chR s)=a∧chT k a=s:=by
 obtain ⟨ht,hc⟩:=ll h;obtain ⟨h1,h5,h0,hl,hu⟩:=uK hc;have hd:=oK hc;rw [ht] at hd;have hd2:s.data.toList=(chW k).data.toList ++ 32 :: ((if 0 < a then 43 else 45) :: Lib.itoa a.natAbs):=by rw [hd];simp [List.intercalate]
 have hcut:=zci (b:=((if 0 < a then 43 else 45) :: Lib.itoa a.natAbs)) (ki k);rw [←hd2] at hcut;have hA:chA s=chW k:=by unfold chA;rw [hcut]
 have hB:(rK s).data.toList=(if 0 < a then 43 else 45) :: Lib.itoa a.natAbs:=by unfold rK;rw [hcut]
 have hR:(chR s).data.toList=Lib.itoa a:=by
  unfold chR;rw [hB];by_cases hp:0 < a
  · rw [if_pos hp];have:((a.natAbs:Nat):Int)=a:=by omega
    simp [Lib.trimPrefix,Lib.hasPrefix,this]
  · rw [if_neg hp];have e:a = -((a.natAbs:Nat):Int):=by omega
    have h2:=mR (n:=((a.natAbs:Nat):Int)) (by omega);rw [if_neg (by omega),←e] at h2;rw [h2];simp [Lib.trimPrefix,Lib.hasPrefix]
 have hok:okB (chR s)=true:=by unfold okB;rw [hR];exact vX (by omega) (by omega)
 refine ⟨by unfold chI;rw [hA];exact za9 h1 h5,hok,?_,ht⟩;rw [xc hok,hR];exact (xr a).2
theorem cJ (s:ByteArray):wn s=if (okB (chR s) && decide (chT (chI s) (zq (chR s))=s))=true then some (chI s,zq (chR s)) else none:=by
 by_cases hc:(okB (chR s) && decide (chT (chI s) (zq (chR s))=s))=true
 · rw [if_pos hc];simp only [Bool.and_eq_true,decide_eq_true_eq] at hc;obtain ⟨h1,h2⟩:=hc;cases hg:xg (chI s) (zq (chR s))
   · exfalso;have e:chT (chI s) (zq (chR s))=⟨#[]⟩:=by unfold chT;rw [if_neg (by simp [hg])]
     rw [e] at h2;rw [←h2] at h1
     revert h1
     decide
   · have h3:=cK hg;rw [h2] at h3;exact h3
 · rw [if_neg hc];cases hr:wn s with
   | none=>rfl
   | some p=>
     exfalso;obtain ⟨k,a⟩:=p;obtain ⟨h1,h2,h3,h4⟩:=zac hr;apply hc;rw [h1,h2,h3,h4];simp
def qG (o:Option (Int × Int)):Array Value:=#[.agg #[.int .i64 (o.getD (0,0)).1,.int .i64 (o.getD (0,0)).2],.bool o.isSome]
theorem bu (p:ByteArray) (w:World) (hN:ChgN w):Calls Tryz.prog 64 #[.slice (some ⟨1,0,none⟩) 6 6,.string p] w (RetQ (.int .i64 (Lib.idxOfS namesC p)) w):=by
 have h:=Tryz.slices_Index_string 1 0 6 6 namesC p w (by simp [namesC]) (by omega) (by
  intro j hj;have hj6:j≤5:=by simp [namesC] at hj;omega
  rw [Nat.zero_add,hN j hj6];rcases (show j=0∨j=1∨j=2∨j=3∨j=4∨j=5 by omega) with rfl | rfl | rfl | rfl | rfl | rfl <;> rfl)
 rw [show namesC.take 6=namesC from rfl] at h;exact h
theorem bS (s:ByteArray):(chR s).size≤s.size:=by
 have h1:(rK s).data.toList.length≤s.data.toList.length:=by
  unfold rK Lib.cut;split
  · simp only [List.length_drop];omega
  · simp
 have h2:(chR s).data.toList.length≤(rK s).data.toList.length:=by
  unfold chR Lib.trimPrefix;split
  · simp
  · simp
 rw [zv,zv] at *;omega
theorem lS (s:ByteArray) (hs:s.size≤4194304) (w:World) (hT:Tabs w) (hN:ChgN w):Calls Tryz.prog 79 #[.string s] w (RetT (qG (wn s)) w):=by
 have HT:=qH hT;have HN:=qH hN;have HP:=cJ s;have hrz:=bS s;have HTR:∀ w,Calls Tryz.prog 66 #[.string (rK s),.string ⟨#[43]⟩] w fun e w'=>e=.returned (.string (chR s))∧w'=w:=fun w=>Tryz.strings_TrimPrefix (rK s) ⟨#[43]⟩ w;have HCU:∀ w,Tabs w→Calls Tryz.prog 133 #[.string s,.string ⟨#[32]⟩] w fun e w'=>∃ b:Bool,e=.returned (.tuple #[.string (chA s),.string (rK s),.bool b])∧Below w.heap.size w w':=fun w h=>by
  obtain ⟨m,hm⟩:=h.len;refine (Tryz.strings_Cut s ⟨#[32]⟩ m w (by omega) hm).mono ?_;rintro e w' ⟨rfl,n,rfl⟩;exact ⟨_,rfl,below_drewN (Below.refl _ _) n⟩
 have HIX:∀ w,ChgN w→Calls Tryz.prog 64 #[.slice (some ⟨1,0,none⟩) 6 6,.string (chA s)] w (RetQ (.int .i64 (chI s)) w):=fun w h=>bu (chA s) w h;obtain ⟨ka,hka⟩:=zN (chA s);obtain ⟨am,ham⟩:=zN (rK s);obtain ⟨tr,htr⟩:=zN (chR s);obtain ⟨k,hk⟩:=zN (chI s);rw [←hka,←ham] at HCU;rw [←ham,←htr] at HTR;rw [←hka,←hk] at HIX;rw [←hk,←htr] at HP;rw [←htr] at hrz;have hrd:=fun w h=>xO tr (by omega) w h;change ∀ w,Tabs w→Calls Tryz.prog 33 #[.string tr] w (RetT #[.int .i64 (zq tr),.bool (okB tr)] w) at hrd;obtain ⟨n,hn⟩:=zN (zq tr);obtain ⟨b,hb⟩:=zN (okB tr);rw [←hn,←hb] at hrd HP;have HCT:=fun w h h2=>lR k n w h h2;obtain ⟨u,hu⟩:=zN (chT k n);rw [←hu] at HP HCT;obtain ⟨q,hq⟩:=zN (decide (u=s));rw [←hq] at HP;have hbb:(u.toList == s.toList)=q:=by rw [hq];exact yJ _ _
 replace HP:=qH HP;replace HTR:=qH HTR;replace HCU:=qH HCU;replace HIX:=qH HIX;have HRD:=qH hrd;replace HCT:=qH HCT;clear hka ham htr hk hn hb hu hq hrd hrz hT hN;obtain ⟨W,hW⟩:=zN (w.alloc (Obj.cells #[.int .i64 0,.int .i64 0] 126));obtain ⟨g,hg⟩:=zN w.heap.size;have hv:Below w.heap.size w W:=by rw [hW];exact zc (Below.refl _ _) _
 have HB:Hid (Blk W g 126 #[.int .i64 0,.int .i64 0]):=qH (by rw [hW,hg];exact Blk.new _ _ _);have hgw:w.heap.size≤g:=by omega
 have HW:=qH hW;have HG:=qH hg;clear hW hg;go_enter Tryz.func79,Tryz.ntmps79;go_upto_region 1 with fail;rw [←HW.out,←HG.out];clear HW HG;go_wp2_with fail;refine (HCU.out _ (HT.out.below hv)).mono ?_;rintro e W1 ⟨b9,rfl,hb⟩;replace HB:=qH (HB.out.below hb);replace hv:=za hv hb;clear hb HCU;go_wp2_with fail;refine qR (HTR.out _) ?_;clear HTR;go_wp2_with fail;refine qS (HRD.out _ (HT.out.below hv)) fun W2 hb=>?_;replace HB:=qH (HB.out.below hb);replace hv:=za hv hb;clear hb HRD;go_wp2_with fail;refine qR (HIX.out _ (HN.out.below hv)) ?_;clear HIX;go_upto_region 4 with fail;obtain ⟨W3,hWn⟩:=zN (World.alloc W2 (Obj.cells #[.int .i64 k,.int .i64 n] 126));obtain ⟨gd,hgn⟩:=zN W2.heap.size;have hb:Below W2.heap.size W2 W3:=by rw [hWn];exact zc (Below.refl _ _) _
 have HD:Hid (Blk W3 gd 126 #[.int .i64 k,.int .i64 n]):=qH (by rw [hWn,hgn];exact Blk.new _ _ _);rw [←hWn,←hgn];clear hWn hgn;replace HB:=qH (HB.out.below hb);replace hv:=za hv hb;clear hb;cases b
 case false=>
  have HR:=qH (show qG (wn s)=#[.agg #[.int .i64 0,.int .i64 0],.bool false] by rw [HP.out];rfl)
  go_upto_if 34 with fail
  go_wp2_with (refine yS g #[.int .i64 0,.int .i64 0] HB.out ?_)
  have hF:Blk (World.setRow W3 g #[Value.int .i64 0,Value.int .i64 0]) g 126 #[.int .i64 0,.int .i64 0]:=setRow_heap _ _ _ _ _ _ HB.out;have hbF:=zF hv hgw #[Value.int .i64 0,Value.int .i64 0];obtain ⟨WF,hWF⟩:=zN (World.setRow W3 g #[Value.int .i64 0,Value.int .i64 0]);rw [←hWF] at hF hbF ⊢;clear hWF;have m0:WF.cell? ⟨g,0,none⟩=some (.int .i64 0):=hF.cell 0;have m1:WF.cell? ⟨g,1,none⟩=some (.int .i64 0):=hF.cell 1;go_wp2_with fail;try simp only [Exit.inBlock,Exit.then]
  refine bodyPost_ret (v:=.tuple #[.agg #[.int .i64 0,.int .i64 0],.bool false]) (by simp [results,Tryz.results79,go_sem,m0,m1]) rfl ?_;exact RetT.mk HR.out.symm hbF
 have k0:W3.cell? ⟨gd,0,none⟩=some (.int .i64 k):=HD.out.cell 0;have k1:W3.cell? ⟨gd,1,none⟩=some (.int .i64 n):=HD.out.cell 1;go_wp2_with fail;refine qS (HCT.out _ (HT.out.below hv).pow (HN.out.below hv)) fun W4 hb=>?_;clear k0 k1 HCT;replace HB:=qH (HB.out.below hb);replace HD:=qH (HD.out.below hb);replace hv:=za hv hb;clear hb;cases q
 case false=>
  have HR:=qH (show qG (wn s)=#[.agg #[.int .i64 0,.int .i64 0],.bool false] by rw [HP.out];rfl)
  go_upto_if 34 with fail
  go_wp2_with (refine yS g #[.int .i64 0,.int .i64 0] HB.out ?_)
  have hF:Blk (World.setRow W4 g #[Value.int .i64 0,Value.int .i64 0]) g 126 #[.int .i64 0,.int .i64 0]:=setRow_heap _ _ _ _ _ _ HB.out;have hbF:=zF hv hgw #[Value.int .i64 0,Value.int .i64 0];obtain ⟨WF,hWF⟩:=zN (World.setRow W4 g #[Value.int .i64 0,Value.int .i64 0]);rw [←hWF] at hF hbF ⊢;clear hWF;have m0:WF.cell? ⟨g,0,none⟩=some (.int .i64 0):=hF.cell 0;have m1:WF.cell? ⟨g,1,none⟩=some (.int .i64 0):=hF.cell 1;go_wp2_with fail;try simp only [Exit.inBlock,Exit.then]
  refine bodyPost_ret (v:=.tuple #[.agg #[.int .i64 0,.int .i64 0],.bool false]) (by simp [results,Tryz.results79,go_sem,m0,m1]) rfl ?_;exact RetT.mk HR.out.symm hbF
 have HR:=qH (show qG (wn s)=#[.agg #[.int .i64 k,.int .i64 n],.bool true] by rw [HP.out];rfl);go_wp2_with (first | (refine yL gd HD.out Tryz.underlying126 ?_) | (refine yS g #[.int .i64 k,.int .i64 n] HB.out ?_))
 have hF:Blk (World.setRow W4 g #[Value.int .i64 k,Value.int .i64 n]) g 126 #[.int .i64 k,.int .i64 n]:=setRow_heap _ _ _ _ _ _ HB.out;have hbF:=zF hv hgw #[Value.int .i64 k,Value.int .i64 n];obtain ⟨WF,hWF⟩:=zN (World.setRow W4 g #[Value.int .i64 k,Value.int .i64 n]);rw [←hWF] at hF hbF ⊢;clear hWF;have m0:WF.cell? ⟨g,0,none⟩=some (.int .i64 k):=hF.cell 0;have m1:WF.cell? ⟨g,1,none⟩=some (.int .i64 n):=hF.cell 1;go_wp2_with fail;try simp only [Exit.inBlock,Exit.then]
 refine bodyPost_ret (v:=.tuple #[.agg #[.int .i64 k,.int .i64 n],.bool true]) (by simp [results,Tryz.results79,go_sem,m0,m1]) rfl ?_;exact RetT.mk HR.out.symm hbF
def zLa:Last:=⟨⟨#[]⟩,0,0,0,0,0⟩
def vm (o:Option Last):Array Value:=#[.agg #[.string (o.getD zLa).name,.int .i64 (o.getD zLa).length,.int .i64 (o.getD zLa).b,.int .i64 (o.getD zLa).i,.int .i64 (o.getD zLa).h,.int .i64 (o.getD zLa).p],.bool o.isSome]
theorem vF {s:ByteArray} (h:wc s=none):vm (wc s)=#[.agg #[.string ⟨#[]⟩,.int .i64 0,.int .i64 0,.int .i64 0,.int .i64 0,.int .i64 0],.bool false]:=by rw [h];rfl
theorem zW {w:World} {g j:Nat} {L:List ByteArray} {y:ByteArray} (h:Arr w (some ⟨g,0,none⟩) (zd zn L)) (hy:L[j]?=some y):w.cell? ⟨g,j,none⟩=some (.string y):=by
 obtain ⟨bd,hbd,_,d0⟩:=zj h hy;injection hbd with hbd;subst hbd;rw [Addr.add_lit,Nat.zero_add] at d0;exact d0
theorem mi (w:World) (t:TypeId) (C:List Value):Arr (w.alloc (.cells C.toArray t)) (some ⟨w.heap.size,0,none⟩) C:=vR (Blk.new w t C.toArray)
theorem fg (s:ByteArray) (hs:s.size≤4194304) (w:World) (hT:Tabs w):Calls Tryz.prog 71 #[.string s] w (RetT (vm (wc s)) w):=by
 have HT:=qH hT;have HSP:=qH (fun w h=>sP 32 s (by omega) w h);clear hT;have hyz:Hid (∀ y ∈ zi 32 s,y.size≤s.size):=qH (fun y hy=>wj (c:=32) hy);have hno:=@nO s;have h4f:=@ra (zi 32 s);have hnf:=fun a b c d=>@oC s a b c d;have h4r:=fun a b c d f=>@lm s a b c d f;have hmk:=fun a b c d f=>@cu s a b c d f;obtain ⟨L,hL⟩:=zN (zi 32 s);rw [←hL] at HSP hyz hno h4f h4r hnf hmk;have HNO:=qH hno;have H4F:=qH h4f;have H4R:=qH h4r;have HNF:=qH hnf;have HMK:=qH hmk;obtain ⟨n,hn⟩:=zN L.length;rw [←hn] at HSP;have HN:=qH hn.symm;clear hL hno h4f h4r hn hnf hmk;obtain ⟨W,hW⟩:=zN (w.alloc (Obj.cells cM 100));obtain ⟨g,hg⟩:=zN w.heap.size;have hv:Below w.heap.size w W:=by rw [hW];exact zc (Below.refl _ _) _
 have HB:Hid (Blk W g 100 cM):=qH (by rw [hW,hg];exact Blk.new _ _ _);have hgw:w.heap.size≤g:=by omega
 have HW:=qH hW;have HG:=qH hg;clear hW hg;go_enter Tryz.func71,Tryz.ntmps71;go_upto_region 1 with fail;rw [←HW.out,←HG.out];clear HW HG;go_wp2_with fail;refine qS (HSP.out _ (HT.out.below hv)) fun W1 hw1=>?_;obtain ⟨ga,hga⟩:=zN W.heap.size;have hb:Below W.heap.size W W1:=by rw [hw1];exact zc (Below.refl _ _) _
 have HA:Hid (Arr W1 (some ⟨ga,0,none⟩) (zd zn L)):=qH (by rw [hw1,hga,yH];exact mi _ _ _);rw [←hga];clear hw1 hga HSP;replace HB:=qH (HB.out.below hb);replace hv:=za hv hb;clear hb;by_cases hm4:n=4
 case neg=>
  have hne:((n:Int) != 4)=true:=by rw [bne_iff_ne];omega
  have HR:=qH (vF (HNO.out (fun h=>hm4 (HN.out.symm.trans h))));go_wp2_with (refine yS g cM HB.out ?_)
  have hF:Blk (World.setRow W1 g cM) g 100 cM:=setRow_heap _ _ _ _ _ _ HB.out;have hbF:=zF hv hgw cM;obtain ⟨WF,hWF⟩:=zN (World.setRow W1 g cM);rw [←hWF] at hF hbF ⊢;clear hWF;obtain ⟨m0,m1,m2,m3,m4,m5⟩:=qC6 hF;go_wp2_with fail;try simp only [Exit.inBlock,Exit.then]
  refine bodyPost_ret (v:=.tuple #[.agg #[.string ⟨#[]⟩,.int .i64 0,.int .i64 0,.int .i64 0,.int .i64 0,.int .i64 0],.bool false]) (by simp [results,Tryz.results71,go_sem,m0,m1,m2,m3,m4,m5]) rfl ?_;exact RetT.mk (HR.out).symm hbF
 subst hm4;obtain ⟨nm,ft,q,p,hL⟩:=H4F.out HN.out;have hz1:=hyz.out nm (by rw [hL];simp);have hz2:=hyz.out ft (by rw [hL];simp);have hz4:=hyz.out p (by rw [hL];simp);have h0:L[0]?=some nm:=by rw [hL];rfl
 have h1:L[1]?=some ft:=by rw [hL];rfl
 have h2:L[2]?=some q:=by rw [hL];rfl
 have h3:L[3]?=some p:=by rw [hL];rfl
 have HL:=qH hL;have HI0:=qH h0;have HI1:=qH h1;have HI2:=qH h2;have HI3:=qH h3;clear hL h0 h1 h2 h3 hyz HNO H4F;have HRF:=qH (fun w h=>nb ft (by omega) w h);have hrd:=fun w h=>xO p (by omega) w h;change ∀ w,Tabs w→Calls Tryz.prog 33 #[.string p] w (RetT #[.int .i64 (zq p),.bool (okB p)] w) at hrd;obtain ⟨b1,hb1⟩:=zN ((xk ft).isSome);obtain ⟨f,hf⟩:=zN ((xk ft).getD zFo);have hfs:b1=true→xk ft=some f:=fun h=>by
  rw [hb1] at h;rw [hf];cases hr:xk ft with
  | none=>rw [hr] at h;cases h
  | some f=>rfl
 have hfn:b1=false→xk ft=none:=fun h=>by
  rw [hb1] at h;cases hr:xk ft with
  | none=>rfl
  | some f=>rw [hr] at h;cases h
 unfold tP at HRF;rw [←hb1,←hf] at HRF;have HFS:=qH hfs;have HFN:=qH hfn;obtain ⟨b2,hb2⟩:=zN (okB p);rw [←hb2] at hrd;have HB2:=qH hb2.symm;obtain ⟨np,hnp⟩:=zN (zq p);rw [←hnp] at hrd;have HNP:=qH hnp;have HRD:=qH hrd;clear hb1 hf hfs hfn hb2 hnp hrd;have k1:W1.cell? ⟨ga,1,none⟩=some (.string ft):=zW HA.out HI1.out;go_wp2_with fail;refine qS (HRF.out _ (HT.out.below hv)) fun W2 hb=>?_;clear k1;replace HB:=qH (HB.out.below hb);replace HA:=qH (HA.out.below hb);replace hv:=za hv hb;clear hb;go_upto_region 5 with fail;obtain ⟨W3,hWn⟩:=zN (World.alloc W2 (Obj.cells (cF f) 27));obtain ⟨gf,hgn⟩:=zN W2.heap.size;have hb:Below W2.heap.size W2 W3:=by rw [hWn];exact zc (Below.refl _ _) _
 have HF:Hid (Blk W3 gf 27 (cF f)):=qH (by rw [hWn,hgn];exact Blk.new _ _ _);rw [←hWn,←hgn];clear hWn hgn;replace HB:=qH (HB.out.below hb);replace HA:=qH (HA.out.below hb);replace hv:=za hv hb;clear hb;have k3:W3.cell? ⟨ga,3,none⟩=some (.string p):=zW HA.out HI3.out;go_wp2_with fail;refine qS (HRD.out _ (HT.out.below hv)) fun W4 hb=>?_;clear k3;replace HB:=qH (HB.out.below hb);replace HA:=qH (HA.out.below hb);replace HF:=qH (HF.out.below hb);replace hv:=za hv hb;clear hb;go_upto_region 6 with fail;have k0:W4.cell? ⟨ga,0,none⟩=some (.string nm):=zW HA.out HI0.out;obtain ⟨q0,q1,q2,q3⟩:=qC4 HF.out;clear HA HF;refine zH (fun w'=>Below W4.heap.size W4 w'∧True) ?_ (fun hHeld=>?_)
 · exact ⟨(Below.refl _ _).drew,trivial⟩
 have hd9:=hHeld.1;refine zU 0 30 ?_;refine zU 1 31 ?_;refine zT 2 32 rfl (fun w hSw=>by
  have x_k0:=zb hSw.1 k0;go_simp;try with_reducible rfl) ?_
 refine zU 3 33 ?_;refine zT 4 34 rfl (fun w hSw=>by
  have x_q0:=zb hSw.1 q0;go_simp;try with_reducible rfl) ?_
 refine zU 5 35 ?_;refine zT 6 36 rfl (fun w hSw=>by
  have x_q1:=zb hSw.1 q1;go_simp;try with_reducible rfl) ?_
 refine zU 7 37 ?_;refine zT 8 38 rfl (fun w hSw=>by
  have x_q2:=zb hSw.1 q2;go_simp;try with_reducible rfl) ?_
 refine zU 9 39 ?_;refine zT 10 40 rfl (fun w hSw=>by
  have x_q3:=zb hSw.1 q3;go_simp;try with_reducible rfl) ?_
 refine zU 11 41 ?_;refine zU 12 42 ?_;clear k0 q0 q1 q2 q3;refine zR 13 (some 9) rfl (fun K hK=>?_);go_simp;go_split_ands;obtain ⟨W5,hW5⟩:=zN (World.drew (World.alloc W4 (Obj.cells cM 100)));obtain ⟨gx,hgx⟩:=zN W4.heap.size;have HX0:Hid (Blk W5 gx 100 cM):=qH (by rw [hW5,hgx];exact Blk.new W4 _ _);have hb9:Below W4.drew.heap.size W4.drew W5:=by rw [hW5];exact zc (Below.refl _ _) _
 have hgx4:W4.heap.size≤gx:=by omega
 replace hd9:=za hd9 hb9;rw [←hW5,←hgx];clear hW5 hgx hb9;refine zK hK ⟨hd9,trivial⟩ (fun hHeld=>?_);clear hK K;refine zR 14 none rfl (fun K hK=>?_)
 skip
 go_split_ands;refine wp_store_row 100 _ _ rfl gx #[.string nm,.int .i64 f.length,.int .i64 f.b,.int .i64 f.i,.int .i64 f.h,.int .i64 np] rfl rfl 100 cM HX0.out (by kernel_rfl) rfl (by simp [Value.oneCell']) ?_;have HX1:Hid (Blk (World.setRow W5 gx #[Value.string nm,Value.int .i64 f.length,Value.int .i64 f.b,Value.int .i64 f.i,Value.int .i64 f.h,Value.int .i64 np]) gx 100 #[.string nm,.int .i64 f.length,.int .i64 f.b,.int .i64 f.i,.int .i64 f.h,.int .i64 np]):=qH (setRow_heap _ _ _ _ _ _ HX0.out);have hd8:=zF hd9 hgx4 #[Value.string nm,Value.int .i64 f.length,Value.int .i64 f.b,Value.int .i64 f.i,Value.int .i64 f.h,Value.int .i64 np];clear HX0 hd9;obtain ⟨W6,hW6⟩:=zN (World.setRow W5 gx #[Value.string nm,Value.int .i64 f.length,Value.int .i64 f.b,Value.int .i64 f.i,Value.int .i64 f.h,Value.int .i64 np]);rw [←hW6] at HX1 hd8 ⊢;clear hW6;refine hK.out _ _ ?_ (fun hHeld=>?_)
 · (try dsimp only);go_split_ands;exact ⟨hd8,trivial⟩
 clear hK K;try simp only [Act.put]
 refine zD ?_;clear hHeld;have hb:=hd8;clear hd8;have HX:=HX1;clear HX1;replace HB:=qH (HB.out.below hb);replace hv:=za hv hb;clear hb;obtain ⟨x,hx⟩:=zN (mkL nm f p);have HX2:Hid (Blk W6 gx 100 (cL x)):=qH (by
  have h:=HX.out;rw [HNP.out] at h;rw [hx];exact h)
 have hxz:x.name.size≤4194304:=by rw [hx];exact Nat.le_trans hz1 hs
 have HXX:=qH hx;clear HX hx;cases b1
 case false=>
  have HR:=qH (vF (HNF.out _ _ _ _ HL.out (HFN.out rfl)))
  go_upto_if 54 with fail
  go_wp2_with (refine yS g cM HB.out ?_)
  have hF:Blk (World.setRow W6 g cM) g 100 cM:=setRow_heap _ _ _ _ _ _ HB.out;have hbF:=zF hv hgw cM;obtain ⟨WF,hWF⟩:=zN (World.setRow W6 g cM);rw [←hWF] at hF hbF ⊢;clear hWF;obtain ⟨m0,m1,m2,m3,m4,m5⟩:=qC6 hF;go_wp2_with fail;try simp only [Exit.inBlock,Exit.then]
  refine bodyPost_ret (v:=.tuple #[.agg #[.string ⟨#[]⟩,.int .i64 0,.int .i64 0,.int .i64 0,.int .i64 0,.int .i64 0],.bool false]) (by simp [results,Tryz.results71,go_sem,m0,m1,m2,m3,m4,m5]) rfl ?_;exact RetT.mk (HR.out).symm hbF
 have H4:=qH (H4R.out _ _ _ _ f HL.out (HFS.out rfl));cases b2
 case false=>
  have HR:=qH (vF (s:=s) (by rw [H4.out,HB2.out,Bool.and_false];rfl))
  go_upto_if 54 with fail
  go_wp2_with (refine yS g cM HB.out ?_)
  have hF:Blk (World.setRow W6 g cM) g 100 cM:=setRow_heap _ _ _ _ _ _ HB.out;have hbF:=zF hv hgw cM;obtain ⟨WF,hWF⟩:=zN (World.setRow W6 g cM);rw [←hWF] at hF hbF ⊢;clear hWF;obtain ⟨m0,m1,m2,m3,m4,m5⟩:=qC6 hF;go_wp2_with fail;try simp only [Exit.inBlock,Exit.then]
  refine bodyPost_ret (v:=.tuple #[.agg #[.string ⟨#[]⟩,.int .i64 0,.int .i64 0,.int .i64 0,.int .i64 0,.int .i64 0],.bool false]) (by simp [results,Tryz.results71,go_sem,m0,m1,m2,m3,m4,m5]) rfl ?_;exact RetT.mk (HR.out).symm hbF
 have HMM:=qH (HMK.out _ _ _ _ f HL.out (HFS.out rfl) HB2.out);have HLT:=fun w h=>rZ x (by omega) w h;rw [←HXX.out] at H4 HMM;obtain ⟨u,hu⟩:=zN (ltB x);rw [←hu] at HLT HMM;obtain ⟨c,hc⟩:=zN (decide (q=wPitch) && zy x);rw [←hc] at HMM;have hbb:(u.toList == s.toList)=c:=by rw [yJ];exact HMM.out
 have HL9:=qH HLT;have HC:Hid (vm (wc s)=if c=true then vm (some x) else vm none):=qH (by
  rw [H4.out,HB2.out,Bool.and_true,←hc];cases c <;> rfl)
 clear hu hc HLT HMM;obtain ⟨x0,x1,x2,x3,x4,x5⟩:=qC6 HX2.out;go_wp2_with fail;refine qS (HL9.out _ (HT.out.below hv)) fun W7 hb=>?_;clear x0 x1 x2 x3 x4 x5;replace HB:=qH (HB.out.below hb);replace HX2:=qH (HX2.out.below hb);replace hv:=za hv hb;clear hb;cases c
 · have HR:=qH (HC.out:vm (wc s)=#[.agg #[.string ⟨#[]⟩,.int .i64 0,.int .i64 0,.int .i64 0,.int .i64 0,.int .i64 0],.bool false]);go_wp2_with (refine yS g cM HB.out ?_)
   have hF:Blk (World.setRow W7 g cM) g 100 cM:=setRow_heap _ _ _ _ _ _ HB.out;have hbF:=zF hv hgw cM;obtain ⟨WF,hWF⟩:=zN (World.setRow W7 g cM);rw [←hWF] at hF hbF ⊢;clear hWF;obtain ⟨m0,m1,m2,m3,m4,m5⟩:=qC6 hF;go_wp2_with fail;(try simp only [Exit.inBlock,Exit.then]);refine bodyPost_ret (v:=.tuple #[.agg #[.string ⟨#[]⟩,.int .i64 0,.int .i64 0,.int .i64 0,.int .i64 0,.int .i64 0],.bool false]) (by simp [results,Tryz.results71,go_sem,m0,m1,m2,m3,m4,m5]) rfl ?_;exact RetT.mk (HR.out).symm hbF
 have HR:=qH (HC.out:vm (wc s)=#[.agg #[.string x.name,.int .i64 x.length,.int .i64 x.b,.int .i64 x.i,.int .i64 x.h,.int .i64 x.p],.bool true]);go_wp2_with (first | (refine yL gx HX2.out Tryz.underlying100 ?_) | (refine yS g (cL x) HB.out ?_))
 have hF:Blk (World.setRow W7 g (cL x)) g 100 (cL x):=setRow_heap _ _ _ _ _ _ HB.out;have hbF:=zF hv hgw (cL x);obtain ⟨WF,hWF⟩:=zN (World.setRow W7 g (cL x));rw [←hWF] at hF hbF ⊢;clear hWF;obtain ⟨m0,m1,m2,m3,m4,m5⟩:=qC6 hF;go_wp2_with fail;try simp only [Exit.inBlock,Exit.then]
 refine bodyPost_ret (v:=.tuple #[.agg #[.string x.name,.int .i64 x.length,.int .i64 x.b,.int .i64 x.i,.int .i64 x.h,.int .i64 x.p],.bool true]) (by simp [results,Tryz.results71,go_sem,m0,m1,m2,m3,m4,m5]) rfl ?_;exact RetT.mk (HR.out).symm hbF
theorem jB (s:ByteArray) (hs:s.size≤4194304) (w:World):Calls Tryz.prog 170 #[.string s] w (RetT (vm (wc s)) w):=by
 have HSP:=qH (fun w=>wQ 32 s hs w);have hyz:Hid (∀ y ∈ zi 32 s,y.size≤s.size):=qH (fun y hy=>wj (c:=32) hy);have hno:=@nO s;have h4f:=@ra (zi 32 s);have hnf:=fun a b c d=>@oC s a b c d;have h4r:=fun a b c d f=>@lm s a b c d f;have hmk:=fun a b c d f=>@cu s a b c d f;obtain ⟨L,hL⟩:=zN (zi 32 s);rw [←hL] at HSP hyz hno h4f h4r hnf hmk;have HNO:=qH hno;have H4F:=qH h4f;have H4R:=qH h4r;have HNF:=qH hnf;have HMK:=qH hmk;obtain ⟨n,hn⟩:=zN L.length;rw [←hn] at HSP;have HN:=qH hn.symm;clear hL hno h4f h4r hn hnf hmk;obtain ⟨W,hW⟩:=zN (w.alloc (Obj.cells cM 100));obtain ⟨g,hg⟩:=zN w.heap.size;have hv:Below w.heap.size w W:=by rw [hW];exact zc (Below.refl _ _) _
 have HB:Hid (Blk W g 100 cM):=qH (by rw [hW,hg];exact Blk.new _ _ _);have hgw:w.heap.size≤g:=by omega
 have HW:=qH hW;have HG:=qH hg;clear hW hg;go_enter Tryz.func170,Tryz.ntmps170;go_upto_region 1 with fail;rw [←HW.out,←HG.out];clear HW HG;go_wp2_with fail;refine (HSP.out _).mono ?_;rintro e W1 ⟨A,c,rfl,ho,hb⟩;have hO:=ho;have HA0:Hid (Arr W1 A (zd zn L)):=qH (by rw [yH];exact Arr.own ho);clear ho HSP;replace HB:=qH (HB.out.below hb);replace hv:=za hv hb;clear hb;by_cases hm4:n=4
 case neg=>
  have hne:((n:Int) != 4)=true:=by rw [bne_iff_ne];omega
  have HR:=qH (vF (HNO.out (fun h=>hm4 (HN.out.symm.trans h))))
  go_upto_if 20 with fail
  go_wp2_with (refine yS g cM HB.out ?_)
  have hF:Blk (World.setRow W1 g cM) g 100 cM:=setRow_heap _ _ _ _ _ _ HB.out;have hbF:=zF hv hgw cM;obtain ⟨WF,hWF⟩:=zN (World.setRow W1 g cM);rw [←hWF] at hF hbF ⊢;clear hWF;obtain ⟨m0,m1,m2,m3,m4,m5⟩:=qC6 hF;go_wp2_with fail;try simp only [Exit.inBlock,Exit.then]
  refine bodyPost_ret (v:=.tuple #[.agg #[.string ⟨#[]⟩,.int .i64 0,.int .i64 0,.int .i64 0,.int .i64 0,.int .i64 0],.bool false]) (by simp [results,Tryz.results170,go_sem,m0,m1,m2,m3,m4,m5]) rfl ?_;exact RetT.mk (HR.out).symm hbF
 subst hm4;obtain ⟨ga,rfl⟩:=xj hO (by omega);have HA:=HA0;clear HA0 hO;obtain ⟨nm,ft,q,p,hL⟩:=H4F.out HN.out;have hz1:=hyz.out nm (by rw [hL];simp);have hz2:=hyz.out ft (by rw [hL];simp);have hz4:=hyz.out p (by rw [hL];simp);have h0:L[0]?=some nm:=by rw [hL];rfl
 have h1:L[1]?=some ft:=by rw [hL];rfl
 have h2:L[2]?=some q:=by rw [hL];rfl
 have h3:L[3]?=some p:=by rw [hL];rfl
 have HL:=qH hL;have HI0:=qH h0;have HI1:=qH h1;have HI2:=qH h2;have HI3:=qH h3;clear hL h0 h1 h2 h3 hyz HNO H4F;have HRF:=qH (fun w=>oq ft (by omega) w);have hrd:=fun w=>xl p (by omega) w;change ∀ w,Calls Tryz.prog 156 #[.string p] w (RetT #[.int .i64 (zq p),.bool (okB p)] w) at hrd;have h2':W1.cell? ⟨ga,2,none⟩=some (.string q):=zW HA.out HI2.out;have hqb:(q.toList == [112,105,116,99,104])=decide (q=wPitch):=by rw [show ([112,105,116,99,104]:List UInt8)=wPitch.toList by simp [wPitch]];exact yJ _ _
 by_cases hqp:q=wPitch
 case neg=>
  rw [decide_eq_false hqp] at hqb;have HR:=qH (vF (s:=s) (by
   cases hf:xk ft with
   | none=>exact HNF.out _ _ _ _ HL.out hf
   | some f=>rw [H4R.out _ _ _ _ f HL.out hf,decide_eq_false hqp];rfl))
  clear hrd
  go_upto_if 20 with fail
  go_wp2_with (refine yS g cM HB.out ?_)
  have hF:Blk (World.setRow W1 g cM) g 100 cM:=setRow_heap _ _ _ _ _ _ HB.out;have hbF:=zF hv hgw cM;obtain ⟨WF,hWF⟩:=zN (World.setRow W1 g cM);rw [←hWF] at hF hbF ⊢;clear hWF;obtain ⟨m0,m1,m2,m3,m4,m5⟩:=qC6 hF;go_wp2_with fail;try simp only [Exit.inBlock,Exit.then]
  refine bodyPost_ret (v:=.tuple #[.agg #[.string ⟨#[]⟩,.int .i64 0,.int .i64 0,.int .i64 0,.int .i64 0,.int .i64 0],.bool false]) (by simp [results,Tryz.results170,go_sem,m0,m1,m2,m3,m4,m5]) rfl ?_;exact RetT.mk (HR.out).symm hbF
 rw [decide_eq_true hqp] at hqb;have HQP:=qH hqp;clear hqp;obtain ⟨b1,hb1⟩:=zN ((xk ft).isSome);obtain ⟨f,hf⟩:=zN ((xk ft).getD zFo);have hfs:b1=true→xk ft=some f:=fun h=>by
  rw [hb1] at h;rw [hf];cases hr:xk ft with
  | none=>rw [hr] at h;cases h
  | some f=>rfl
 have hfn:b1=false→xk ft=none:=fun h=>by
  rw [hb1] at h;cases hr:xk ft with
  | none=>rfl
  | some f=>rw [hr] at h;cases h
 unfold tP at HRF;rw [←hb1,←hf] at HRF;have HFS:=qH hfs;have HFN:=qH hfn;obtain ⟨b2,hb2⟩:=zN (okB p);rw [←hb2] at hrd;have HB2:=qH hb2.symm;obtain ⟨np,hnp⟩:=zN (zq p);rw [←hnp] at hrd;have HNP:=qH hnp;have HRD:=qH hrd;clear hb1 hf hfs hfn hb2 hnp hrd;have k1:W1.cell? ⟨ga,1,none⟩=some (.string ft):=zW HA.out HI1.out;go_wp2_with fail;refine qS (HRF.out _) fun W2 hb=>?_;clear k1 h2' hqb;replace HB:=qH (HB.out.below hb);replace HA:=qH (HA.out.below hb);replace hv:=za hv hb;clear hb;go_upto_region 5 with fail;obtain ⟨W3,hWn⟩:=zN (World.alloc W2 (Obj.cells (cF f) 27));obtain ⟨gf,hgn⟩:=zN W2.heap.size;have hb:Below W2.heap.size W2 W3:=by rw [hWn];exact zc (Below.refl _ _) _
 have HF:Hid (Blk W3 gf 27 (cF f)):=qH (by rw [hWn,hgn];exact Blk.new _ _ _);rw [←hWn,←hgn];clear hWn hgn;replace HB:=qH (HB.out.below hb);replace HA:=qH (HA.out.below hb);replace hv:=za hv hb;clear hb;have k3:W3.cell? ⟨ga,3,none⟩=some (.string p):=zW HA.out HI3.out;go_wp2_with fail;refine qS (HRD.out _) fun W4 hb=>?_;clear k3;replace HB:=qH (HB.out.below hb);replace HA:=qH (HA.out.below hb);replace HF:=qH (HF.out.below hb);replace hv:=za hv hb;clear hb;go_upto_region 6 with fail;have k0:W4.cell? ⟨ga,0,none⟩=some (.string nm):=zW HA.out HI0.out;obtain ⟨q0,q1,q2,q3⟩:=qC4 HF.out;clear HA HF;refine zH (fun w'=>Below W4.heap.size W4 w'∧True) ?_ (fun hHeld=>?_)
 · exact ⟨(Below.refl _ _).drew,trivial⟩
 have hd9:=hHeld.1;refine zU 0 36 ?_;refine zU 1 37 ?_;refine zT 2 38 rfl (fun w hSw=>by
  have x_k0:=zb hSw.1 k0;go_simp;try with_reducible rfl) ?_
 refine zU 3 39 ?_;refine zT 4 40 rfl (fun w hSw=>by
  have x_q0:=zb hSw.1 q0;go_simp;try with_reducible rfl) ?_
 refine zU 5 41 ?_;refine zT 6 42 rfl (fun w hSw=>by
  have x_q1:=zb hSw.1 q1;go_simp;try with_reducible rfl) ?_
 refine zU 7 43 ?_;refine zT 8 44 rfl (fun w hSw=>by
  have x_q2:=zb hSw.1 q2;go_simp;try with_reducible rfl) ?_
 refine zU 9 45 ?_;refine zT 10 46 rfl (fun w hSw=>by
  have x_q3:=zb hSw.1 q3;go_simp;try with_reducible rfl) ?_
 refine zU 11 47 ?_;refine zU 12 48 ?_;clear k0 q0 q1 q2 q3;refine zR 13 (some 9) rfl (fun K hK=>?_);go_simp;go_split_ands;obtain ⟨W5,hW5⟩:=zN (World.drew (World.alloc W4 (Obj.cells cM 100)));obtain ⟨gx,hgx⟩:=zN W4.heap.size;have HX0:Hid (Blk W5 gx 100 cM):=qH (by rw [hW5,hgx];exact Blk.new W4 _ _);have hb9:Below W4.drew.heap.size W4.drew W5:=by rw [hW5];exact zc (Below.refl _ _) _
 have hgx4:W4.heap.size≤gx:=by omega
 replace hd9:=za hd9 hb9;rw [←hW5,←hgx];clear hW5 hgx hb9;refine zK hK ⟨hd9,trivial⟩ (fun hHeld=>?_);clear hK K;refine zR 14 none rfl (fun K hK=>?_)
 skip
 go_split_ands;refine wp_store_row 100 _ _ rfl gx #[.string nm,.int .i64 f.length,.int .i64 f.b,.int .i64 f.i,.int .i64 f.h,.int .i64 np] rfl rfl 100 cM HX0.out (by kernel_rfl) rfl (by simp [Value.oneCell']) ?_;have HX1:Hid (Blk (World.setRow W5 gx #[Value.string nm,Value.int .i64 f.length,Value.int .i64 f.b,Value.int .i64 f.i,Value.int .i64 f.h,Value.int .i64 np]) gx 100 #[.string nm,.int .i64 f.length,.int .i64 f.b,.int .i64 f.i,.int .i64 f.h,.int .i64 np]):=qH (setRow_heap _ _ _ _ _ _ HX0.out);have hd8:=zF hd9 hgx4 #[Value.string nm,Value.int .i64 f.length,Value.int .i64 f.b,Value.int .i64 f.i,Value.int .i64 f.h,Value.int .i64 np];clear HX0 hd9;obtain ⟨W6,hW6⟩:=zN (World.setRow W5 gx #[Value.string nm,Value.int .i64 f.length,Value.int .i64 f.b,Value.int .i64 f.i,Value.int .i64 f.h,Value.int .i64 np]);rw [←hW6] at HX1 hd8 ⊢;clear hW6;refine hK.out _ _ ?_ (fun hHeld=>?_)
 · (try dsimp only);go_split_ands;exact ⟨hd8,trivial⟩
 clear hK K;try simp only [Act.put]
 refine zD ?_;clear hHeld;have hb:=hd8;clear hd8;have HX:=HX1;clear HX1;replace HB:=qH (HB.out.below hb);replace hv:=za hv hb;clear hb;obtain ⟨x,hx⟩:=zN (mkL nm f p);have HX2:Hid (Blk W6 gx 100 (cL x)):=qH (by
  have h:=HX.out;rw [HNP.out] at h;rw [hx];exact h)
 have hxz:x.name.size≤4194304:=by rw [hx];exact Nat.le_trans hz1 hs
 have HXX:=qH hx;clear HX hx;cases b1
 case false=>
  have HR:=qH (vF (HNF.out _ _ _ _ HL.out (HFN.out rfl)))
  go_upto_if 59 with fail
  go_wp2_with (refine yS g cM HB.out ?_)
  have hF:Blk (World.setRow W6 g cM) g 100 cM:=setRow_heap _ _ _ _ _ _ HB.out;have hbF:=zF hv hgw cM;obtain ⟨WF,hWF⟩:=zN (World.setRow W6 g cM);rw [←hWF] at hF hbF ⊢;clear hWF;obtain ⟨m0,m1,m2,m3,m4,m5⟩:=qC6 hF;go_wp2_with fail;try simp only [Exit.inBlock,Exit.then]
  refine bodyPost_ret (v:=.tuple #[.agg #[.string ⟨#[]⟩,.int .i64 0,.int .i64 0,.int .i64 0,.int .i64 0,.int .i64 0],.bool false]) (by simp [results,Tryz.results170,go_sem,m0,m1,m2,m3,m4,m5]) rfl ?_;exact RetT.mk (HR.out).symm hbF
 have H4:=qH (H4R.out _ _ _ _ f HL.out (HFS.out rfl));cases b2
 case false=>
  have HR:=qH (vF (s:=s) (by rw [H4.out,HB2.out,Bool.and_false];rfl))
  go_upto_if 59 with fail
  go_wp2_with (refine yS g cM HB.out ?_)
  have hF:Blk (World.setRow W6 g cM) g 100 cM:=setRow_heap _ _ _ _ _ _ HB.out;have hbF:=zF hv hgw cM;obtain ⟨WF,hWF⟩:=zN (World.setRow W6 g cM);rw [←hWF] at hF hbF ⊢;clear hWF;obtain ⟨m0,m1,m2,m3,m4,m5⟩:=qC6 hF;go_wp2_with fail;try simp only [Exit.inBlock,Exit.then]
  refine bodyPost_ret (v:=.tuple #[.agg #[.string ⟨#[]⟩,.int .i64 0,.int .i64 0,.int .i64 0,.int .i64 0,.int .i64 0],.bool false]) (by simp [results,Tryz.results170,go_sem,m0,m1,m2,m3,m4,m5]) rfl ?_;exact RetT.mk (HR.out).symm hbF
 have HLT:=fun w=>tG x (by omega) w;rw [←HXX.out] at H4;obtain ⟨c,hc⟩:=zN (zy x);rw [←hc] at HLT;have HL9:=qH HLT;have HC:Hid (vm (wc s)=if c=true then vm (some x) else vm none):=qH (by
  rw [H4.out,HB2.out,Bool.and_true,HQP.out,decide_eq_true rfl,←hc,Bool.true_and];cases c <;> rfl)
 clear hc HLT;obtain ⟨x0,x1,x2,x3,x4,x5⟩:=qC6 HX2.out;go_wp2_with fail;refine qS (HL9.out _) fun W7 hb=>?_;clear x0 x1 x2 x3 x4 x5;replace HB:=qH (HB.out.below hb);replace HX2:=qH (HX2.out.below hb);replace hv:=za hv hb;clear hb;cases c
 · have HR:=qH (HC.out:vm (wc s)=#[.agg #[.string ⟨#[]⟩,.int .i64 0,.int .i64 0,.int .i64 0,.int .i64 0,.int .i64 0],.bool false]);go_wp2_with (refine yS g cM HB.out ?_)
   have hF:Blk (World.setRow W7 g cM) g 100 cM:=setRow_heap _ _ _ _ _ _ HB.out;have hbF:=zF hv hgw cM;obtain ⟨WF,hWF⟩:=zN (World.setRow W7 g cM);rw [←hWF] at hF hbF ⊢;clear hWF;obtain ⟨m0,m1,m2,m3,m4,m5⟩:=qC6 hF;go_wp2_with fail;(try simp only [Exit.inBlock,Exit.then]);refine bodyPost_ret (v:=.tuple #[.agg #[.string ⟨#[]⟩,.int .i64 0,.int .i64 0,.int .i64 0,.int .i64 0,.int .i64 0],.bool false]) (by simp [results,Tryz.results170,go_sem,m0,m1,m2,m3,m4,m5]) rfl ?_;exact RetT.mk (HR.out).symm hbF
 have HR:=qH (HC.out:vm (wc s)=#[.agg #[.string x.name,.int .i64 x.length,.int .i64 x.b,.int .i64 x.i,.int .i64 x.h,.int .i64 x.p],.bool true]);go_wp2_with (first | (refine yL gx HX2.out Tryz.underlying100 ?_) | (refine yS g (cL x) HB.out ?_))
 have hF:Blk (World.setRow W7 g (cL x)) g 100 (cL x):=setRow_heap _ _ _ _ _ _ HB.out;have hbF:=zF hv hgw (cL x);obtain ⟨WF,hWF⟩:=zN (World.setRow W7 g (cL x));rw [←hWF] at hF hbF ⊢;clear hWF;obtain ⟨m0,m1,m2,m3,m4,m5⟩:=qC6 hF;go_wp2_with fail;try simp only [Exit.inBlock,Exit.then]
 refine bodyPost_ret (v:=.tuple #[.agg #[.string x.name,.int .i64 x.length,.int .i64 x.b,.int .i64 x.i,.int .i64 x.h,.int .i64 x.p],.bool true]) (by simp [results,Tryz.results170,go_sem,m0,m1,m2,m3,m4,m5]) rfl ?_;exact RetT.mk (HR.out).symm hbF
end Go.Proofs.YtpiehlfffjhoaaaGreatDoor
