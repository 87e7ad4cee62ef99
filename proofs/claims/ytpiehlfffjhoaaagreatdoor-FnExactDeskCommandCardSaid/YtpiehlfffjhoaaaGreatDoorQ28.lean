/- Lemmas for the law on the console: the parts CnC,CnX. -/
import Derived.Test.YtpiehlfffjhoaaaGreatDoorQ18
namespace Go.Proofs.YtpiehlfffjhoaaaGreatDoor
open Go.RowKit Go.Proofs.Tryz
set_option maxRecDepth 100000
set_option maxHeartbeats 4000000
theorem tD{s:ByteArray}(h:xl s=none):sh (xl s)=#[.agg #[.int .i64 0,.int .i64 0,.int .i64 0,.int .i64 0],.bool false]:=by rw [h];rfl
theorem ml{s:ByteArray}{f:Foot}(h:xl s=some f):sh (xl s)=#[.agg #[.int .i64 f.length,.int .i64 f.b,.int .i64 f.i,.int .i64 f.h],.bool true]:=by rw [h];rfl
theorem rp{L:List ByteArray}(h:L.length=4):∃ a b c d,L=[a,b,c,d]:=by
 match L,h with
 | [a,b,c,d],_=>exact ⟨a,b,c,d,rfl⟩
theorem nJ(s:ByteArray)(hs:s.size<=4194304)(w:World)(hT:Tabs w):Calls prog 70 #[.string s] w (RetT (sh (xl s)) w):=by
 have HT:=qH hT;have HRN:=qH (fun w h=>kB s hs w h);clear hT;obtain ⟨W,hW⟩:=zN (w.alloc (Obj.cells cG 27));obtain ⟨g,hg⟩:=zN w.heap.size;have hv:Below w.heap.size w W:=by rw [hW];exact zc (Below.refl _ _) _
 have HB:Hid (Blk W g 27 cG):=qH (by rw [hW,hg];exact Blk.new _ _ _);have hgw:w.heap.size<=g:=by omega
 have HW:=qH hW;have HG:=qH hg;clear hW hg;go_in;go_upto_region 1 with fail;rw [<-HW.out,<-HG.out];clear HW HG;go_wp2_with fail;refine (HRN.out _ (HT.out.below hv)).mono ?_;rintro e W1 ⟨A,m,c,ok,rfl,hok,hA,hb⟩;replace HB:=qH (HB.out.below hb);replace hv:=za hv hb;clear hb;have HA:=qH hA;clear hA HRN;cases ok
 case false=>
  have HR:=qH (tD (s:=s) (by
   by_cases h4:(zl 47 s).length=4
   · obtain ⟨a,b,c',d,hL⟩:=rp h4;rw [h4,decide_eq_true rfl,Bool.true_and,hL] at hok;have h2:(okB a && okB b && okB c' && okB d)=false:=by rw [hok];simp [uv,Bool.and_assoc]
     rw [ol hL,h2];rfl
   ·exact mr h4))
  clear hok HA;go_wp2_with (refine yS g cG HB.out ?_)
  have hF:Blk (World.setRow W1 g cG) g 27 cG:=setRow_heap _ _ _ _ _ _ HB.out;have hbF:=zG hv hgw cG;obtain ⟨WF,hWF⟩:=zN (World.setRow W1 g cG);rw [<-hWF] at hF hbF |-;clear hWF;obtain ⟨m0,m1,m2,m3⟩:=qC4 hF;go_wp2_with fail;try simp only [Exit.inBlock,Exit.then]
  refine bodyPost_ret (v:=.tuple #[.agg #[.int .i64 0,.int .i64 0,.int .i64 0,.int .i64 0],.bool false]) (by simp [results,results70,go_sem,m0,m1,m2,m3]) rfl ?_;exact RetT.mk (HR.out).symm hbF
 case true=>
 have h4:(zl 47 s).length=4/\uv (zl 47 s)=true:=by
  have h:=hok.symm;rw [Bool.and_eq_true,decide_eq_true_eq] at h;exact h
 obtain ⟨rfl,hA4⟩:=HA.out rfl;obtain ⟨a,b,c',d,hL⟩:=rp h4.1;have hall:=h4.2;rw [hL] at hall hA4;have hk:okB a=true/\okB b=true/\okB c'=true/\okB d=true:=by
  simp [uv] at hall;exact hall
 obtain ⟨ka,kb,kc,kd⟩:=hk;have HE:=qH (zc8 hL ka kb kc kd);have HR4:=qH (ol hL);have HKK:=qH (show (okB a && okB b && okB c' && okB d)=true by rw [ka,kb,kc,kd];rfl);have HA4:Hid (Arr W1 A (zd zp [zq a,zq b,zq c',zq d])):=qH hA4;obtain ⟨f,hf⟩:=zN (mkF a b c' d);have HOF:=qH (fun w h=>zaQ A (zq a) (zq b) (zq c') (zq d) c w h);have HOF2:Hid (∀ w,Arr w A (zd zp [zq a,zq b,zq c',zq d])->Calls prog 26 #[.slice A 4 c] w (Ret (.agg #[.int .i64 f.length,.int .i64 f.b,.int .i64 f.i,.int .i64 f.h]) w)):=qH (by rw [hf];exact HOF.out);rw [<-hf] at HE HR4;have HFT:=qH (fun w h=>oQ f w h);obtain ⟨u,hu⟩:=zN (ftB f);rw [<-hu] at HE HFT;have hbb:(u.toList == s.toList)=ym f:=by rw [yD];exact HE.out
 clear HOF HA hok h4 hL hall hA4 ka kb kc kd hf hu HE;go_wp2_with fail;refine qS (HOF2.out _ HA4.out) fun W2 hb=>?_;replace HA4:=qH (HA4.out.below hb);replace HB:=qH (HB.out.below hb);replace hv:=za hv hb;clear hb;go_wp2_with fail;refine qS (HFT.out _ (HT.out.below hv)) fun W3 hb=>?_;replace HA4:=qH (HA4.out.below hb);replace HB:=qH (HB.out.below hb);replace hv:=za hv hb;clear hb;cases hq:ym f
 · have HR:=qH (tD (s:=s) (by rw [HR4.out,HKK.out,hq];rfl));rw [hq] at hbb;clear hq;go_wp2_with (refine yS g cG HB.out ?_)
   have hF:Blk (World.setRow W3 g cG) g 27 cG:=setRow_heap _ _ _ _ _ _ HB.out;have hbF:=zG hv hgw cG;obtain ⟨WF,hWF⟩:=zN (World.setRow W3 g cG);rw [<-hWF] at hF hbF |-;clear hWF;obtain ⟨m0,m1,m2,m3⟩:=qC4 hF;go_wp2_with fail;(try simp only [Exit.inBlock,Exit.then]);refine bodyPost_ret (v:=.tuple #[.agg #[.int .i64 0,.int .i64 0,.int .i64 0,.int .i64 0],.bool false]) (by simp [results,results70,go_sem,m0,m1,m2,m3]) rfl ?_;exact RetT.mk (HR.out).symm hbF
 have HR:=qH (ml (s:=s) (f:=f) (by rw [HR4.out,HKK.out,hq];rfl));rw [hq] at hbb;clear hq;go_wp2_with fail;refine qS (HOF2.out _ HA4.out) fun W4 hb=>?_;replace HB:=qH (HB.out.below hb);replace hv:=za hv hb;clear hb;go_wp2_with (refine yS g (cF f) HB.out ?_)
 have hF:Blk (World.setRow W4 g (cF f)) g 27 (cF f):=setRow_heap _ _ _ _ _ _ HB.out;have hbF:=zG hv hgw (cF f);obtain ⟨WF,hWF⟩:=zN (World.setRow W4 g (cF f));rw [<-hWF] at hF hbF |-;clear hWF;obtain ⟨m0,m1,m2,m3⟩:=qC4 hF;go_wp2_with fail;try simp only [Exit.inBlock,Exit.then]
 refine bodyPost_ret (v:=.tuple #[.agg #[.int .i64 f.length,.int .i64 f.b,.int .i64 f.i,.int .i64 f.h],.bool true]) (by simp [results,results70,go_sem,m0,m1,m2,m3]) rfl ?_;exact RetT.mk (HR.out).symm hbF
theorem oR(s:ByteArray)(hs:s.size<=4194304)(w:World):Calls prog 168 #[.string s] w (RetT (sh (xl s)) w):=by
 obtain ⟨i0,hi0,hz0,hz1,hz2⟩:=info_parts (P:=prog) (e:=2) (z:=.int .i64 0) (size:=1) (bytes:=8) qM;have HSP:=qH (fun w=>vx 47 s hs w);have hyz:Hid (∀ y ∈ zl 47 s,y.size<=s.size):=qH (fun y hy=>wU (c:=47) hy);have hno:=@mr s;have h4f:=@rp (zl 47 s);have h4r:=fun a b c d=>@ol s a b c d;obtain ⟨L,hL⟩:=zN (zl 47 s);rw [<-hL] at HSP hyz hno h4f h4r;have HNO:=qH hno;have H4F:=qH h4f;have H4R:=qH h4r;obtain ⟨n,hn⟩:=zN L.length;rw [<-hn] at HSP;have HN:=qH hn.symm;clear hL hno h4f h4r hn;obtain ⟨W,hW⟩:=zN (w.alloc (Obj.cells cG 27));obtain ⟨g,hg⟩:=zN w.heap.size;have hv:Below w.heap.size w W:=by rw [hW];exact zc (Below.refl _ _) _
 have HB:Hid (Blk W g 27 cG):=qH (by rw [hW,hg];exact Blk.new _ _ _);have hgw:w.heap.size<=g:=by omega
 have HW:=qH hW;have HG:=qH hg;clear hW hg;go_in;go_upto_region 1 with fail;rw [<-HW.out,<-HG.out];clear HW HG;go_wp2_with fail;refine (HSP.out _).mono ?_;rintro e W1 ⟨A,c,rfl,ho,hb⟩;have HA:Hid (Arr W1 A (zd zt L)):=qH (by rw [xo];exact Arr.own ho);clear ho HSP;replace HB:=qH (HB.out.below hb);replace hv:=za hv hb;clear hb;by_cases hm4:n=4
 case neg=>
  have hne:((n:Int) != 4)=true:=by rw [bne_iff_ne];omega
  have HR:=qH (tD (HNO.out (fun h=>hm4 (HN.out.symm.trans h))));go_wp2_with (refine yS g cG HB.out ?_)
  have hF:Blk (World.setRow W1 g cG) g 27 cG:=setRow_heap _ _ _ _ _ _ HB.out;have hbF:=zG hv hgw cG;obtain ⟨WF,hWF⟩:=zN (World.setRow W1 g cG);rw [<-hWF] at hF hbF |-;clear hWF;obtain ⟨m0,m1,m2,m3⟩:=qC4 hF;go_wp2_with fail;try simp only [Exit.inBlock,Exit.then]
  refine bodyPost_ret (v:=.tuple #[.agg #[.int .i64 0,.int .i64 0,.int .i64 0,.int .i64 0],.bool false]) (by simp [results,results168,go_sem,m0,m1,m2,m3]) rfl ?_;exact RetT.mk (HR.out).symm hbF
 subst hm4;have hO0:=zI W1 W1.heap.size 2 1 (Nat.le_refl _);have hv1:=zc (Below.refl W1.heap.size W1) (.cells #[] 2);go_wp2_with fail
 go_loopw [5,6] (fun v i wr=>∃ (j:Nat) (A':Option Addr) (c':Nat),i=.int .i64 j/\v=.slice A' j c'/\j<=4/\Hid (uv (L.take j)=true)/\Hid (wr.ownsRow W1.heap.size 2 1 (.slice A' j c') j (zd zp (oG (L.take j))))/\Below W1.heap.size W1 wr) (fun _ i _=>4 - (intOf i).toNat)
 case atStart=>exact ⟨0,_,_,rfl,rfl,by omega,qH rfl,qH hO0,hv1⟩
 case round=>
 clear hO0 hv1;obtain ⟨j,A',c',rfl,rfl,hj,HK,HO,hb⟩:=hrel;have hi0':(0:Int)<=(j:Int):=by omega
 by_cases hlt:j < 4
 case pos=>
  have hi1:(j:Int) < 4:=by omega
  obtain ⟨y,hy⟩:=zx (xs:=L) (k:=j) (by rw [HN.out];exact hlt);obtain ⟨bd,hbd,hbb,d0⟩:=zh (HA.out.below hb) hy;subst hbd;have hys:=hyz.out y (List.mem_of_getElem? hy);have HY:=qH hy;have HRD:=fun w=>xm y (by omega) w;change ∀ w,Calls prog 156 #[.string y] w (RetT #[.int .i64 (zq y),.bool (okB y)] w) at HRD;obtain ⟨q,hq⟩:=zN (zq y);rw [<-hq] at HRD;have HQ:=qH hq;have HZ:=qH HRD;clear hy hq HRD;go_wp2_with fail;refine qS (HZ.out _) fun W2 hb2=>?_;replace HO:=qH (ze HO.out hb2);replace hb:=za hb hb2;clear hb2 HZ d0;cases ho:okB y
  case false=>
   obtain ⟨a1,a2,a3,a4,hL⟩:=H4F.out HN.out;have HR:=qH (tD (s:=s) (by
    have h0:=fy HY.out ho;rw [hL] at h0;have h2:(okB a1 && okB a2 && okB a3 && okB a4)=false:=by rw [<-h0];simp [uv,Bool.and_assoc]
    rw [H4R.out a1 a2 a3 a4 hL,h2];rfl))
   replace HB:=qH (HB.out.below hb);replace hv:=za hv hb;clear ho hL;go_wp2_with (refine yS g cG HB.out ?_)
   have hF:Blk (World.setRow W2 g cG) g 27 cG:=setRow_heap _ _ _ _ _ _ HB.out;have hbF:=zG hv hgw cG;obtain ⟨WF,hWF⟩:=zN (World.setRow W2 g cG);rw [<-hWF] at hF hbF |-;clear hWF;obtain ⟨m0,m1,m2,m3⟩:=qC4 hF;go_wp2_with fail;(try simp only [Exit.inBlock,Exit.then]);refine bodyPost_ret (v:=.tuple #[.agg #[.int .i64 0,.int .i64 0,.int .i64 0,.int .i64 0],.bool false]) (by simp [results,results168,go_sem,m0,m1,m2,m3]) rfl ?_;exact RetT.mk (HR.out).symm hbF
  have HB2:=qH (mZ HY.out HK.out ho);clear ho;go_wp2_with (at_builtin;refine xI W2 #[.int .i64 q] rfl _ _ 58 2 rfl i0 _ 1 8 underlying58 hi0 hz0 hz1 hz2 rfl (by omega) W1.heap.size (.slice A' j c') j _ rfl rfl HO.out rfl (by simp [Value.oneCell']) (by unfold maxLen;omega) (by omega) hb.size ?_;intro A2 c2 w2 hown2 hg3)
  have hr:=zn HO.out;exact ⟨⟨j + 1,A2,c2,by go_num,rfl,by omega,HB2,qH (by rw [mj HY.out,<-HQ.out];exact hown2),zi hb hg3 hr⟩,by simp [intOf];omega⟩
 case neg=>
 obtain rfl:j=4:=by omega
 obtain ⟨a,b,c',d,hL⟩:=H4F.out HN.out;have htk:L.take 4=[a,b,c',d]:=by rw [hL];rfl
 rw [htk] at HK HO;have hkk:(okB a && okB b && okB c' && okB d)=true:=by rw [<-HK.out];simp [uv,Bool.and_assoc]
 have HKK:=qH hkk;have HR4:=qH (H4R.out a b c' d hL);have HA4:Hid (Arr wr A' (zd zp [zq a,zq b,zq c',zq d])):=qH (Arr.own HO.out);obtain ⟨f,hf⟩:=zN (mkF a b c' d);have HOF:=qH (fun k w h=>zct A' (zq a) (zq b) (zq c') (zq d) k w h);have HOF2:Hid (∀ k w,Arr w A' (zd zp [zq a,zq b,zq c',zq d])->Calls prog 235 #[.slice A' 4 k] w (Ret (.agg #[.int .i64 f.length,.int .i64 f.b,.int .i64 f.i,.int .i64 f.h]) w)):=qH (by rw [hf];exact HOF.out);rw [<-hf] at HR4;have HFT:=qH (fun w=>rN f w);replace HB:=qH (HB.out.below hb);replace hv:=za hv hb;clear hkk hL htk HOF hf hb HO HK;go_wp2_with fail;refine qS (HOF2.out _ _ HA4.out) fun W2 hb=>?_;replace HA4:=qH (HA4.out.below hb);replace HB:=qH (HB.out.below hb);replace hv:=za hv hb;clear hb;go_wp2_with fail;refine qS (HFT.out _) fun W3 hb=>?_;replace HA4:=qH (HA4.out.below hb);replace HB:=qH (HB.out.below hb);replace hv:=za hv hb;clear hb;cases hq:ym f
 · have HR:=qH (tD (s:=s) (by rw [HR4.out,HKK.out,hq];rfl));clear hq;go_wp2_with (refine yS g cG HB.out ?_)
   have hF:Blk (World.setRow W3 g cG) g 27 cG:=setRow_heap _ _ _ _ _ _ HB.out;have hbF:=zG hv hgw cG;obtain ⟨WF,hWF⟩:=zN (World.setRow W3 g cG);rw [<-hWF] at hF hbF |-;clear hWF;obtain ⟨m0,m1,m2,m3⟩:=qC4 hF;go_wp2_with fail;(try simp only [Exit.inBlock,Exit.then]);refine bodyPost_ret (v:=.tuple #[.agg #[.int .i64 0,.int .i64 0,.int .i64 0,.int .i64 0],.bool false]) (by simp [results,results168,go_sem,m0,m1,m2,m3]) rfl ?_;exact RetT.mk (HR.out).symm hbF
 have HR:=qH (ml (s:=s) (f:=f) (by rw [HR4.out,HKK.out,hq];rfl));clear hq;go_wp2_with fail;refine qS (HOF2.out _ _ HA4.out) fun W4 hb=>?_;replace HB:=qH (HB.out.below hb);replace hv:=za hv hb;clear hb;go_wp2_with (refine yS g (cF f) HB.out ?_)
 have hF:Blk (World.setRow W4 g (cF f)) g 27 (cF f):=setRow_heap _ _ _ _ _ _ HB.out;have hbF:=zG hv hgw (cF f);obtain ⟨WF,hWF⟩:=zN (World.setRow W4 g (cF f));rw [<-hWF] at hF hbF |-;clear hWF;obtain ⟨m0,m1,m2,m3⟩:=qC4 hF;go_wp2_with fail;try simp only [Exit.inBlock,Exit.then]
 refine bodyPost_ret (v:=.tuple #[.agg #[.int .i64 f.length,.int .i64 f.b,.int .i64 f.i,.int .i64 f.h],.bool true]) (by simp [results,results168,go_sem,m0,m1,m2,m3]) rfl ?_;exact RetT.mk (HR.out).symm hbF
theorem fI:∀ (a b:List UInt8),(32:UInt8) ∉ a->Lib.index (a ++ 32 :: b) [32]=a.length
 | [],b,_=>by rw [List.nil_append,Lib.index];simp [List.isPrefixOf]
 | c :: r,b,h=>by
   simp only [List.mem_cons,not_or] at h;have ih:=fI r b h.2;have hp:([32]:List UInt8).isPrefixOf (c :: (r ++ 32 :: b))=false:=by simp [List.isPrefixOf,h.1]
   rw [List.cons_append,Lib.index,hp,ih];simp <;> omega
theorem zdG{a b:List UInt8}(h:(32:UInt8) ∉ a):Lib.cut (a ++ 32 :: b) [32]=(a,b,true):=by
 unfold Lib.cut;rw [fI a b h,if_pos (by omega)];simp
def chA(s:ByteArray):ByteArray:=⟨(Lib.cut s.data.toList [32]).1.toArray⟩
def qb(s:ByteArray):ByteArray:=⟨(Lib.cut s.data.toList [32]).2.1.toArray⟩
def chR(s:ByteArray):ByteArray:=⟨(Lib.trimPrefix (qb s).data.toList [43]).toArray⟩
def namesC:List ByteArray:=[chW 0,chW 1,chW 2,chW 3,chW 4,chW 5]
def chI(s:ByteArray):Int:=Lib.idxOfS namesC (chA s)
theorem zco{k:Int}(h1:1<=k)(h5:k<=5):Lib.idxOfS namesC (chW k)=k:=by
 rcases (show k=1\/k=2\/k=3\/k=4\/k=5 by omega) with rfl | rfl | rfl | rfl | rfl <;> decide
theorem zbn{s:ByteArray}{k a:Int}(h:wv s=some (k,a)):chI s=k/\okB (chR s)=true/\zq (chR s)=a/\chT k a=s:=by
 obtain ⟨ht,hc⟩:=lR h;obtain ⟨h1,h5,h0,hl,hu⟩:=uX hc;have hd:=nk hc;rw [ht] at hd;have hd2:s.data.toList=(chW k).data.toList ++ 32 :: ((if 0 < a then 43 else 45) :: Lib.itoa a.natAbs):=by rw [hd];simp [List.intercalate]
 have hcut:=zdG (b:=((if 0 < a then 43 else 45) :: Lib.itoa a.natAbs)) (kW k);rw [<-hd2] at hcut;have hA:chA s=chW k:=by unfold chA;rw [hcut]
 have hB:(qb s).data.toList=(if 0 < a then 43 else 45) :: Lib.itoa a.natAbs:=by unfold qb;rw [hcut]
 have hR:(chR s).data.toList=Lib.itoa a:=by
  unfold chR;rw [hB];by_cases hp:0 < a
  · rw [if_pos hp];have:((a.natAbs:Nat):Int)=a:=by omega
    simp [Lib.trimPrefix,Lib.hasPrefix,this]
  · rw [if_neg hp];have e:a = -((a.natAbs:Nat):Int):=by omega
    have h2:=lB (n:=((a.natAbs:Nat):Int)) (by omega);rw [if_neg (by omega),<-e] at h2;rw [h2];simp [Lib.trimPrefix,Lib.hasPrefix]
 have hok:okB (chR s)=true:=by unfold okB;rw [hR];exact uf (by omega) (by omega)
 refine ⟨by unfold chI;rw [hA];exact zco h1 h5,hok,?_,ht⟩;rw [xe hok,hR];exact (xr a).2
theorem ay(s:ByteArray):wv s=if (okB (chR s) && decide (chT (chI s) (zq (chR s))=s))=true then some (chI s,zq (chR s)) else none:=by
 by_cases hc:(okB (chR s) && decide (chT (chI s) (zq (chR s))=s))=true
 · rw [if_pos hc];simp only [Bool.and_eq_true,decide_eq_true_eq] at hc;obtain ⟨h1,h2⟩:=hc;cases hg:xi (chI s) (zq (chR s))
   · exfalso;have e:chT (chI s) (zq (chR s))=⟨#[]⟩:=by unfold chT;rw [if_neg (by simp [hg])]
     rw [e] at h2;rw [<-h2] at h1
     revert h1
     decide
   ·have h3:=az hg;rw [h2] at h3;exact h3
 · rw [if_neg hc];cases hr:wv s with
   | none=>rfl
   | some p=>
     exfalso;obtain ⟨k,a⟩:=p;obtain ⟨h1,h2,h3,h4⟩:=zbn hr;apply hc;rw [h1,h2,h3,h4];simp
def pg(o:Option (Int × Int)):Array Value:=#[.agg #[.int .i64 (o.getD (0,0)).1,.int .i64 (o.getD (0,0)).2],.bool o.isSome]
theorem aZ(p:ByteArray)(w:World)(hN:ChgN w):Calls prog 64 #[.slice (some ⟨1,0,none⟩) 6 6,.string p] w (RetQ (.int .i64 (Lib.idxOfS namesC p)) w):=by
 have h:=Tryz.slices_Index_string 1 0 6 6 namesC p w (by simp [namesC]) (by omega) (by
  intro j hj;have hj6:j<=5:=by simp [namesC] at hj;omega
  rw [Nat.zero_add,hN j hj6];rcases (show j=0\/j=1\/j=2\/j=3\/j=4\/j=5 by omega) with rfl | rfl | rfl | rfl | rfl | rfl <;> rfl)
 rw [show namesC.take 6=namesC from rfl] at h;exact h
theorem zaw(s:ByteArray):(chR s).size<=s.size:=by
 have h1:(qb s).data.toList.length<=s.data.toList.length:=by
  unfold qb Lib.cut;split
  ·simp only [List.length_drop];omega
  ·simp
 have h2:(chR s).data.toList.length<=(qb s).data.toList.length:=by
  unfold chR Lib.trimPrefix;split
  ·simp
  ·simp
 rw [zu,zu] at *;omega
theorem kK(s:ByteArray)(hs:s.size<=4194304)(w:World)(hT:Tabs w)(hN:ChgN w):Calls prog 79 #[.string s] w (RetT (pg (wv s)) w):=by
 have HT:=qH hT;have HN:=qH hN;have HP:=ay s;have hrz:=zaw s;have HTR:∀ w,Calls prog 66 #[.string (qb s),.string ⟨#[43]⟩] w fun e w'=>e=.returned (.string (chR s))/\w'=w:=fun w=>Tryz.strings_TrimPrefix (qb s) ⟨#[43]⟩ w;have HCU:∀ w,Tabs w->Calls prog 133 #[.string s,.string ⟨#[32]⟩] w fun e w'=>∃ b:Bool,e=.returned (.tuple #[.string (chA s),.string (qb s),.bool b])/\Below w.heap.size w w':=fun w h=>by
  obtain ⟨m,hm⟩:=h.len;refine (Tryz.strings_Cut s ⟨#[32]⟩ m w (by omega) hm).mono ?_;rintro e w' ⟨rfl,n,rfl⟩;exact ⟨_,rfl,below_drewN (Below.refl _ _) n⟩
 have HIX:∀ w,ChgN w->Calls prog 64 #[.slice (some ⟨1,0,none⟩) 6 6,.string (chA s)] w (RetQ (.int .i64 (chI s)) w):=fun w h=>aZ (chA s) w h;obtain ⟨ka,hka⟩:=zN (chA s);obtain ⟨am,ham⟩:=zN (qb s);obtain ⟨tr,htr⟩:=zN (chR s);obtain ⟨k,hk⟩:=zN (chI s);rw [<-hka,<-ham] at HCU;rw [<-ham,<-htr] at HTR;rw [<-hka,<-hk] at HIX;rw [<-hk,<-htr] at HP;rw [<-htr] at hrz;have hrd:=fun w h=>xO tr (by omega) w h;change ∀ w,Tabs w->Calls prog 33 #[.string tr] w (RetT #[.int .i64 (zq tr),.bool (okB tr)] w) at hrd;obtain ⟨n,hn⟩:=zN (zq tr);obtain ⟨b,hb⟩:=zN (okB tr);rw [<-hn,<-hb] at hrd HP;have HCT:=fun w h h2=>kJ k n w h h2;obtain ⟨u,hu⟩:=zN (chT k n);rw [<-hu] at HP HCT;obtain ⟨q,hq⟩:=zN (decide (u=s));rw [<-hq] at HP;have hbb:(u.toList == s.toList)=q:=by rw [hq];exact yD _ _
 replace HP:=qH HP;replace HTR:=qH HTR;replace HCU:=qH HCU;replace HIX:=qH HIX;have HRD:=qH hrd;replace HCT:=qH HCT;clear hka ham htr hk hn hb hu hq hrd hrz hT hN;obtain ⟨W,hW⟩:=zN (w.alloc (Obj.cells #[.int .i64 0,.int .i64 0] 126));obtain ⟨g,hg⟩:=zN w.heap.size;have hv:Below w.heap.size w W:=by rw [hW];exact zc (Below.refl _ _) _
 have HB:Hid (Blk W g 126 #[.int .i64 0,.int .i64 0]):=qH (by rw [hW,hg];exact Blk.new _ _ _);have hgw:w.heap.size<=g:=by omega
 have HW:=qH hW;have HG:=qH hg;clear hW hg;go_in;go_upto_region 1 with fail;rw [<-HW.out,<-HG.out];clear HW HG;go_wp2_with fail;refine (HCU.out _ (HT.out.below hv)).mono ?_;rintro e W1 ⟨b9,rfl,hb⟩;replace HB:=qH (HB.out.below hb);replace hv:=za hv hb;clear hb HCU;go_wp2_with fail;refine qR (HTR.out _) ?_;clear HTR;go_wp2_with fail;refine qS (HRD.out _ (HT.out.below hv)) fun W2 hb=>?_;replace HB:=qH (HB.out.below hb);replace hv:=za hv hb;clear hb HRD;go_wp2_with fail;refine qR (HIX.out _ (HN.out.below hv)) ?_;clear HIX;go_upto_region 4 with fail;obtain ⟨W3,hWn⟩:=zN (World.alloc W2 (Obj.cells #[.int .i64 k,.int .i64 n] 126));obtain ⟨gd,hgn⟩:=zN W2.heap.size;have hb:Below W2.heap.size W2 W3:=by rw [hWn];exact zc (Below.refl _ _) _
 have HD:Hid (Blk W3 gd 126 #[.int .i64 k,.int .i64 n]):=qH (by rw [hWn,hgn];exact Blk.new _ _ _);rw [<-hWn,<-hgn];clear hWn hgn;replace HB:=qH (HB.out.below hb);replace hv:=za hv hb;clear hb;cases b
 case false=>
  have HR:=qH (show pg (wv s)=#[.agg #[.int .i64 0,.int .i64 0],.bool false] by rw [HP.out];rfl)
  go_upto_if 34 with fail
  go_wp2_with (refine yS g #[.int .i64 0,.int .i64 0] HB.out ?_)
  have hF:Blk (World.setRow W3 g #[Value.int .i64 0,Value.int .i64 0]) g 126 #[.int .i64 0,.int .i64 0]:=setRow_heap _ _ _ _ _ _ HB.out;have hbF:=zG hv hgw #[Value.int .i64 0,Value.int .i64 0];obtain ⟨WF,hWF⟩:=zN (World.setRow W3 g #[Value.int .i64 0,Value.int .i64 0]);rw [<-hWF] at hF hbF |-;clear hWF;have m0:=yc0 hF;have m1:=yc1 hF;go_wp2_with fail;try simp only [Exit.inBlock,Exit.then]
  refine bodyPost_ret (v:=.tuple #[.agg #[.int .i64 0,.int .i64 0],.bool false]) (by simp [results,results79,go_sem,m0,m1]) rfl ?_;exact RetT.mk HR.out.symm hbF
 have k0:=yc0 HD.out;have k1:=yc1 HD.out;go_wp2_with fail;refine qS (HCT.out _ (HT.out.below hv).pow (HN.out.below hv)) fun W4 hb=>?_;clear k0 k1 HCT;replace HB:=qH (HB.out.below hb);replace HD:=qH (HD.out.below hb);replace hv:=za hv hb;clear hb;cases q
 case false=>
  have HR:=qH (show pg (wv s)=#[.agg #[.int .i64 0,.int .i64 0],.bool false] by rw [HP.out];rfl)
  go_upto_if 34 with fail
  go_wp2_with (refine yS g #[.int .i64 0,.int .i64 0] HB.out ?_)
  have hF:Blk (World.setRow W4 g #[Value.int .i64 0,Value.int .i64 0]) g 126 #[.int .i64 0,.int .i64 0]:=setRow_heap _ _ _ _ _ _ HB.out;have hbF:=zG hv hgw #[Value.int .i64 0,Value.int .i64 0];obtain ⟨WF,hWF⟩:=zN (World.setRow W4 g #[Value.int .i64 0,Value.int .i64 0]);rw [<-hWF] at hF hbF |-;clear hWF;have m0:=yc0 hF;have m1:=yc1 hF;go_wp2_with fail;try simp only [Exit.inBlock,Exit.then]
  refine bodyPost_ret (v:=.tuple #[.agg #[.int .i64 0,.int .i64 0],.bool false]) (by simp [results,results79,go_sem,m0,m1]) rfl ?_;exact RetT.mk HR.out.symm hbF
 have HR:=qH (show pg (wv s)=#[.agg #[.int .i64 k,.int .i64 n],.bool true] by rw [HP.out];rfl);go_wp2_with (first | (refine yL gd HD.out underlying126 ?_) | (refine yS g #[.int .i64 k,.int .i64 n] HB.out ?_))
 have hF:Blk (World.setRow W4 g #[Value.int .i64 k,Value.int .i64 n]) g 126 #[.int .i64 k,.int .i64 n]:=setRow_heap _ _ _ _ _ _ HB.out;have hbF:=zG hv hgw #[Value.int .i64 k,Value.int .i64 n];obtain ⟨WF,hWF⟩:=zN (World.setRow W4 g #[Value.int .i64 k,Value.int .i64 n]);rw [<-hWF] at hF hbF |-;clear hWF;have m0:=yc0 hF;have m1:=yc1 hF;go_wp2_with fail;try simp only [Exit.inBlock,Exit.then]
 refine bodyPost_ret (v:=.tuple #[.agg #[.int .i64 k,.int .i64 n],.bool true]) (by simp [results,results79,go_sem,m0,m1]) rfl ?_;exact RetT.mk HR.out.symm hbF
end Go.Proofs.YtpiehlfffjhoaaaGreatDoor
