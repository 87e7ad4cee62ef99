/- Lemmas for the law on the console: the parts StyK,StyJ,StyD,StyF,StyI,StyZ. -/
import Derived.Test.YtpiehlfffjhoaaaGreatDoorQ23
import Derived.Lib.IndexAny
namespace Go.Proofs.YtpiehlfffjhoaaaGreatDoor
open Go.RowKit Go.Proofs.Tryz
set_option maxRecDepth 100000
set_option maxHeartbeats 8000000
def cl3(x:Style):ByteArray:=if 0 < x.h then ⟨#[104,101,101,108,32]⟩ ++ zm x.h else ⟨#[]⟩
def cl4(x:Style):ByteArray:=if 0 < x.e then ⟨#[101,121,101,108,101,116,115,32]⟩ ++ zm x.e else ⟨#[]⟩
def nn(x:Style):ByteArray:=if 0 < x.d then ⟨#[115,116,105,116,99,104,32]⟩ ++ zm x.d else ⟨#[]⟩
def cl5(x:Style):ByteArray:=if x.q=true then nn x ++ ⟨#[32,100,111,117,98,108,101]⟩ else nn x
theorem zc5{x:Style}(hx:yZ x=true):cl3 x=tK x/\cl4 x=tL x/\cl5 x=tM x:=by
 rw [wE] at hx;obtain ⟨_,_,_,_,_,h6,h7,h8⟩:=hx;rw [inB_iff] at h6 h7;refine ⟨?_,?_,?_⟩
 · unfold cl3 tK;by_cases h:x.h=0
   ·rw [if_pos h,if_neg (by omega)]
   ·rw [if_neg h,if_pos (by omega)]
 · unfold cl4 tL;by_cases h:x.e=0
   ·rw [if_pos h,if_neg (by omega)]
   ·rw [if_neg h,if_pos (by omega)]
 · have hd:nn x=uO x:=by
    unfold nn uO;rw [Bool.or_eq_true,Bool.and_eq_true,decide_eq_true_eq,Bool.not_eq_true',inB_iff] at h8;rcases h8 with ⟨h1,h2⟩ | h8
    ·rw [if_neg (by omega:¬ 0 < x.d),if_pos (show x.d=0/\x.q=false from ⟨h1,h2⟩)]
    ·rw [if_pos (by omega:0 < x.d),if_neg (show ¬ (x.d=0/\x.q=false) from fun h=>by have:=h.1;omega)]
   unfold cl5 tM;rw [hd]
def clK(k:Int)(x:Style):ByteArray:=if k=0 then vz x else if k=1 then tJ x else if k=2 then uU x else if k=3 then cl3 x else if k=4 then cl4 x else cl5 x
theorem zcc{x:Style}(hx:yZ x=true)(k:Nat)(hk:k < 6):(xA x)[k]?=some (clK k x):=by
 obtain ⟨h3,h4,h5⟩:=zc5 hx;rcases k with _ | _ | _ | _ | _ | _ | k <;> first | omega | (simp [xA,clK,h3,h4,h5];done)
theorem zdX(x:Style):clK 0 x=vz x:=by simp [clK]
theorem zc2(x:Style):clK 1 x=tJ x:=by simp [clK]
theorem zdY(x:Style):clK 2 x=uU x:=by simp [clK]
theorem zc3(x:Style):clK 3 x=cl3 x:=by simp [clK]
theorem zc4(x:Style):clK 4 x=cl4 x:=by simp [clK]
theorem zdZ(x:Style):clK 5 x=cl5 x:=by simp [clK]
theorem sW{t:ByteArray}(h:zo t=true):t.size<=12:=by
 by_cases h12:12 < t.size
 ·rw [wQ (.inl h12)] at h;cases h
 ·omega
theorem ow{x:Style}(hx:yZ x=true):(x.u.size<=12/\x.c.size<=12/\x.l.size<=12/\x.s.size<=12)/\(10<=x.t/\x.t<=300)/\(0<=x.h/\x.h<=1200)/\(0<=x.e/\x.e<=12)/\(0<=x.d/\x.d<=80):=by
 rw [wE] at hx;obtain ⟨h1,h2,h3,h4,h5,h6,h7,h8⟩:=hx;rw [inB_iff] at h5 h6 h7;rw [Bool.or_eq_true] at h3 h8;refine ⟨⟨sW h1,sW h2,?_,sW h4⟩,h5,h6,h7,?_⟩
 · rcases h3 with h | h
   ·have:=of_decide_eq_true h;omega
   ·exact sW h
 · rcases h8 with h | h
   ·rw [Bool.and_eq_true,decide_eq_true_eq] at h;omega
   ·rw [inB_iff] at h;omega
theorem zaA(x:Style)(hx:Hid (yZ x=true))(t:ByteArray)(ht:t ∈ styW)(w:World)(hT:Tabs w):Calls prog 141 #[.agg #[.string x.u,.string x.c,.string x.l,.string x.s,.int .i64 x.t,.int .i64 x.h,.int .i64 x.e,.int .i64 x.d,.bool x.q],.string t] w (Ret (.string (clK (yg t) x)) w):=by
 have HT:=qH hT;clear hT;obtain ⟨⟨z0,z1,z2,z3⟩,i4,i5,i6,i7⟩:=ow hx.out;obtain ⟨d4,e4⟩:=zN (zm x.t);obtain ⟨d5,e5⟩:=zN (zm x.h);obtain ⟨d6,e6⟩:=zN (zm x.e);obtain ⟨d7,e7⟩:=zN (zm x.d);have y4:d4.size<=21:=by rw [e4];exact xg (by omega) (by omega)
 have y5:d5.size<=21:=by rw [e5];exact xg (by omega) (by omega)
 have y6:d6.size<=21:=by rw [e6];exact xg (by omega) (by omega)
 have y7:d7.size<=21:=by rw [e7];exact xg (by omega) (by omega)
 have D4:=fun w h=>xp x.t (by omega) (by omega) w h;have D5:=fun w h=>xp x.h (by omega) (by omega) w h;have D6:=fun w h=>xp x.e (by omega) (by omega) w h;have D7:=fun w h=>xp x.d (by omega) (by omega) w h;rw [<-e4] at D4;rw [<-e5] at D5;rw [<-e6] at D6;rw [<-e7] at D7;replace D4:=qH D4;replace D5:=qH D5;replace D6:=qH D6;replace D7:=qH D7;have E4:=qH e4.symm;have E5:=qH e5.symm;have E6:=qH e6.symm;have E7:=qH e7.symm;clear e4 e5 e6 e7;obtain ⟨W,hW⟩:=zN (w.alloc (Obj.cells (cS x) 30));obtain ⟨g,hg⟩:=zN w.heap.size;have hv:Below w.heap.size w W:=by rw [hW];exact zc (Below.refl _ _) _
 have hX:Hid (Blk W g 30 (cS x)):=qH (by rw [hW,hg];exact Blk.new _ _ _);have HW:=qH hW;have HG:=qH hg;clear hW hg;obtain ⟨k,hk⟩:=zN (yg t);obtain ⟨e0,e1,e2,e3,e4,e5⟩:=vM hk.symm;have hkk:k=0\/k=1\/k=2\/k=3\/k=4\/k=5:=by
  rcases vq t with ⟨_,h⟩ | ⟨_,h⟩ | ⟨_,h⟩ | ⟨_,h⟩ | ⟨_,h⟩ | ⟨_,h⟩ | ⟨h,_⟩
  all_goals first | exact absurd ht h | omega
 obtain ⟨R,hR⟩:=zN (clK k x);rw [<-hk,<-hR];have HR:=qH hR;clear hR hk ht;rw [show wUpper.toList=[117,112,112,101,114] from by simp [wUpper]] at e0;rw [show wLining.toList=[108,105,110,105,110,103] from by simp [wLining]] at e1;rw [show wSole.toList=[115,111,108,101] from by simp [wSole]] at e2;rw [show wHeel.toList=[104,101,101,108] from by simp [wHeel]] at e3;rw [show wEyelets.toList=[101,121,101,108,101,116,115] from by simp [wEyelets]] at e4;rw [show wStitch.toList=[115,116,105,116,99,104] from by simp [wStitch]] at e5;go_in;go_upto_region 2 with fail;rw [<-HW.out,<-HG.out];clear HW HG;have l0:(⟨#[117,112,112,101,114,32]⟩:ByteArray).size=6:=rfl;have l1:(⟨#[32]⟩:ByteArray).size=1:=rfl;have l2:(⟨#[115,111,108,101,32]⟩:ByteArray).size=5:=rfl;have l3:(⟨#[108,105,110,105,110,103,32]⟩:ByteArray).size=7:=rfl;have l4:(⟨#[104,101,101,108,32]⟩:ByteArray).size=5:=rfl;have l5:(⟨#[101,121,101,108,101,116,115,32]⟩:ByteArray).size=8:=rfl;have l6:(⟨#[115,116,105,116,99,104,32]⟩:ByteArray).size=7:=rfl;have l7:(⟨#[32,100,111,117,98,108,101]⟩:ByteArray).size=7:=rfl;rcases hkk with rfl | rfl | rfl | rfl | rfl | rfl
 · as_aux_lemma=>
    replace e0:=e0.trans (show decide ((0:Int)=0)=true from by decide);replace e1:=e1.trans (show decide ((0:Int)=1)=false from by decide);replace e2:=e2.trans (show decide ((0:Int)=2)=false from by decide);replace e3:=e3.trans (show decide ((0:Int)=3)=false from by decide);replace e4:=e4.trans (show decide ((0:Int)=4)=false from by decide);replace e5:=e5.trans (show decide ((0:Int)=5)=false from by decide);have a0:=fun (w:World)=>run_string_add_sum (P:=prog) w (⟨#[117,112,112,101,114,32]⟩:ByteArray) x.u (by omega);have a1:=fun (w:World)=>run_string_add_sum (P:=prog) w ((⟨#[117,112,112,101,114,32]⟩:ByteArray) ++ x.u) (⟨#[32]⟩:ByteArray) (by simp only [zv];omega);have a2:=fun (w:World)=>run_string_add_sum (P:=prog) w (((⟨#[117,112,112,101,114,32]⟩:ByteArray) ++ x.u) ++ (⟨#[32]⟩:ByteArray)) x.c (by simp only [zv];omega);have k0:=yc0 hX.out;have k1:=yc1 hX.out;go_wp2;go_returns;exact Ret.mk (vs (by rw [HR.out,zdX];rfl)) hv
 · as_aux_lemma=>
    replace e0:=e0.trans (show decide ((1:Int)=0)=false from by decide);replace e1:=e1.trans (show decide ((1:Int)=1)=true from by decide);replace e2:=e2.trans (show decide ((1:Int)=2)=false from by decide);replace e3:=e3.trans (show decide ((1:Int)=3)=false from by decide);replace e4:=e4.trans (show decide ((1:Int)=4)=false from by decide);replace e5:=e5.trans (show decide ((1:Int)=5)=false from by decide);have a0:=fun (w:World)=>run_string_add_sum (P:=prog) w (⟨#[108,105,110,105,110,103,32]⟩:ByteArray) x.l (by omega);have k2:=yc2 hX.out;have hE:=wm x.l;by_cases h0:x.l.size=0
    ·rw [decide_eq_true h0] at hE;have hq:clK 1 x=⟨#[]⟩:=(zc2 x).trans (if_pos h0);have HQ:=qH hq;clear hq h0;go_wp2;go_returns;exact Ret.mk (vs (by rw [HR.out,HQ.out])) hv
    ·rw [decide_eq_false h0] at hE;have hq:clK 1 x=_:=(zc2 x).trans (if_neg h0);have HQ:=qH hq;clear hq h0;go_wp2;go_returns;exact Ret.mk (vs (by rw [HR.out,HQ.out])) hv
 · as_aux_lemma=>
    replace e0:=e0.trans (show decide ((2:Int)=0)=false from by decide);replace e1:=e1.trans (show decide ((2:Int)=1)=false from by decide);replace e2:=e2.trans (show decide ((2:Int)=2)=true from by decide);replace e3:=e3.trans (show decide ((2:Int)=3)=false from by decide);replace e4:=e4.trans (show decide ((2:Int)=4)=false from by decide);replace e5:=e5.trans (show decide ((2:Int)=5)=false from by decide);have a0:=fun (w:World)=>run_string_add_sum (P:=prog) w (⟨#[115,111,108,101,32]⟩:ByteArray) x.s (by omega);have a1:=fun (w:World)=>run_string_add_sum (P:=prog) w ((⟨#[115,111,108,101,32]⟩:ByteArray) ++ x.s) (⟨#[32]⟩:ByteArray) (by simp only [zv];omega);have a2:=fun (w:World)=>run_string_add_sum (P:=prog) w (((⟨#[115,111,108,101,32]⟩:ByteArray) ++ x.s) ++ (⟨#[32]⟩:ByteArray)) d4 (by simp only [zv];omega);have k3:=yc3 hX.out;have k4:=yc4 hX.out;go_upto_region 9 with fail;refine zH (fun w'=>Below W.heap.size W w'/\True) ?_ (fun hHeld=>?_)
    ·exact ⟨(Below.refl _ _).drew,trivial⟩
    have hd9:=za hv hHeld.1;have hd8:=hHeld.1;refine zU 0 26 ?_;refine zT 1 27 rfl (fun w hSw=>by
     have x_k3:=zb hSw.1 k3;go_simp;try with_reducible rfl) ?_
    refine zU 2 28 ?_;refine zU 3 29 ?_;refine zU 4 30 ?_;refine zT 5 31 rfl (fun w hSw=>by
     have x_k4:=zb hSw.1 k4;go_simp;try with_reducible rfl) ?_
    refine zR 6 (some 32) rfl (fun K hK=>?_);go_simp;go_split_ands;refine qS (D4.out _ (HT.out.pow.below hd9)) fun W1 hb9=>?_;have hh:=za hd8 hb9;replace hv:=za hd9 hb9;clear hd9 hd8;go_wp2_with fail;refine zK hK ⟨hh,trivial⟩ (fun hHeld=>?_);clear hK K;refine zU 7 33 ?_;refine zU 8 5 ?_;refine zD ?_;clear hHeld;go_wp2;go_returns;refine Ret.mk (vs ?_) hv;rw [HR.out,zdY];unfold uU;rw [E4.out];rfl
 · as_aux_lemma=>
    replace e0:=e0.trans (show decide ((3:Int)=0)=false from by decide);replace e1:=e1.trans (show decide ((3:Int)=1)=false from by decide);replace e2:=e2.trans (show decide ((3:Int)=2)=false from by decide);replace e3:=e3.trans (show decide ((3:Int)=3)=true from by decide);replace e4:=e4.trans (show decide ((3:Int)=4)=false from by decide);replace e5:=e5.trans (show decide ((3:Int)=5)=false from by decide);have a0:=fun (w:World)=>run_string_add_sum (P:=prog) w (⟨#[104,101,101,108,32]⟩:ByteArray) d5 (by omega);have k5:=yc5 hX.out;by_cases h0:0 < x.h
    ·have hq:clK 3 x=_:=(zc3 x).trans (if_pos h0);rw [E5.out] at hq;have HQ:=qH hq;clear hq;go_wp2_with fail;refine qS (D5.out _ (HT.out.pow.below hv)) fun W2 hb=>?_;replace hv:=za hv hb;replace hX:=qH (hX.out.below hb);clear hb;go_wp2;go_returns;exact Ret.mk (vs (by rw [HR.out,HQ.out])) hv
    ·have hq:clK 3 x=⟨#[]⟩:=(zc3 x).trans (if_neg h0);have HQ:=qH hq;clear hq;go_wp2;go_returns;exact Ret.mk (vs (by rw [HR.out,HQ.out])) hv
 · as_aux_lemma=>
    replace e0:=e0.trans (show decide ((4:Int)=0)=false from by decide);replace e1:=e1.trans (show decide ((4:Int)=1)=false from by decide);replace e2:=e2.trans (show decide ((4:Int)=2)=false from by decide);replace e3:=e3.trans (show decide ((4:Int)=3)=false from by decide);replace e4:=e4.trans (show decide ((4:Int)=4)=true from by decide);replace e5:=e5.trans (show decide ((4:Int)=5)=false from by decide);have a0:=fun (w:World)=>run_string_add_sum (P:=prog) w (⟨#[101,121,101,108,101,116,115,32]⟩:ByteArray) d6 (by omega);have k6:=yc6 hX.out;by_cases h0:0 < x.e
    ·have hq:clK 4 x=_:=(zc4 x).trans (if_pos h0);rw [E6.out] at hq;have HQ:=qH hq;clear hq;go_wp2_with fail;refine qS (D6.out _ (HT.out.pow.below hv)) fun W2 hb=>?_;replace hv:=za hv hb;replace hX:=qH (hX.out.below hb);clear hb;go_wp2;go_returns;exact Ret.mk (vs (by rw [HR.out,HQ.out])) hv
    ·have hq:clK 4 x=⟨#[]⟩:=(zc4 x).trans (if_neg h0);have HQ:=qH hq;clear hq;go_wp2;go_returns;exact Ret.mk (vs (by rw [HR.out,HQ.out])) hv
 · as_aux_lemma=>
    replace e0:=e0.trans (show decide ((5:Int)=0)=false from by decide);replace e1:=e1.trans (show decide ((5:Int)=1)=false from by decide);replace e2:=e2.trans (show decide ((5:Int)=2)=false from by decide);replace e3:=e3.trans (show decide ((5:Int)=3)=false from by decide);replace e4:=e4.trans (show decide ((5:Int)=4)=false from by decide);replace e5:=e5.trans (show decide ((5:Int)=5)=true from by decide);have hq:clK 5 x=if x.q=true then nn x ++ ⟨#[32,100,111,117,98,108,101]⟩ else nn x:=zdZ x
    have hq2:nn x=if 0 < x.d then (⟨#[115,116,105,116,99,104,32]⟩:ByteArray) ++ zm x.d else ⟨#[]⟩:=rfl
    rw [E7.out] at hq2;have a0:=fun (w:World)=>run_string_add_sum (P:=prog) w (⟨#[115,116,105,116,99,104,32]⟩:ByteArray) d7 (by omega);have a1:=fun (w:World)=>run_string_add_sum (P:=prog) w ((⟨#[115,116,105,116,99,104,32]⟩:ByteArray) ++ d7) (⟨#[32,100,111,117,98,108,101]⟩:ByteArray) (by simp only [zv];omega);have a2:=fun (w:World)=>run_string_add_sum (P:=prog) w (⟨#[]⟩:ByteArray) (⟨#[32,100,111,117,98,108,101]⟩:ByteArray) (by decide);have k7:=yc7 hX.out;have k8:=yc8 hX.out;by_cases h0:0 < x.d
    · rw [if_pos h0] at hq2;cases hd:x.q
      · rw [hd,if_neg (by simp),hq2] at hq;have HQ:=qH hq;clear hq hq2;rw [hd] at k8;go_wp2_with fail;refine qS (D7.out _ (HT.out.pow.below hv)) fun W2 hb=>?_;replace hv:=za hv hb;replace hX:=qH (hX.out.below hb);clear hb;replace k8:W2.cell? ⟨g,8,none⟩=some (.bool false):=by rw [<-hd];exact hX.out.cell 8
        go_wp2;go_returns;exact Ret.mk (vs (by rw [HR.out,HQ.out])) hv
      · rw [hd,if_pos rfl,hq2] at hq;have HQ:=qH hq;clear hq hq2;rw [hd] at k8;go_wp2_with fail;refine qS (D7.out _ (HT.out.pow.below hv)) fun W2 hb=>?_;replace hv:=za hv hb;replace hX:=qH (hX.out.below hb);clear hb;replace k8:W2.cell? ⟨g,8,none⟩=some (.bool true):=by rw [<-hd];exact hX.out.cell 8
        go_wp2;go_returns;exact Ret.mk (vs (by rw [HR.out,HQ.out])) hv
    · rw [if_neg h0] at hq2;cases hd:x.q
      ·rw [hd,if_neg (by simp),hq2] at hq;have HQ:=qH hq;clear hq hq2;rw [hd] at k8;go_wp2;go_returns;exact Ret.mk (vs (by rw [HR.out,HQ.out])) hv
      ·rw [hd,if_pos rfl,hq2] at hq;have HQ:=qH hq;clear hq hq2;rw [hd] at k8;go_wp2;go_returns;exact Ret.mk (vs (by rw [HR.out,HQ.out])) hv
structure Kp (p:ByteArray->Bool) (L D:List ByteArray) (i j:Nat):Prop where
 len:D.length=L.length
 lt:i < j
 low:D.take i=(L.take j).filter fun x=>!p x
 high:∀ k,i<=k->D[k]?=L[k]?
theorem Kp.start{p:ByteArray->Bool}{L:List ByteArray}{k:Nat}{x:ByteArray}(hx:L[k]?=some x)(hp:p x=true)(hb:∀ y ∈ L.take k,p y=false):Kp p L L k (k + 1) where
 len:=rfl
 lt:=Nat.lt_succ_self _
 low:=by
  rw [yJ hx,List.filter_append,List.filter_eq_self.2 (fun y hy=>by rw [hb y hy];rfl)];simp [hp]
 high:=fun _ _=>rfl
theorem Kp.skip{p:ByteArray->Bool}{L D:List ByteArray}{i j:Nat}{x:ByteArray}(h:Kp p L D i j)(hx:L[j]?=some x)(hp:p x=true):Kp p L D i (j + 1) where
 len:=h.len
 lt:=by have:=h.lt;omega
 low:=by rw [yJ hx,List.filter_append,h.low];simp [hp]
 high:=h.high
theorem Kp.keep{p:ByteArray->Bool}{L D:List ByteArray}{i j:Nat}{x:ByteArray}(h:Kp p L D i j)(hx:L[j]?=some x)(hp:p x=false):Kp p L (D.set i x) (i + 1) (j + 1) where
 len:=by rw [List.length_set];exact h.len
 lt:=by have:=h.lt;omega
 low:=by
  have hj:j < L.length:=by
   rcases Nat.lt_or_ge j L.length with h | h
   ·exact h
   ·rw [List.getElem?_eq_none h] at hx;cases hx
  have hi:i < D.length:=by have:=h.len;have:=h.lt;omega
  have hs:(D.set i x)[i]?=some x:=by rw [List.getElem?_set_self hi]
  rw [yJ hs,List.take_set_of_le (Nat.le_refl i),h.low,yJ hx,List.filter_append];simp [hp]
 high:=fun k hk=>by rw [List.getElem?_set_ne (by omega)];exact h.high k (by omega)
theorem Kp.done{p:ByteArray->Bool}{L D:List ByteArray}{i:Nat}(h:Kp p L D i L.length):D.take i=L.filter fun x=>!p x:=by
 rw [h.low,List.take_of_length_le (Nat.le_refl _)]
theorem Kp.num{p:ByteArray->Bool}{L D:List ByteArray}{i:Nat}(h:Kp p L D i L.length):(L.filter fun x=>!p x).length=i:=by
 rw [<-h.done,List.length_take];have:=h.len;have:=h.lt;omega
theorem pq{x:Style}(hx:yZ x=true):x.fits:=by
 obtain ⟨⟨z0,z1,z2,z3⟩,i4,i5,i6,i7⟩:=ow hx;unfold Style.fits;omega
theorem zbC(k:Nat)(hk:k < 6):∃ t,styW[k]?=some t/\yg t=(k:Int):=by
 rcases k with _ | _ | _ | _ | _ | _ | k
 ·exact ⟨_,rfl,qP⟩
 ·exact ⟨_,rfl,qQ⟩
 ·exact ⟨_,rfl,qT⟩
 ·exact ⟨_,rfl,qU⟩
 ·exact ⟨_,rfl,qV⟩
 ·exact ⟨_,rfl,uL⟩
 ·omega
theorem zaV:(prog.info? 9).map (fun i=>(i.zero,i.size,i.bytes))=some (some (.string ByteArray.empty),1,16):=by kernel_rfl
theorem zbj(x:Style):0 < (vf x).length:=by
 unfold vf xA;rw [List.flatMap_cons,rd (by unfold vz;exact yC _ _ (yC _ _ (yC _ _ (by decide))))];simp
theorem zbG{x:Style}(hx:yZ x=true):(Lib.join ((vf x).map (·.data.toList)) [59,32]).length<=300:=by
 have h:=(pr hx).1;unfold xQ at h;simpa [ByteArray.size,Lib.join] using h
theorem zbk{x:Style}{j:Nat}{R:ByteArray}(h:(xA x)[j]?=some R):((xA x).take (j + 1)).flatMap wu=((xA x).take j).flatMap wu ++ wu R:=by
 rw [yJ h,List.flatMap_append];simp
theorem oS(x:Style)(hx:Hid (yZ x=true))(w:World)(hT:Tabs w):Calls prog 82 #[.agg #[.string x.u,.string x.c,.string x.l,.string x.s,.int .i64 x.t,.int .i64 x.h,.int .i64 x.e,.int .i64 x.d,.bool x.q]] w (Ret (.string (xQ x)) w):=by
 obtain ⟨i0,hi0,hz0,hz1,hz2⟩:=info_parts (P:=prog) (e:=9) (z:=.string ByteArray.empty) (size:=1) (bytes:=16) zaV;have HT:=qH hT;clear hT;have hsx:Hid (x.u.size<=4194304/\x.c.size<=4194304/\x.l.size<=4194304/\x.s.size<=4194304):=qH (by have h:=(ow hx.out).1;omega);have V1:=fun w=>rh x hsx w;rw [hx.out] at V1;replace V1:=qH V1;have HCL:=qH (fun t (ht:t ∈ styW) w h=>zaA x hx t ht w h);have HTX:=qH (fun k h=>zcc hx.out k h);have HLN:=qH (zbG hx.out);obtain ⟨W,hW⟩:=zN (w.alloc (Obj.cells (cS x) 30));obtain ⟨gx,hgx⟩:=zN w.heap.size;have hv:Below w.heap.size w W:=by rw [hW];exact zc (Below.refl _ _) _
 have hX:Hid (Blk W gx 30 (cS x)):=qH (by rw [hW,hgx];exact Blk.new _ _ _);have HW:=qH hW;have HGX:=qH hgx;clear hW hgx;go_in;go_upto_region 1 with fail;rw [<-HW.out,<-HGX.out];clear HW HGX;go_wp2_with (refine yL gx hX.out underlying30 ?_)
 refine qS (V1.out _) fun W1 hb=>?_;replace hv:=za hv hb;replace hX:=qH (hX.out.below hb);clear hb V1;have hlx1:gx < W1.heap.size:=hX.out.lt;go_wp2_with fail;have hO0:=zI W1 w.heap.size 9 1 hv.size;have hb:=zc (Below.refl W1.heap.size W1) (.cells #[] 9);refine qS (pB _) fun W2 hq=>?_;obtain ⟨gw,hgw⟩:=zN ((W1.alloc (.cells #[] 9)).heap.size);have HB:Hid (Blk W2 gw 9 (styW.map Value.string).toArray):=qH (by rw [hq,hgw];exact Blk.new _ _ _);have hb2:Below (W1.alloc (.cells #[] 9)).heap.size (W1.alloc (.cells #[] 9)) W2:=by rw [hq];exact zc (Below.refl _ _) _
 rw [<-hgw];have HO:=qH (ze hO0 hb2);have hgl:W1.heap.size < gw:=by rw [hgw,World.size_alloc];omega
 replace hX:=qH ((hX.out.below hb).below hb2);replace hv:=za (za hv hb) hb2;have HR0:=qH (show ([]:List ByteArray)=((xA x).take 0).flatMap wu from rfl);obtain ⟨g0,hg0⟩:=zN W1.heap.size;rw [<-hg0] at HO hgl hlx1 |-;clear hb hb2 hq hgw hO0 hg0;go_wp2_with fail
 go_loopw [3,13] (fun v i wr=>∃ (j k g1 c1:Nat) (ou:List ByteArray),j<=6/\i=.int .i64 j/\v=.slice (some ⟨g1,0,none⟩) k c1/\k<=j/\g1≠gw/\Hid (ou.length=k)/\Hid (ou=((xA x).take j).flatMap wu)/\Hid (wr.ownsRow w.heap.size 9 1 (.slice (some ⟨g1,0,none⟩) k c1) k (zd zt ou))/\Hid (Blk wr gx 30 (cS x))/\Hid (Blk wr gw 9 (styW.map Value.string).toArray)/\Below w.heap.size w wr/\gx < g1) (fun _ i _=>6 - (intOf i).toNat)
 case atStart=>exact ⟨0,0,g0,0,[],by omega,rfl,rfl,by omega,by omega,qH rfl,HR0,HO,hX,HB,hv,hlx1⟩
 case round=>
 clear HO hX HB hv HR0 hgl hlx1;obtain ⟨j,k,g1,c1,ou,hj,rfl,rfl,hkj,hne,HU,HR,HO,hX,HB,hv,hgx1⟩:=hrel;have hj0:(0:Int)<=(j:Int):=by omega
 by_cases hlt:j < 6
 case neg=>
  have hj6:j=6:=by omega
  subst hj6;have hj1:¬ ((6:Nat):Int) < 6:=by omega
  have hou:ou=vf x:=by rw [HR.out];unfold vf;rw [List.take_of_length_le (by simp [xA])]
  subst hou;have hk0:0 < k:=by rw [<-HU.out];exact zbj x
  have hgl:=yr HO.out g1 rfl;have hcap:k<=c1:=by obtain ⟨_,_,e,h,_⟩:=wc HO.out;injection e with _ _ e3;omega
  have hjn:=Tryz.strings_Join g1 0 c1 (vf x) ⟨#[59,32]⟩ wr (fun i y hy=>by
   have hi:i < (vf x).length:=(List.getElem?_eq_some_iff.1 hy).1;have h0:=HO.out.cellAt i (by rw [Nat.mul_one,<-HU.out];exact hi);rw [Nat.zero_add,h0];have:=rn (f:=zt) (s:=1) (fun _=>rfl) (vf x) i 0 y hy (by omega);rw [Nat.mul_one,Nat.add_zero] at this;exact this) hgl (by rw [HU.out];omega) (by rw [HU.out];exact hcap) (Nat.le_trans HLN.out (by omega))
  rw [HU.out] at hjn;have HJ:=qH hjn;clear hjn hk0 hcap hgl;go_wp2_with fail;refine qS HJ.out fun W3 hb3=>?_;go_wp2;go_returns;exact Ret.mk rfl (za hv hb3)
 case pos=>
 have hj1:(j:Int) < 6:=by omega
 obtain ⟨t,ht,hk⟩:=zbC j hlt;have c0:wr.cell? ⟨gw,j,none⟩=some (.string t):=(HB.out.cell j).trans (by simp [ht]);have HC:=fun w h=>HCL.out t (List.mem_of_getElem? ht) w h;have hR:=HTX.out j hlt;rw [hk] at HC;obtain ⟨R,hRe⟩:=zN (clK (j:Int) x);rw [<-hRe] at HC hR;replace HC:=qH HC;have HS:=qH (zbk hR);clear ht hk hR hRe;go_wp2_with (refine yL gx hX.out underlying30 ?_)
 refine qS (HC.out _ (HT.out.below hv)) fun W3 hb=>?_;replace hv:=za hv hb;replace hX:=qH (hX.out.below hb);replace HB:=qH (HB.out.below hb);replace HO:=qH (ze HO.out hb);clear hb c0 HC;have hE:=wm R;by_cases h0:R.size=0
 ·rw [decide_eq_true h0] at hE;have HS2:=qH (show ou=((xA x).take (j + 1)).flatMap wu by rw [HS.out,<-HR.out];unfold wu;rw [if_pos h0,List.append_nil]);clear h0 HS;go_wp2_with fail;exact ⟨⟨j + 1,k,g1,c1,ou,by omega,by go_num,rfl,by omega,hne,HU,HS2,HO,hX,HB,hv,hgx1⟩,by simp [intOf];omega⟩
 · rw [decide_eq_false h0] at hE;have HS2:=qH (show ou ++ [R]=((xA x).take (j + 1)).flatMap wu by rw [HS.out,<-HR.out];unfold wu;rw [if_neg h0]);clear h0 HS;go_wp2_with (at_builtin;refine yu W3 #[.string R] rfl _ _ 24 9 rfl i0 _ 1 16 underlying24 hi0 hz0 hz1 hz2 rfl (by omega) w.heap.size (some ⟨g1,0,none⟩) k c1 _ rfl _ rfl rfl HO.out rfl (by simp [Value.oneCell']) (by unfold maxLen;omega) (by omega) hv.size ?_;intro g4 c4 W4 hown4 hg4 hf4)
   have hlw:=HB.out.lt;have hlx:=hX.out.lt;have hne4:g4≠gw/\gx < g4:=by
    rcases hf4 with e | e
    ·simp only [Option.some.injEq,Addr.mk.injEq,and_true] at e;omega
    ·omega
   have hX4:=hX.out.grown hg4 (by intro e;simp at e;omega);have HB4:=HB.out.grown hg4 (by intro e;simp at e;omega);have hv4:=zi hv hg4 (fun k e=>by simp at e;have:=zn HO.out g1 rfl;omega);exact ⟨⟨j + 1,k + 1,g4,c4,ou ++ [R],by omega,by go_num,rfl,by omega,hne4.1,qH (by rw [List.length_append,HU.out];rfl),HS2,qH (by rw [zY,xS];exact hown4),qH hX4,qH HB4,hv4,hne4.2⟩,by simp [intOf];omega⟩
theorem aJ(s:ByteArray):decide ((zl 59 s).length<=1) = !decide (0<=Lib.indexByte s.data.toList 59):=by
 rw [<-Lib.contains_iff_indexByte];unfold zl;rw [List.length_map,qo];by_cases h:(59:UInt8) ∈ s.data.toList
 ·have h1:=List.count_pos_iff.2 h;rw [decide_eq_false (by omega),List.contains_iff_mem.2 h];rfl
 · have h1:=List.count_eq_zero.2 h;have h2:s.data.toList.contains (59:UInt8)=false:=by
    rw [Bool.eq_false_iff];intro hc;exact h (List.contains_iff_mem.1 hc)
   rw [h2,decide_eq_true (by omega)];rfl
theorem kj(x:Style)(hx:Hid (x.u.size<=4194304/\x.c.size<=4194304/\x.l.size<=4194304/\x.s.size<=4194304))(s:ByteArray)(hs:s.size<=1048576)(w:World)(hT:Tabs w):Calls prog 83 #[.agg #[.string x.u,.string x.c,.string x.l,.string x.s,.int .i64 x.t,.int .i64 x.h,.int .i64 x.e,.int .i64 x.d,.bool x.q],.string s] w (RetT #[.agg #[.string (yX x s).u,.string (yX x s).c,.string (yX x s).l,.string (yX x s).s,.int .i64 (yX x s).t,.int .i64 (yX x s).h,.int .i64 (yX x s).e,.int .i64 (yX x s).d,.bool (yX x s).q],.int .i64 (wn x s)] w):=by
 have HT:=qH hT;clear hT;obtain ⟨W,hW⟩:=zN ((w.alloc (Obj.cells (cS x) 30)).alloc (Obj.cells cT 30));obtain ⟨gx,hgx⟩:=zN w.heap.size;obtain ⟨gr,hgr⟩:=zN (w.heap.size + 1);have hv:Below w.heap.size w W:=by rw [hW];exact zc (zc (Below.refl _ _) _) _
 have hX:Hid (Blk W gx 30 (cS x)):=qH (by rw [hW,hgx];exact (Blk.new _ _ _).alloc _);have hR:Hid (Blk W gr 30 cT):=qH (by
  have h:=Blk.new (w.alloc (Obj.cells (cS x) 30)) 30 cT;rw [World.size_alloc] at h;rw [hW,hgr];exact h)
 have hge:w.heap.size<=gr:=by omega
 have HW:=qH hW;have HGX:=qH hgx;have HGR:=qH hgr;clear hW hgx hgr;have HOK:=fun w=>rh x hx w;obtain ⟨sb,hsb⟩:=zN (yZ x);rw [<-hsb] at HOK;replace HOK:=qH HOK;have HSB:=qH hsb.symm;clear hsb;go_in;go_upto_region 1 with fail;rw [<-HW.out,<-HGR.out,<-HGX.out];clear HW HGR HGX;go_wp2_with (refine yL gx hX.out underlying30 ?_)
 refine qS (HOK.out _) fun W1 hb=>?_;replace hv:=za hv hb;replace hX:=qH (hX.out.below hb);replace hR:=qH (hR.out.below hb);clear hb HOK;cases sb
 · have H1:=qH (show yX x s=yA by unfold yX;rw [HSB.out];rfl);have H2:=qH (show wn x s=1 by unfold wn;rw [HSB.out];rfl);go_wp2_with (refine yS gr cT hR.out ?_)
   refine bodyPost_ret (zj (P:=prog) rfl _ _ gr 30 cT (0,0) _ rfl ?_ underlying30 rfl (by kernel_rfl)) rfl ?_
   ·exact setRow_heap _ _ _ _ _ _ hR.out
   ·exact RetT.mk (by rw [H1.out,H2.out];rfl) (zg hv hge _)
 have hok:uy s=(!decide (0<=Lib.indexByte s.data.toList 59) && decide (zE (zP s)=0)):=by unfold uy;rw [aJ]
 have hpr:yX x s=(if uy s=true then yp x (zP s) else yA):=by unfold yX;rw [HSB.out];rfl
 have hpc:wn x s=(if uy s=true then 0 else 7):=by unfold wn;rw [HSB.out];rfl
 have HSC:=fun w=>Tryz.strings_Contains_one s 59 w;obtain ⟨cb,hcb⟩:=zN (decide (0<=Lib.indexByte s.data.toList 59));rw [<-hcb] at hok HSC;replace HSC:=qH HSC;have HOKC:=qH hok;have HPR:=qH hpr;have HPC:=qH hpc;have HCP:=qH (fun w h=>rG s (by omega) w h);clear hcb hok hpr hpc HSB;go_wp2_with fail;refine qR (HSC.out _) ?_;clear HSC;cases cb
 case true=>
  have hk:uy s=false:=by rw [HOKC.out];rfl
  have H1:=qH (show yX x s=yA by rw [HPR.out,hk];rfl);have H2:=qH (show wn x s=7 by rw [HPC.out,hk];rfl);clear hk;go_wp2_with (refine yS gr cT hR.out ?_)
  refine bodyPost_ret (zj (P:=prog) rfl _ _ gr 30 cT (0,0) _ rfl ?_ underlying30 rfl (by kernel_rfl)) rfl ?_
  ·exact setRow_heap _ _ _ _ _ _ hR.out
  ·exact RetT.mk (by rw [H1.out,H2.out];rfl) (zg hv hge _)
 go_wp2_with fail;refine qS (HCP.out _ (HT.out.below hv)) fun W4 hb=>?_;replace hv:=za hv hb;replace hX:=qH (hX.out.below hb);replace hR:=qH (hR.out.below hb);clear hb HCP;by_cases hp0:zE (zP s)=0
 case neg=>
  have hpq:(zE (zP s) != 0)=true:=by rw [bne_iff_ne];exact hp0
  have hk:uy s=false:=by rw [HOKC.out,decide_eq_false hp0,Bool.and_false]
  have H1:=qH (show yX x s=yA by rw [HPR.out,hk];rfl);have H2:=qH (show wn x s=7 by rw [HPC.out,hk];rfl);clear hk hp0;go_wp2_with (refine yS gr cT hR.out ?_)
  refine bodyPost_ret (zj (P:=prog) rfl _ _ gr 30 cT (0,0) _ rfl ?_ underlying30 rfl (by kernel_rfl)) rfl ?_
  ·exact setRow_heap _ _ _ _ _ _ hR.out
  ·exact RetT.mk (by rw [H1.out,H2.out];rfl) (zg hv hge _)
 have hpq:(zE (zP s) != 0)=false:=by rw [hp0];rfl
 have hk:uy s=true:=by rw [HOKC.out,decide_eq_true hp0];rfl
 have H1:=qH (show yX x s=yp x (zP s) by rw [HPR.out,hk];rfl);have H2:=qH (show wn x s=0 by rw [HPC.out,hk];rfl);have HWT:=fun w h=>aY x s (by omega) (qH hp0) w h;rw [<-H1.out] at HWT;replace HWT:=qH HWT;clear hk hp0;obtain ⟨Y,hY⟩:=zN (yX x s);rw [<-hY] at HWT;have HY:=qH hY.symm;clear hY;go_wp2_with (refine yL gx hX.out underlying30 ?_)
 refine qS (HWT.out _ (HT.out.below hv)) fun W5 hb=>?_;replace hv:=za hv hb;replace hR:=qH (hR.out.below hb);clear hb HWT;go_wp2_with (refine yS gr (cS Y) hR.out ?_)
 refine bodyPost_ret (zj (P:=prog) rfl _ _ gr 30 (cS Y) (0,0) _ rfl ?_ underlying30 rfl (by kernel_rfl)) rfl ?_
 ·exact setRow_heap _ _ _ _ _ _ hR.out
 ·exact RetT.mk (by rw [HY.out,H2.out];rfl) (zg hv hge _)
end Go.Proofs.YtpiehlfffjhoaaaGreatDoor
