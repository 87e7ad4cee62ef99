/- Lemmas for the law on the console: the parts StyT,StyC. -/
import Derived.Test.YtpiehlfffjhoaaaGreatDoorQ12
namespace Go.Proofs.YtpiehlfffjhoaaaGreatDoor
open Go.RowKit Go.Proofs.Tryz
set_option maxRecDepth 100000
set_option maxHeartbeats 8000000
theorem rx(A:Option Addr)(ws:List ByteArray)(n c:Nat)(hn:Hid (ws.length=n))(hz:(n:Int)<=4194305)(HPT:Hid (∀ x ∈ ws,x.size<=4194304))(w:World)(hA:Arr w A (zd zt ws)):Calls prog 151 #[.slice A n c] w (Ret (.int .i64 (zE ws)) w):=by
 have hAA:=qH hA;clear hA;go_in;by_cases h0:n=0
 ·subst h0;have HP:=qH (show zE ws=1 by rw [List.eq_nil_of_length_eq_zero hn.out];rfl);go_wp2;go_returns;exact Ret.mk (vi (by rw [HP.out])) (Below.refl _ _)
 obtain ⟨t,r,hr⟩:∃ t r,ws=t :: r:=by
  cases ws with
  | nil=>exact absurd hn.out.symm h0
  | cons a r=>exact ⟨a,r,rfl⟩
 subst hr;have h1:((n:Int) == 0)=false:=by rw [beq_eq_false_iff_ne];omega
 have hn1:(0:Int) < (n:Int):=by omega
 have hn0:0 < n:=by omega
 obtain ⟨ad,had,_,c0⟩:=zh (k:=0) hAA.out rfl;subst had;replace c0:w.cell? ad=some (.string t):=c0;obtain ⟨k,hk⟩:=zN (yg t);have HKW:=fun w=>vr t w;rw [<-hk] at HKW;have hkk:k = -1\/k=0\/k=1\/k=2\/k=3\/k=4\/k=5:=by have:=fN t;omega
 replace HKW:=qH HKW;have HK:=qH hk.symm;clear hk;go_wp2_with fail;refine qS (HKW.out _) fun W2 hv=>?_;have hA:=qH (hAA.out.below hv);clear c0 HKW hAA;rcases hkk with rfl | rfl | rfl | rfl | rfl | rfl | rfl
 ·have HP:=qH (jT (l:=t :: r) (by rw [List.headD_cons,HK.out];omega));go_wp2;go_returns;exact Ret.mk (vi (by rw [HP.out])) hv
 · skip
   obtain ⟨cb,hcb⟩:=zN (uP 0 n);have HCC:=fun w=>uq 0 n w;rw [<-hcb] at HCC;replace HCC:=qH HCC;have HCB:=qH hcb;clear hcb;go_wp2_with fail;refine qR (HCC.out _) ?_;clear HCC;cases cb
   ·have HP:=qH (sY (.inl HK.out) (by rw [hn.out];intro h2;have h:=HCB.out;rw [h2] at h;exact absurd h (by decide)));clear HCB;go_wp2;go_returns;exact Ret.mk (vi (by rw [HP.out])) hv
   · skip
     have hc:n=3:=by
      have h:=HCB.out;unfold uP at h;rw [if_pos (by omega)] at h;exact of_decide_eq_true h.symm
     clear HCB;subst hc;obtain ⟨t',a,b,hsh⟩:=ta hn.out;injection hsh with h1 h2;subst h1;subst h2;obtain ⟨ad1,had1,_,c1⟩:=zh (k:=1) hA.out rfl;injection had1 with had1;subst had1;replace c1:=yq c1;have ha:=Nat.le_trans (HPT.out a (by simp)) (by omega:4194304<=9223372036854775807);obtain ⟨ad2,had2,_,c2⟩:=zh (k:=2) hA.out rfl;injection had2 with had2;subst had2;replace c2:=yq c2;have hb2:=Nat.le_trans (HPT.out b (by simp)) (by omega:4194304<=9223372036854775807);obtain ⟨v1,hv1⟩:=zN (zo a);have Hv1:=fun w=>xn a ha w;rw [<-hv1] at Hv1;replace Hv1:=qH Hv1;obtain ⟨v2,hv2⟩:=zN (zo b);have Hv2:=fun w=>xn b hb2 w;rw [<-hv2] at Hv2;replace Hv2:=qH Hv2;have HP:=qH (show zE [t,a,b]=if (v1 && v2)=true then 0 else 4 from by simp [zE,HK.out,hv1,hv2]);clear hv1 hv2 HK;cases v1
     ·go_wp2_with fail;refine qR (Hv1.out _) ?_;go_wp2;go_returns;exact Ret.mk (vi (by rw [HP.out];rfl)) hv
     · skip
       cases v2
       ·go_wp2_with fail;refine qR (Hv1.out _) ?_;go_wp2_with fail;refine qR (Hv2.out _) ?_;go_wp2;go_returns;exact Ret.mk (vi (by rw [HP.out];rfl)) hv
       ·go_wp2_with fail;refine qR (Hv1.out _) ?_;go_wp2_with fail;refine qR (Hv2.out _) ?_;go_wp2;go_returns;exact Ret.mk (vi (by rw [HP.out];rfl)) hv
 · skip
   obtain ⟨cb,hcb⟩:=zN (uP 1 n);have HCC:=fun w=>uq 1 n w;rw [<-hcb] at HCC;replace HCC:=qH HCC;have HCB:=qH hcb;clear hcb;go_wp2_with fail;refine qR (HCC.out _) ?_;clear HCC;cases cb
   ·have HP:=qH (tV (.inl HK.out) (by rw [hn.out];intro h2;have h:=HCB.out;rw [h2] at h;exact absurd h (by decide)));clear HCB;go_wp2;go_returns;exact Ret.mk (vi (by rw [HP.out])) hv
   · skip
     have hc:n=2:=by
      have h:=HCB.out;unfold uP at h;rw [if_neg (by omega),if_neg (by omega)] at h;exact of_decide_eq_true h.symm
     clear HCB;subst hc;obtain ⟨t',a,hsh⟩:=tb hn.out;injection hsh with h1 h2;subst h1;subst h2;obtain ⟨ad1,had1,_,c1⟩:=zh (k:=1) hA.out rfl;injection had1 with had1;subst had1;replace c1:=yq c1;have ha:=Nat.le_trans (HPT.out a (by simp)) (by omega:4194304<=9223372036854775807);obtain ⟨v1,hv1⟩:=zN (zo a);have Hv1:=fun w=>xn a ha w;rw [<-hv1] at Hv1;replace Hv1:=qH Hv1;have HP:=qH (show zE [t,a]=if v1=true then 0 else 4 from by simp [zE,HK.out,hv1]);clear hv1 HK;cases v1
     ·go_wp2_with fail;refine qR (Hv1.out _) ?_;go_wp2;go_returns;exact Ret.mk (vi (by rw [HP.out];rfl)) hv
     ·go_wp2_with fail;refine qR (Hv1.out _) ?_;go_wp2;go_returns;exact Ret.mk (vi (by rw [HP.out];rfl)) hv
 · skip
   obtain ⟨cb,hcb⟩:=zN (uP 2 n);have HCC:=fun w=>uq 2 n w;rw [<-hcb] at HCC;replace HCC:=qH HCC;have HCB:=qH hcb;clear hcb;go_wp2_with fail;refine qR (HCC.out _) ?_;clear HCC;cases cb
   ·have HP:=qH (sY (.inr HK.out) (by rw [hn.out];intro h2;have h:=HCB.out;rw [h2] at h;exact absurd h (by decide)));clear HCB;go_wp2;go_returns;exact Ret.mk (vi (by rw [HP.out])) hv
   · skip
     have hc:n=3:=by
      have h:=HCB.out;unfold uP at h;rw [if_pos (by omega)] at h;exact of_decide_eq_true h.symm
     clear HCB;subst hc;obtain ⟨t',a,b,hsh⟩:=ta hn.out;injection hsh with h1 h2;subst h1;subst h2;obtain ⟨ad1,had1,_,c1⟩:=zh (k:=1) hA.out rfl;injection had1 with had1;subst had1;replace c1:=yq c1;have ha:=Nat.le_trans (HPT.out a (by simp)) (by omega:4194304<=9223372036854775807);obtain ⟨ad2,had2,_,c2⟩:=zh (k:=2) hA.out rfl;injection had2 with had2;subst had2;replace c2:=yq c2;have hb2:=Nat.le_trans (HPT.out b (by simp)) (by omega:4194304<=9223372036854775807);obtain ⟨v1,hv1⟩:=zN (zo a);have Hv1:=fun w=>xn a ha w;rw [<-hv1] at Hv1;replace Hv1:=qH Hv1;obtain ⟨v2,hv2⟩:=zN (xq b 10 300);have Hv2:=fun w=>uH b hb2 10 300 w;rw [<-hv2] at Hv2;replace Hv2:=qH Hv2;have HP:=qH (show zE [t,a,b]=if v1=true then (if v2=true then 0 else 3) else 4 from by simp [zE,HK.out,hv1,hv2]);clear hv1 hv2 HK;cases v1
     ·go_wp2_with fail;refine qR (Hv1.out _) ?_;go_wp2;go_returns;exact Ret.mk (vi (by rw [HP.out];rfl)) hv
     · skip
       go_wp2_with fail;refine qR (Hv1.out _) ?_;go_wp2_with fail;refine qS (Hv2.out _) fun W3 hb3=>?_;replace hv:=za hv hb3;clear hb3;cases v2
       ·go_wp2;go_returns;exact Ret.mk (vi (by rw [HP.out];rfl)) hv
       ·go_wp2;go_returns;exact Ret.mk (vi (by rw [HP.out];rfl)) hv
 · skip
   obtain ⟨cb,hcb⟩:=zN (uP 3 n);have HCC:=fun w=>uq 3 n w;rw [<-hcb] at HCC;replace HCC:=qH HCC;have HCB:=qH hcb;clear hcb;go_wp2_with fail;refine qR (HCC.out _) ?_;clear HCC;cases cb
   ·have HP:=qH (tV (.inr (.inl HK.out)) (by rw [hn.out];intro h2;have h:=HCB.out;rw [h2] at h;exact absurd h (by decide)));clear HCB;go_wp2;go_returns;exact Ret.mk (vi (by rw [HP.out])) hv
   · skip
     have hc:n=2:=by
      have h:=HCB.out;unfold uP at h;rw [if_neg (by omega),if_neg (by omega)] at h;exact of_decide_eq_true h.symm
     clear HCB;subst hc;obtain ⟨t',a,hsh⟩:=tb hn.out;injection hsh with h1 h2;subst h1;subst h2;obtain ⟨ad1,had1,_,c1⟩:=zh (k:=1) hA.out rfl;injection had1 with had1;subst had1;replace c1:=yq c1;have ha:=Nat.le_trans (HPT.out a (by simp)) (by omega:4194304<=9223372036854775807);obtain ⟨v1,hv1⟩:=zN (xq a 0 1200);have Hv1:=fun w=>uH a ha 0 1200 w;rw [<-hv1] at Hv1;replace Hv1:=qH Hv1;have HP:=qH (show zE [t,a]=if v1=true then 0 else 3 from by simp [zE,HK.out,hv1]);clear hv1 HK;go_wp2_with fail;refine qS (Hv1.out _) fun W3 hb3=>?_;replace hv:=za hv hb3;clear hb3;cases v1
     ·go_wp2;go_returns;exact Ret.mk (vi (by rw [HP.out];rfl)) hv
     ·go_wp2;go_returns;exact Ret.mk (vi (by rw [HP.out];rfl)) hv
 · skip
   obtain ⟨cb,hcb⟩:=zN (uP 4 n);have HCC:=fun w=>uq 4 n w;rw [<-hcb] at HCC;replace HCC:=qH HCC;have HCB:=qH hcb;clear hcb;go_wp2_with fail;refine qR (HCC.out _) ?_;clear HCC;cases cb
   ·have HP:=qH (tV (.inr (.inr HK.out)) (by rw [hn.out];intro h2;have h:=HCB.out;rw [h2] at h;exact absurd h (by decide)));clear HCB;go_wp2;go_returns;exact Ret.mk (vi (by rw [HP.out])) hv
   · skip
     have hc:n=2:=by
      have h:=HCB.out;unfold uP at h;rw [if_neg (by omega),if_neg (by omega)] at h;exact of_decide_eq_true h.symm
     clear HCB;subst hc;obtain ⟨t',a,hsh⟩:=tb hn.out;injection hsh with h1 h2;subst h1;subst h2;obtain ⟨ad1,had1,_,c1⟩:=zh (k:=1) hA.out rfl;injection had1 with had1;subst had1;replace c1:=yq c1;have ha:=Nat.le_trans (HPT.out a (by simp)) (by omega:4194304<=9223372036854775807);obtain ⟨v1,hv1⟩:=zN (xq a 1 12);have Hv1:=fun w=>uH a ha 1 12 w;rw [<-hv1] at Hv1;replace Hv1:=qH Hv1;have HP:=qH (show zE [t,a]=if v1=true then 0 else 3 from by simp [zE,HK.out,hv1]);clear hv1 HK;go_wp2_with fail;refine qS (Hv1.out _) fun W3 hb3=>?_;replace hv:=za hv hb3;clear hb3;cases v1
     ·go_wp2;go_returns;exact Ret.mk (vi (by rw [HP.out];rfl)) hv
     ·go_wp2;go_returns;exact Ret.mk (vi (by rw [HP.out];rfl)) hv
 · skip
   obtain ⟨cb,hcb⟩:=zN (uP 5 n);have HCC:=fun w=>uq 5 n w;rw [<-hcb] at HCC;replace HCC:=qH HCC;have HCB:=qH hcb;clear hcb;go_wp2_with fail;refine qR (HCC.out _) ?_;clear HCC;cases cb
   ·have HP:=qH (lQ HK.out (by rw [hn.out];intro h2;have h:=HCB.out;rw [h2] at h;exact absurd h (by decide)) (by rw [hn.out];intro h3;have h:=HCB.out;rw [h3] at h;exact absurd h (by decide)));clear HCB;go_wp2;go_returns;exact Ret.mk (vi (by rw [HP.out])) hv
   · skip
     have hc:n=2\/n=3:=by
      have h:=HCB.out;unfold uP at h;rw [if_neg (by omega),if_pos rfl] at h;by_cases h2:n=2
      ·exact .inl h2
      ·rw [decide_eq_false h2,Bool.false_or] at h;exact .inr (of_decide_eq_true h.symm)
     clear HCB;rcases hc with rfl | rfl
     · skip
       obtain ⟨t',a,hsh⟩:=tb hn.out;injection hsh with h1 h2;subst h1;subst h2;obtain ⟨ad1,had1,_,c1⟩:=zh (k:=1) hA.out rfl;injection had1 with had1;subst had1;replace c1:=yq c1;have ha:=Nat.le_trans (HPT.out a (by simp)) (by omega:4194304<=9223372036854775807);obtain ⟨v1,hv1⟩:=zN (xq a 10 80);have Hv1:=fun w=>uH a ha 10 80 w;rw [<-hv1] at Hv1;replace Hv1:=qH Hv1;have HP:=qH (show zE [t,a]=if v1=true then 0 else 3 from by simp [zE,HK.out,hv1]);clear hv1 HK;go_wp2_with fail;refine qS (Hv1.out _) fun W3 hb3=>?_;replace hv:=za hv hb3;clear hb3;cases v1
       ·go_wp2;go_returns;exact Ret.mk (vi (by rw [HP.out];rfl)) hv
       ·go_wp2;go_returns;exact Ret.mk (vi (by rw [HP.out];rfl)) hv
     · skip
       obtain ⟨t',a,b,hsh⟩:=ta hn.out;injection hsh with h1 h2;subst h1;subst h2;obtain ⟨ad1,had1,_,c1⟩:=zh (k:=1) hA.out rfl;injection had1 with had1;subst had1;replace c1:=yq c1;have ha:=Nat.le_trans (HPT.out a (by simp)) (by omega:4194304<=9223372036854775807);obtain ⟨ad2,had2,_,c2⟩:=zh (k:=2) hA.out rfl;injection had2 with had2;subst had2;replace c2:=yq c2;have hb2:=Nat.le_trans (HPT.out b (by simp)) (by omega:4194304<=9223372036854775807);obtain ⟨v1,hv1⟩:=zN (xq a 10 80);have Hv1:=fun w=>uH a ha 10 80 w;rw [<-hv1] at Hv1;replace Hv1:=qH Hv1;obtain ⟨v2,hv2⟩:=zN (decide (b=wDouble));have q7:(b.toList == [100,111,117,98,108,101])=v2:=by rw [hv2,<-yD,show wDouble.toList=[100,111,117,98,108,101] from by simp [wDouble]]
       have HP:=qH (show zE [t,a,b]=if (v1 && v2)=true then 0 else 3 from by simp [zE,HK.out,hv1,hv2]);clear hv1 hv2 HK;go_wp2_with fail;refine qS (Hv1.out _) fun W3 hb3=>?_;replace hv:=za hv hb3;replace c2:=zb hb3 c2;clear hb3;cases v1
       ·go_wp2;go_returns;exact Ret.mk (vi (by rw [HP.out];rfl)) hv
       · skip
         cases v2
         ·go_wp2;go_returns;exact Ret.mk (vi (by rw [HP.out];rfl)) hv
         ·go_wp2;go_returns;exact Ret.mk (vi (by rw [HP.out];rfl)) hv
theorem rh(x:Style)(hs:Hid (x.u.size<=4194304/\x.c.size<=4194304/\x.l.size<=4194304/\x.s.size<=4194304))(w:World):Calls prog 62 #[.agg #[.string x.u,.string x.c,.string x.l,.string x.s,.int .i64 x.t,.int .i64 x.h,.int .i64 x.e,.int .i64 x.d,.bool x.q]] w (Ret (.bool (yZ x)) w):=by
 obtain ⟨u,co,li,so,th,he,ey,de,db⟩:=x;dsimp only at hs |-;obtain ⟨z1,z2,z3,z4⟩:=hs.out;have H1:=fun w=>xC u (by omega) w;have H2:=fun w=>xC co (by omega) w;have H3:=fun w=>xC li (by omega) w;have H4:=fun w=>xC so (by omega) w;have H5:=fun w=>xv th 10 300 w;have H6:=fun w=>xv he 0 1200 w;have H7:=fun w=>xv ey 0 12 w;have H8:=fun w=>xv de 10 80 w;have hE:=wm li;have hP:yZ ⟨u,co,li,so,th,he,ey,de,db⟩=(zo u && zo co && (decide (li.size=0) || zo li) && zo so && inB th 10 300 && inB he 0 1200 && inB ey 0 12 && (decide (de=0) && !db || inB de 10 80)):=rfl;obtain ⟨b1,e1⟩:=zN (zo u);obtain ⟨b2,e2⟩:=zN (zo co);obtain ⟨b3,e3⟩:=zN (zo li);obtain ⟨b4,e4⟩:=zN (zo so);obtain ⟨b5,e5⟩:=zN (inB th 10 300);obtain ⟨b6,e6⟩:=zN (inB he 0 1200);obtain ⟨b7,e7⟩:=zN (inB ey 0 12);obtain ⟨b8,e8⟩:=zN (inB de 10 80);obtain ⟨q3,f3⟩:=zN (decide (li.size=0));obtain ⟨q8,f8⟩:=zN (decide (de=0));have hD:(de == 0)=q8:=by rw [f8];rfl
 rw [<-e1] at H1 hP;rw [<-e2] at H2 hP;rw [<-e3] at H3 hP;rw [<-e4] at H4 hP;rw [<-e5] at H5 hP;rw [<-e6] at H6 hP;rw [<-e7] at H7 hP;rw [<-e8] at H8 hP;rw [<-f3] at hE hP;rw [<-f8] at hP;replace H1:=qH H1;replace H2:=qH H2;replace H3:=qH H3;replace H4:=qH H4;replace H5:=qH H5;replace H6:=qH H6;replace H7:=qH H7;replace H8:=qH H8;have HP:=qH hP;clear hP e1 e2 e3 e4 e5 e6 e7 e8 f3 f8 z1 z2 z3 z4 hs;obtain ⟨W,hW⟩:=zN (w.alloc (Obj.cells #[.string u,.string co,.string li,.string so,.int .i64 th,.int .i64 he,.int .i64 ey,.int .i64 de,.bool db] 30));obtain ⟨g,hg⟩:=zN w.heap.size;have hv:Below w.heap.size w W:=by rw [hW];exact zc (Below.refl _ _) _
 have hB:Blk W g 30 #[.string u,.string co,.string li,.string so,.int .i64 th,.int .i64 he,.int .i64 ey,.int .i64 de,.bool db]:=by rw [hW,hg];exact Blk.new _ _ _
 have HW:=qH hW;have HG:=qH hg;clear hW hg;obtain ⟨k0,k1,k2,k3,k4,k5,k6,k7,k8⟩:=qC9 hB;clear hB;go_in;go_upto_region 1 with fail;rw [<-HW.out,<-HG.out];clear HW HG;cases b1
 · skip
   go_wp2_with fail;refine qR (H1.out _) ?_;go_wp2;go_returns;exact Ret.mk (vb (by rw [HP.out];rfl)) hv
 · skip
   cases b2
   · skip
     go_wp2_with fail;refine qR (H1.out _) ?_;go_wp2_with fail;refine qR (H2.out _) ?_;go_wp2;go_returns;exact Ret.mk (vb (by rw [HP.out];rfl)) hv
   · skip
     cases q3
     · skip
       cases b3
       · skip
         go_wp2_with fail;refine qR (H1.out _) ?_;go_wp2_with fail;refine qR (H2.out _) ?_;go_wp2_with fail;refine qR (H3.out _) ?_;go_wp2;go_returns;exact Ret.mk (vb (by rw [HP.out];rfl)) hv
       · skip
         cases b4
         · skip
           go_wp2_with fail;refine qR (H1.out _) ?_;go_wp2_with fail;refine qR (H2.out _) ?_;go_wp2_with fail;refine qR (H3.out _) ?_;go_wp2_with fail;refine qR (H4.out _) ?_;go_wp2;go_returns;exact Ret.mk (vb (by rw [HP.out];rfl)) hv
         · skip
           cases b5
           · skip
             go_wp2_with fail;refine qR (H1.out _) ?_;go_wp2_with fail;refine qR (H2.out _) ?_;go_wp2_with fail;refine qR (H3.out _) ?_;go_wp2_with fail;refine qR (H4.out _) ?_;go_wp2_with fail;refine qR (H5.out _) ?_;go_wp2;go_returns;exact Ret.mk (vb (by rw [HP.out];rfl)) hv
           · skip
             cases b6
             · skip
               go_wp2_with fail;refine qR (H1.out _) ?_;go_wp2_with fail;refine qR (H2.out _) ?_;go_wp2_with fail;refine qR (H3.out _) ?_;go_wp2_with fail;refine qR (H4.out _) ?_;go_wp2_with fail;refine qR (H5.out _) ?_;go_wp2_with fail;refine qR (H6.out _) ?_;go_wp2;go_returns;exact Ret.mk (vb (by rw [HP.out];rfl)) hv
             · skip
               cases b7
               · skip
                 go_wp2_with fail;refine qR (H1.out _) ?_;go_wp2_with fail;refine qR (H2.out _) ?_;go_wp2_with fail;refine qR (H3.out _) ?_;go_wp2_with fail;refine qR (H4.out _) ?_;go_wp2_with fail;refine qR (H5.out _) ?_;go_wp2_with fail;refine qR (H6.out _) ?_;go_wp2_with fail;refine qR (H7.out _) ?_;go_wp2;go_returns;exact Ret.mk (vb (by rw [HP.out];rfl)) hv
               · skip
                 cases q8
                 · skip
                   cases b8
                   · skip
                     go_wp2_with fail;refine qR (H1.out _) ?_;go_wp2_with fail;refine qR (H2.out _) ?_;go_wp2_with fail;refine qR (H3.out _) ?_;go_wp2_with fail;refine qR (H4.out _) ?_;go_wp2_with fail;refine qR (H5.out _) ?_;go_wp2_with fail;refine qR (H6.out _) ?_;go_wp2_with fail;refine qR (H7.out _) ?_;go_wp2_with fail;refine qR (H8.out _) ?_;go_wp2;go_returns;exact Ret.mk (vb (by rw [HP.out];rfl)) hv
                   · skip
                     go_wp2_with fail;refine qR (H1.out _) ?_;go_wp2_with fail;refine qR (H2.out _) ?_;go_wp2_with fail;refine qR (H3.out _) ?_;go_wp2_with fail;refine qR (H4.out _) ?_;go_wp2_with fail;refine qR (H5.out _) ?_;go_wp2_with fail;refine qR (H6.out _) ?_;go_wp2_with fail;refine qR (H7.out _) ?_;go_wp2_with fail;refine qR (H8.out _) ?_;go_wp2;go_returns;exact Ret.mk (vb (by rw [HP.out];rfl)) hv
                 · skip
                   cases db
                   · skip
                     go_wp2_with fail;refine qR (H1.out _) ?_;go_wp2_with fail;refine qR (H2.out _) ?_;go_wp2_with fail;refine qR (H3.out _) ?_;go_wp2_with fail;refine qR (H4.out _) ?_;go_wp2_with fail;refine qR (H5.out _) ?_;go_wp2_with fail;refine qR (H6.out _) ?_;go_wp2_with fail;refine qR (H7.out _) ?_;go_wp2;go_returns;exact Ret.mk (vb (by rw [HP.out];rfl)) hv
                   · skip
                     cases b8
                     · skip
                       go_wp2_with fail;refine qR (H1.out _) ?_;go_wp2_with fail;refine qR (H2.out _) ?_;go_wp2_with fail;refine qR (H3.out _) ?_;go_wp2_with fail;refine qR (H4.out _) ?_;go_wp2_with fail;refine qR (H5.out _) ?_;go_wp2_with fail;refine qR (H6.out _) ?_;go_wp2_with fail;refine qR (H7.out _) ?_;go_wp2_with fail;refine qR (H8.out _) ?_;go_wp2;go_returns;exact Ret.mk (vb (by rw [HP.out];rfl)) hv
                     · skip
                       go_wp2_with fail;refine qR (H1.out _) ?_;go_wp2_with fail;refine qR (H2.out _) ?_;go_wp2_with fail;refine qR (H3.out _) ?_;go_wp2_with fail;refine qR (H4.out _) ?_;go_wp2_with fail;refine qR (H5.out _) ?_;go_wp2_with fail;refine qR (H6.out _) ?_;go_wp2_with fail;refine qR (H7.out _) ?_;go_wp2_with fail;refine qR (H8.out _) ?_;go_wp2;go_returns;exact Ret.mk (vb (by rw [HP.out];rfl)) hv
     · skip
       cases b4
       · skip
         go_wp2_with fail;refine qR (H1.out _) ?_;go_wp2_with fail;refine qR (H2.out _) ?_;go_wp2_with fail;refine qR (H4.out _) ?_;go_wp2;go_returns;exact Ret.mk (vb (by rw [HP.out];rfl)) hv
       · skip
         cases b5
         · skip
           go_wp2_with fail;refine qR (H1.out _) ?_;go_wp2_with fail;refine qR (H2.out _) ?_;go_wp2_with fail;refine qR (H4.out _) ?_;go_wp2_with fail;refine qR (H5.out _) ?_;go_wp2;go_returns;exact Ret.mk (vb (by rw [HP.out];rfl)) hv
         · skip
           cases b6
           · skip
             go_wp2_with fail;refine qR (H1.out _) ?_;go_wp2_with fail;refine qR (H2.out _) ?_;go_wp2_with fail;refine qR (H4.out _) ?_;go_wp2_with fail;refine qR (H5.out _) ?_;go_wp2_with fail;refine qR (H6.out _) ?_;go_wp2;go_returns;exact Ret.mk (vb (by rw [HP.out];rfl)) hv
           · skip
             cases b7
             · skip
               go_wp2_with fail;refine qR (H1.out _) ?_;go_wp2_with fail;refine qR (H2.out _) ?_;go_wp2_with fail;refine qR (H4.out _) ?_;go_wp2_with fail;refine qR (H5.out _) ?_;go_wp2_with fail;refine qR (H6.out _) ?_;go_wp2_with fail;refine qR (H7.out _) ?_;go_wp2;go_returns;exact Ret.mk (vb (by rw [HP.out];rfl)) hv
             · skip
               cases q8
               · skip
                 cases b8
                 · skip
                   go_wp2_with fail;refine qR (H1.out _) ?_;go_wp2_with fail;refine qR (H2.out _) ?_;go_wp2_with fail;refine qR (H4.out _) ?_;go_wp2_with fail;refine qR (H5.out _) ?_;go_wp2_with fail;refine qR (H6.out _) ?_;go_wp2_with fail;refine qR (H7.out _) ?_;go_wp2_with fail;refine qR (H8.out _) ?_;go_wp2;go_returns;exact Ret.mk (vb (by rw [HP.out];rfl)) hv
                 · skip
                   go_wp2_with fail;refine qR (H1.out _) ?_;go_wp2_with fail;refine qR (H2.out _) ?_;go_wp2_with fail;refine qR (H4.out _) ?_;go_wp2_with fail;refine qR (H5.out _) ?_;go_wp2_with fail;refine qR (H6.out _) ?_;go_wp2_with fail;refine qR (H7.out _) ?_;go_wp2_with fail;refine qR (H8.out _) ?_;go_wp2;go_returns;exact Ret.mk (vb (by rw [HP.out];rfl)) hv
               · skip
                 cases db
                 · skip
                   go_wp2_with fail;refine qR (H1.out _) ?_;go_wp2_with fail;refine qR (H2.out _) ?_;go_wp2_with fail;refine qR (H4.out _) ?_;go_wp2_with fail;refine qR (H5.out _) ?_;go_wp2_with fail;refine qR (H6.out _) ?_;go_wp2_with fail;refine qR (H7.out _) ?_;go_wp2;go_returns;exact Ret.mk (vb (by rw [HP.out];rfl)) hv
                 · skip
                   cases b8
                   · skip
                     go_wp2_with fail;refine qR (H1.out _) ?_;go_wp2_with fail;refine qR (H2.out _) ?_;go_wp2_with fail;refine qR (H4.out _) ?_;go_wp2_with fail;refine qR (H5.out _) ?_;go_wp2_with fail;refine qR (H6.out _) ?_;go_wp2_with fail;refine qR (H7.out _) ?_;go_wp2_with fail;refine qR (H8.out _) ?_;go_wp2;go_returns;exact Ret.mk (vb (by rw [HP.out];rfl)) hv
                   · skip
                     go_wp2_with fail;refine qR (H1.out _) ?_;go_wp2_with fail;refine qR (H2.out _) ?_;go_wp2_with fail;refine qR (H4.out _) ?_;go_wp2_with fail;refine qR (H5.out _) ?_;go_wp2_with fail;refine qR (H6.out _) ?_;go_wp2_with fail;refine qR (H7.out _) ?_;go_wp2_with fail;refine qR (H8.out _) ?_;go_wp2;go_returns;exact Ret.mk (vb (by rw [HP.out];rfl)) hv
end Go.Proofs.YtpiehlfffjhoaaaGreatDoor
