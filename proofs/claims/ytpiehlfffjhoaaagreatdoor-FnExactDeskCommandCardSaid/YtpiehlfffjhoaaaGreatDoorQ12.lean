/- Lemmas for the law on the console: the parts StyB,StyS. -/
import Derived.Test.YtpiehlfffjhoaaaGreatDoorQ11
namespace Go.Proofs.YtpiehlfffjhoaaaGreatDoor
open Go.RowKit Go.Proofs.Tryz
set_option maxRecDepth 100000
set_option maxHeartbeats 8000000
theorem aI(c:UInt8):∀ l p:List UInt8,p ∈ spl c l->p.length<=l.length:=by
 intro l
 induction l with
 | nil=>intro p h;simp only [spl,List.mem_singleton] at h;subst h;simp
 | cons b l ih=>
   intro p h;simp only [spl] at h;split at h
   · rcases List.mem_cons.1 h with rfl | h
     ·simp
     ·have:=ih p h;simp only [List.length_cons];omega
   · cases hs:spl c l with
     | nil=>exact absurd hs (uk c l)
     | cons x r=>
       rw [hs] at h ih;simp only [wL,List.mem_cons] at h;rcases h with rfl | h
       ·have:=ih x (by simp);simp only [List.cons_append,List.nil_append,List.length_cons];omega
       ·have:=ih p (by simp [h]);simp only [List.length_cons];omega
theorem wU{c:UInt8}{s x:ByteArray}(h:x ∈ zl c s):x.size<=s.size:=by
 unfold zl at h;obtain ⟨l,hl,rfl⟩:=List.mem_map.1 h;have h1:=aI c _ _ hl;rw [zu] at h1;rw [show (ByteArray.mk l.toArray).size=l.length from by simp only [ByteArray.size,List.size_toArray]];exact h1
theorem sA{s x:ByteArray}(h:x ∈ zP s):x.size<=s.size:=wU (List.mem_filter.1 h).1
theorem tb{α:Type}{l:List α}(h:l.length=2):∃ a b,l=[a,b]:=by
 rcases l with _ | ⟨a,_ | ⟨b,_ | ⟨c,l⟩⟩⟩ <;> simp at h;exact ⟨a,b,rfl⟩
theorem ta{α:Type}{l:List α}(h:l.length=3):∃ a b c,l=[a,b,c]:=by
 rcases l with _ | ⟨a,_ | ⟨b,_ | ⟨c,_ | ⟨d,l⟩⟩⟩⟩ <;> simp at h;exact ⟨a,b,c,rfl⟩
theorem sY{t:ByteArray}{r:List ByteArray}(hk:yg t=0\/yg t=2)(h:(t :: r).length≠3):zE (t :: r)=2:=by
 rcases hk with hk | hk <;> rcases r with _ | ⟨a,_ | ⟨b,_ | ⟨c,r⟩⟩⟩ <;> simp [zE,hk] at h |-
theorem tV{t:ByteArray}{r:List ByteArray}(hk:yg t=1\/yg t=3\/yg t=4)(h:(t :: r).length≠2):zE (t :: r)=2:=by
 rcases hk with hk | hk | hk <;> rcases r with _ | ⟨a,_ | ⟨b,r⟩⟩ <;> simp [zE,hk] at h |-
theorem lQ{t:ByteArray}{r:List ByteArray}(hk:yg t=5)(h:(t :: r).length≠2)(h3:(t :: r).length≠3):zE (t :: r)=2:=by
 rcases r with _ | ⟨a,_ | ⟨b,_ | ⟨c,r⟩⟩⟩ <;> simp [zE,hk] at h h3 |-
theorem jT{l:List ByteArray}(h:yg (l.headD ⟨#[]⟩) < 0):zE l=1:=by
 cases l with
 | nil=>rfl
 | cons t r=>
   rcases vq t with ⟨_,hk⟩ | ⟨_,hk⟩ | ⟨_,hk⟩ | ⟨_,hk⟩ | ⟨_,hk⟩ | ⟨_,hk⟩ | ⟨_,hk⟩ <;> simp only [List.headD_cons,hk] at h
   all_goals first | (simp [zE,hk];done) | omega
theorem rG(s:ByteArray)(hs:s.size<=4194304)(w:World)(hT:Tabs w):Calls prog 143 #[.string s] w (Ret (.int .i64 (zE (zP s))) w):=by
 have HT:=qH hT;clear hT;have hle:=qs s;have HPT:=qH (fun x (hx:x ∈ zP s)=>Nat.le_trans (sA hx) hs);have HSW:=fun w h=>kq s hs w h;have HCW:=fun w h=>pH s hs w h;unfold hdW at HCW;unfold kF at HSW;obtain ⟨WS,hWS⟩:=zN (zP s);rw [<-hWS] at HSW HCW hle HPT |-;obtain ⟨t,ht⟩:=zN (WS.headD ⟨#[]⟩);rw [<-ht] at HCW;replace HSW:=qH HSW;replace HCW:=qH HCW;have HTT:=qH ht;clear hWS ht;go_in;go_wp2_with fail;refine (HSW.out _ HT.out).mono ?_;rintro e W ⟨A,n,c,rfl,hn',hA',hv⟩;have hn:=qH hn';have hA:=qH hA';clear hn' hA' HSW;go_wp2_with fail;refine qS (pB _) fun W1 hq=>?_;obtain ⟨g,hg⟩:=zN W.heap.size;have hC:Hid (Blk W1 g 9 (styW.map Value.string).toArray):=qH (by rw [hq,hg];exact Blk.new _ _ _);have hb:Below W.heap.size W W1:=by rw [hq];exact zc (Below.refl _ _) _
 rw [<-hg];clear hq hg;replace hv:=za hv hb;replace hA:=qH (hA.out.below hb);clear hb;go_wp2_with fail;refine qS (HCW.out _ (HT.out.below hv)) fun W2 hb=>?_;replace hv:=za hv hb;replace hA:=qH (hA.out.below hb);have hC2:=qH (hC.out.below hb);clear hb hC HCW;go_wp2_with fail;refine (ks g t W2 (fun j hj=>by
  rw [hC2.out.cell j];rcases j with _ | _ | _ | _ | _ | _ | j <;> first | rfl | omega)).mono ?_
 rintro e w' ⟨rfl,hq⟩;rw [hq];clear hq w' hC2;by_cases hk0:yg t < 0
 ·have hd:decide (0<=yg t)=false:=decide_eq_false (by omega);have HP:=qH (jT (l:=WS) (by rw [<-HTT.out];exact hk0));rw [hd];clear hd;go_wp2;go_returns;exact Ret.mk (vi (by rw [HP.out])) hv
 have hd:decide (0<=yg t)=true:=decide_eq_true (by omega);rw [hd];clear hd;obtain ⟨r,hr⟩:∃ r,WS=t :: r:=by
  have h:=HTT.out;cases WS with
  | nil=>rw [List.headD_nil] at h;rw [h] at hk0;exact absurd (show yg ⟨#[]⟩ < 0 by decide) hk0
  | cons a r=>rw [List.headD_cons] at h;subst h;exact ⟨r,rfl⟩
 subst hr;obtain ⟨ad,had,_,c0⟩:=zh (k:=0) hA.out rfl;subst had;replace c0:W2.cell? ad=some (.string t):=c0;have hn0:0 < n:=by have:=hn.out;rw [List.length_cons] at this;omega
 have hn1:(0:Int) < (n:Int):=by omega
 clear HTT;obtain ⟨k,hk⟩:=zN (yg t);obtain ⟨e0,e1,e2,e3,e4,e5⟩:=vM hk.symm;have hkk:k=0\/k=1\/k=2\/k=3\/k=4\/k=5:=by
  rcases vq t with ⟨_,h⟩ | ⟨_,h⟩ | ⟨_,h⟩ | ⟨_,h⟩ | ⟨_,h⟩ | ⟨_,h⟩ | ⟨_,h⟩ <;> omega
 clear hk0;have HK:=qH hk.symm;clear hk;rw [show wUpper.toList=[117,112,112,101,114] from by simp [wUpper]] at e0;rw [show wLining.toList=[108,105,110,105,110,103] from by simp [wLining]] at e1;rw [show wSole.toList=[115,111,108,101] from by simp [wSole]] at e2;rw [show wHeel.toList=[104,101,101,108] from by simp [wHeel]] at e3;rw [show wEyelets.toList=[101,121,101,108,101,116,115] from by simp [wEyelets]] at e4;rw [show wStitch.toList=[115,116,105,116,99,104] from by simp [wStitch]] at e5;rcases hkk with rfl | rfl | rfl | rfl | rfl | rfl
 · skip
   replace e0:=e0.trans (show decide ((0:Int)=0)=true from by decide);replace e1:=e1.trans (show decide ((0:Int)=1)=false from by decide);replace e2:=e2.trans (show decide ((0:Int)=2)=false from by decide);replace e3:=e3.trans (show decide ((0:Int)=3)=false from by decide);replace e4:=e4.trans (show decide ((0:Int)=4)=false from by decide);replace e5:=e5.trans (show decide ((0:Int)=5)=false from by decide);by_cases hc:n=3
   · subst hc;obtain ⟨t',a,b,hsh⟩:=ta hn.out;injection hsh with h1 h2;subst h1;subst h2;obtain ⟨ad1,had1,_,c1⟩:=zh (k:=1) hA.out rfl;injection had1 with had1;subst had1;replace c1:=yq c1;have ha:=Nat.le_trans (HPT.out a (by simp)) (by omega:4194304<=9223372036854775807);obtain ⟨ad2,had2,_,c2⟩:=zh (k:=2) hA.out rfl;injection had2 with had2;subst had2;replace c2:=yq c2;have hb2:=Nat.le_trans (HPT.out b (by simp)) (by omega:4194304<=9223372036854775807);obtain ⟨v1,hv1⟩:=zN (zo a);have Hv1:=fun w=>xC a ha w;rw [<-hv1] at Hv1;replace Hv1:=qH Hv1;obtain ⟨v2,hv2⟩:=zN (zo b);have Hv2:=fun w=>xC b hb2 w;rw [<-hv2] at Hv2;replace Hv2:=qH Hv2;have HP:=qH (show zE [t,a,b]=if (v1 && v2)=true then 0 else 4 from by simp [zE,HK.out,hv1,hv2]);clear hv1 hv2 HK;cases v1
     ·go_wp2_with fail;refine qR (Hv1.out _) ?_;go_wp2;go_returns;exact Ret.mk (vi (by rw [HP.out];rfl)) hv
     · cases v2
       ·go_wp2_with fail;refine qR (Hv1.out _) ?_;go_wp2_with fail;refine qR (Hv2.out _) ?_;go_wp2;go_returns;exact Ret.mk (vi (by rw [HP.out];rfl)) hv
       ·go_wp2_with fail;refine qR (Hv1.out _) ?_;go_wp2_with fail;refine qR (Hv2.out _) ?_;go_wp2;go_returns;exact Ret.mk (vi (by rw [HP.out];rfl)) hv
   · skip
     have HP:=qH (sY (.inl HK.out) (by rw [hn.out];exact hc));have q3:((n:Int) != 3)=true:=by rw [bne_iff_ne];omega
     go_wp2;go_returns;exact Ret.mk (vi (by rw [HP.out])) hv
 · skip
   replace e0:=e0.trans (show decide ((1:Int)=0)=false from by decide);replace e1:=e1.trans (show decide ((1:Int)=1)=true from by decide);replace e2:=e2.trans (show decide ((1:Int)=2)=false from by decide);replace e3:=e3.trans (show decide ((1:Int)=3)=false from by decide);replace e4:=e4.trans (show decide ((1:Int)=4)=false from by decide);replace e5:=e5.trans (show decide ((1:Int)=5)=false from by decide);by_cases hc:n=2
   · subst hc;obtain ⟨t',a,hsh⟩:=tb hn.out;injection hsh with h1 h2;subst h1;subst h2;obtain ⟨ad1,had1,_,c1⟩:=zh (k:=1) hA.out rfl;injection had1 with had1;subst had1;replace c1:=yq c1;have ha:=Nat.le_trans (HPT.out a (by simp)) (by omega:4194304<=9223372036854775807);obtain ⟨v1,hv1⟩:=zN (zo a);have Hv1:=fun w=>xC a ha w;rw [<-hv1] at Hv1;replace Hv1:=qH Hv1;have HP:=qH (show zE [t,a]=if v1=true then 0 else 4 from by simp [zE,HK.out,hv1]);clear hv1 HK;cases v1
     ·go_wp2_with fail;refine qR (Hv1.out _) ?_;go_wp2;go_returns;exact Ret.mk (vi (by rw [HP.out];rfl)) hv
     ·go_wp2_with fail;refine qR (Hv1.out _) ?_;go_wp2;go_returns;exact Ret.mk (vi (by rw [HP.out];rfl)) hv
   · skip
     have HP:=qH (tV (.inl HK.out) (by rw [hn.out];exact hc));have q3:((n:Int) != 2)=true:=by rw [bne_iff_ne];omega
     go_wp2;go_returns;exact Ret.mk (vi (by rw [HP.out])) hv
 · skip
   replace e0:=e0.trans (show decide ((2:Int)=0)=false from by decide);replace e1:=e1.trans (show decide ((2:Int)=1)=false from by decide);replace e2:=e2.trans (show decide ((2:Int)=2)=true from by decide);replace e3:=e3.trans (show decide ((2:Int)=3)=false from by decide);replace e4:=e4.trans (show decide ((2:Int)=4)=false from by decide);replace e5:=e5.trans (show decide ((2:Int)=5)=false from by decide);by_cases hc:n=3
   · subst hc;obtain ⟨t',a,b,hsh⟩:=ta hn.out;injection hsh with h1 h2;subst h1;subst h2;obtain ⟨ad1,had1,_,c1⟩:=zh (k:=1) hA.out rfl;injection had1 with had1;subst had1;replace c1:=yq c1;have ha:=Nat.le_trans (HPT.out a (by simp)) (by omega:4194304<=9223372036854775807);obtain ⟨ad2,had2,_,c2⟩:=zh (k:=2) hA.out rfl;injection had2 with had2;subst had2;replace c2:=yq c2;have hb2:=Nat.le_trans (HPT.out b (by simp)) (by omega:4194304<=9223372036854775807);obtain ⟨v1,hv1⟩:=zN (zo a);have Hv1:=fun w=>xC a ha w;rw [<-hv1] at Hv1;replace Hv1:=qH Hv1;obtain ⟨v2,hv2⟩:=zN (xq b 10 300);have Hv2:=fun w h=>tz b (HPT.out b (by simp)) 10 300 w h;rw [<-hv2] at Hv2;replace Hv2:=qH Hv2;have HP:=qH (show zE [t,a,b]=if v1=true then (if v2=true then 0 else 3) else 4 from by simp [zE,HK.out,hv1,hv2]);clear hv1 hv2 HK;go_wp2_with fail;have HS:=qH (show (fun w':World=>Below w.heap.size w w'/\w'.cell? ⟨ad.block,ad.off + 1,none⟩=some (.string a)/\w'.cell? ⟨ad.block,ad.off + 2,none⟩=some (.string b)) W2.drew from ⟨hv.drew,zb (Below.refl _ _).drew c1,zb (Below.refl _ _).drew c2⟩);clear hv c1 c2
     go_region_held3 (fun w'=>Below w.heap.size w w'/\w'.cell? ⟨ad.block,ad.off + 1,none⟩=some (.string a)/\w'.cell? ⟨ad.block,ad.off + 2,none⟩=some (.string b))
      (first | exact HS.out | assumption | (go_split_ands;exact ⟨za (by assumption) hb,zb hb (by assumption),zb hb (by assumption)⟩))
      (first | (go_at_call 118;refine (Hv1.out _).mono ?_;rintro e w' ⟨rfl,hq⟩;rw [hq];clear hq w') | (go_at_call 210;go_split_ands;refine (Hv2.out _ (HT.out.below (by assumption))).mono ?_;rintro e W3 ⟨rfl,hb⟩))
     go_split_ands;have hv:=(by assumption:Below w.heap.size w _)
     cases v1
     ·go_wp2;go_returns;exact Ret.mk (vi (by rw [HP.out];rfl)) hv
     cases v2
     ·go_wp2;go_returns;exact Ret.mk (vi (by rw [HP.out];rfl)) hv
     ·go_wp2;go_returns;exact Ret.mk (vi (by rw [HP.out];rfl)) hv
   · skip
     have HP:=qH (sY (.inr HK.out) (by rw [hn.out];exact hc));have q3:((n:Int) != 3)=true:=by rw [bne_iff_ne];omega
     go_wp2;go_returns;exact Ret.mk (vi (by rw [HP.out])) hv
 · skip
   replace e0:=e0.trans (show decide ((3:Int)=0)=false from by decide);replace e1:=e1.trans (show decide ((3:Int)=1)=false from by decide);replace e2:=e2.trans (show decide ((3:Int)=2)=false from by decide);replace e3:=e3.trans (show decide ((3:Int)=3)=true from by decide);replace e4:=e4.trans (show decide ((3:Int)=4)=false from by decide);replace e5:=e5.trans (show decide ((3:Int)=5)=false from by decide);by_cases hc:n=2
   · subst hc;obtain ⟨t',a,hsh⟩:=tb hn.out;injection hsh with h1 h2;subst h1;subst h2;obtain ⟨ad1,had1,_,c1⟩:=zh (k:=1) hA.out rfl;injection had1 with had1;subst had1;replace c1:=yq c1;have ha:=Nat.le_trans (HPT.out a (by simp)) (by omega:4194304<=9223372036854775807);obtain ⟨v1,hv1⟩:=zN (xq a 0 1200);have Hv1:=fun w h=>tz a (HPT.out a (by simp)) 0 1200 w h;rw [<-hv1] at Hv1;replace Hv1:=qH Hv1;have HP:=qH (show zE [t,a]=if v1=true then 0 else 3 from by simp [zE,HK.out,hv1]);clear hv1 HK;go_wp2_with fail;refine qS (Hv1.out _ (HT.out.below hv)) fun W3 hb3=>?_;replace hv:=za hv hb3;clear hb3;cases v1
     ·go_wp2;go_returns;exact Ret.mk (vi (by rw [HP.out];rfl)) hv
     ·go_wp2;go_returns;exact Ret.mk (vi (by rw [HP.out];rfl)) hv
   · skip
     have HP:=qH (tV (.inr (.inl HK.out)) (by rw [hn.out];exact hc));have q3:((n:Int) != 2)=true:=by rw [bne_iff_ne];omega
     go_wp2;go_returns;exact Ret.mk (vi (by rw [HP.out])) hv
 · skip
   replace e0:=e0.trans (show decide ((4:Int)=0)=false from by decide);replace e1:=e1.trans (show decide ((4:Int)=1)=false from by decide);replace e2:=e2.trans (show decide ((4:Int)=2)=false from by decide);replace e3:=e3.trans (show decide ((4:Int)=3)=false from by decide);replace e4:=e4.trans (show decide ((4:Int)=4)=true from by decide);replace e5:=e5.trans (show decide ((4:Int)=5)=false from by decide);by_cases hc:n=2
   · subst hc;obtain ⟨t',a,hsh⟩:=tb hn.out;injection hsh with h1 h2;subst h1;subst h2;obtain ⟨ad1,had1,_,c1⟩:=zh (k:=1) hA.out rfl;injection had1 with had1;subst had1;replace c1:=yq c1;have ha:=Nat.le_trans (HPT.out a (by simp)) (by omega:4194304<=9223372036854775807);obtain ⟨v1,hv1⟩:=zN (xq a 1 12);have Hv1:=fun w h=>tz a (HPT.out a (by simp)) 1 12 w h;rw [<-hv1] at Hv1;replace Hv1:=qH Hv1;have HP:=qH (show zE [t,a]=if v1=true then 0 else 3 from by simp [zE,HK.out,hv1]);clear hv1 HK;go_wp2_with fail;refine qS (Hv1.out _ (HT.out.below hv)) fun W3 hb3=>?_;replace hv:=za hv hb3;clear hb3;cases v1
     ·go_wp2;go_returns;exact Ret.mk (vi (by rw [HP.out];rfl)) hv
     ·go_wp2;go_returns;exact Ret.mk (vi (by rw [HP.out];rfl)) hv
   · skip
     have HP:=qH (tV (.inr (.inr HK.out)) (by rw [hn.out];exact hc));have q3:((n:Int) != 2)=true:=by rw [bne_iff_ne];omega
     go_wp2;go_returns;exact Ret.mk (vi (by rw [HP.out])) hv
 · skip
   replace e0:=e0.trans (show decide ((5:Int)=0)=false from by decide);replace e1:=e1.trans (show decide ((5:Int)=1)=false from by decide);replace e2:=e2.trans (show decide ((5:Int)=2)=false from by decide);replace e3:=e3.trans (show decide ((5:Int)=3)=false from by decide);replace e4:=e4.trans (show decide ((5:Int)=4)=false from by decide);replace e5:=e5.trans (show decide ((5:Int)=5)=true from by decide);by_cases hc2:n=2
   · subst hc2;obtain ⟨t',a,hsh⟩:=tb hn.out;injection hsh with h1 h2;subst h1;subst h2;obtain ⟨ad1,had1,_,c1⟩:=zh (k:=1) hA.out rfl;injection had1 with had1;subst had1;replace c1:=yq c1;have ha:=Nat.le_trans (HPT.out a (by simp)) (by omega:4194304<=9223372036854775807);obtain ⟨v1,hv1⟩:=zN (xq a 10 80);have Hv1:=fun w h=>tz a (HPT.out a (by simp)) 10 80 w h;rw [<-hv1] at Hv1;replace Hv1:=qH Hv1;have HP:=qH (show zE [t,a]=if v1=true then 0 else 3 from by simp [zE,HK.out,hv1]);clear hv1 HK;go_wp2_with fail;refine qS (Hv1.out _ (HT.out.below hv)) fun W3 hb3=>?_;replace hv:=za hv hb3;clear hb3;cases v1
     ·go_wp2;go_returns;exact Ret.mk (vi (by rw [HP.out];rfl)) hv
     ·go_wp2;go_returns;exact Ret.mk (vi (by rw [HP.out];rfl)) hv
   by_cases hc3:n=3
   · subst hc3;obtain ⟨t',a,b,hsh⟩:=ta hn.out;injection hsh with h1 h2;subst h1;subst h2;obtain ⟨ad1,had1,_,c1⟩:=zh (k:=1) hA.out rfl;injection had1 with had1;subst had1;replace c1:=yq c1;have ha:=Nat.le_trans (HPT.out a (by simp)) (by omega:4194304<=9223372036854775807);obtain ⟨ad2,had2,_,c2⟩:=zh (k:=2) hA.out rfl;injection had2 with had2;subst had2;replace c2:=yq c2;have hb2:=Nat.le_trans (HPT.out b (by simp)) (by omega:4194304<=9223372036854775807);obtain ⟨v1,hv1⟩:=zN (xq a 10 80);have Hv1:=fun w h=>tz a (HPT.out a (by simp)) 10 80 w h;rw [<-hv1] at Hv1;replace Hv1:=qH Hv1;obtain ⟨v2,hv2⟩:=zN (decide (b=wDouble));have q7:(b.toList == [100,111,117,98,108,101])=v2:=by rw [hv2,<-yD,show wDouble.toList=[100,111,117,98,108,101] from by simp [wDouble]]
     have HP:=qH (show zE [t,a,b]=if (v1 && v2)=true then 0 else 3 from by simp [zE,HK.out,hv1,hv2]);clear hv1 hv2 HK;go_wp2_with fail;refine qS (Hv1.out _ (HT.out.below hv)) fun W3 hb3=>?_;replace hv:=za hv hb3;replace c2:=zb hb3 c2;clear hb3;cases v1
     ·go_wp2;go_returns;exact Ret.mk (vi (by rw [HP.out];rfl)) hv
     · cases v2
       ·go_wp2;go_returns;exact Ret.mk (vi (by rw [HP.out];rfl)) hv
       ·go_wp2;go_returns;exact Ret.mk (vi (by rw [HP.out];rfl)) hv
   · skip
     have HP:=qH (lQ HK.out (by rw [hn.out];exact hc2) (by rw [hn.out];exact hc3));have q3:((n:Int) == 3)=false:=by rw [beq_eq_false_iff_ne];omega
     have q2:((n:Int) != 2)=true:=by rw [bne_iff_ne];omega
     go_wp2;go_returns;exact Ret.mk (vi (by rw [HP.out])) hv
theorem zaW:(prog.info? 9).map (fun i=>(i.zero,i.size,i.bytes))=some (some (.string ByteArray.empty),1,16):=by kernel_rfl
def oE(l:List ByteArray):List ByteArray:=l.filter fun t=>decide (0 < t.size)
theorem df{L:List ByteArray}{k:Nat}{x:ByteArray}(h:L[k]?=some x):oE (L.take (k + 1))=oE (L.take k) ++ (if 0 < x.size then [x] else []):=by
 unfold oE;rw [yJ h,List.filter_append];by_cases h0:0 < x.size
 ·rw [if_pos h0,List.filter_cons_of_pos (by simp only [decide_eq_true_eq];exact h0)];rfl
 ·rw [if_neg h0,List.filter_cons_of_neg (by simp only [decide_eq_true_eq];exact h0)];rfl
def zbT(s:ByteArray)(w:World)(e:Ending)(w':World):Prop:=∃ A n c,e=.returned (.slice A n c)/\(zP s).length=n/\Arr w' A (zd zt (zP s))/\(∀ ad,A=some ad->w.heap.size<=ad.block)/\Below w.heap.size w w'
theorem tN(s:ByteArray)(hs:s.size<=4194304)(w:World):Calls prog 152 #[.string s] w (zbT s w):=by
 obtain ⟨i0,hi0,hz0,hz1,hz2⟩:=info_parts (P:=prog) (e:=9) (z:=.string ByteArray.empty) (size:=1) (bytes:=16) zaW;have HSP:=fun w=>vx 32 s hs w;have hle:=qn 32 s;have hF:oE (zl 32 s)=zP s:=rfl;obtain ⟨L,hL⟩:=zN (zl 32 s);obtain ⟨n,hn'⟩:∃ z,z=L.length:=⟨_,rfl⟩
 unfold rf at HSP;rw [<-hL,<-hn',<-xo] at HSP;rw [<-hL] at hF hle;rw [<-hn'] at hle;have hn:=qH hn'.symm;replace HSP:=qH HSP;have HF:=qH hF;clear hL hF hn';go_in;go_wp2_with fail;refine (HSP.out _).mono ?_;rintro e W ⟨A,c,rfl,ho,hv⟩;have hA:=Arr.own ho;clear ho;go_wp2_with fail;have hW0:=hv.size;have hown:=zI W W.heap.size 9 1 (Nat.le_refl _);have hb0:=zc (Below.refl W.heap.size W) (Obj.cells #[] 9)
 go_loopw [4,5] (fun o i wr=>∃ (k m:Nat) (A':Option Addr) (c':Nat),k<=n/\m<=k/\i=.int .i64 k/\o=.slice A' m c'/\Hid ((oE (L.take k)).length=m)/\wr.ownsRow W.heap.size 9 1 (.slice A' m c') m ((oE (L.take k)).map Value.string)/\Below W.heap.size W wr) (fun _ i _=>n - (intOf i).toNat)
 case atStart=>exact ⟨0,0,_,_,by omega,by omega,rfl,rfl,qH rfl,hown,hb0⟩
 case round=>
  clear hown hb0;obtain ⟨k,m,A',c',hk,hmk,rfl,rfl,hm,hown,hb⟩:=hrel;by_cases hlt:k < n
  · obtain ⟨x,hx⟩:=zx (xs:=L) (k:=k) (by rw [hn.out];exact hlt);obtain ⟨ad,had,_,c0⟩:=zh (hA.below hb) hx;subst had;have hS:=df hx;have hk0:(0:Int)<=(k:Int):=by omega
    have hk1:(k:Int) < (n:Int):=by omega
    by_cases h0:x.size=0
    · have he:x.toList.isEmpty=true:=by rw [wm];exact decide_eq_true h0
      rw [if_neg (by omega),List.append_nil] at hS;have HS:=qH hS;clear hS hx h0;go_wp2_with fail;exact ⟨⟨k + 1,m,A',c',by omega,by omega,by go_num,rfl,by rw [HS.out];exact hm,by rw [HS.out];exact hown,hb⟩,by simp [intOf];omega⟩
    · have he:x.toList.isEmpty=false:=by rw [wm];exact decide_eq_false h0
      rw [if_pos (by omega)] at hS;have HS:=qH hS;clear hS hx h0;go_wp2_with (at_builtin;refine xI _ _ rfl _ _ 24 9 rfl i0 _ 1 16 underlying24 hi0 hz0 hz1 hz2 rfl (by omega) _ (.slice A' m c') m _ rfl rfl hown rfl (by simp [Value.oneCell']) (by unfold maxLen;omega) (by omega) hb.size ?_;intro A2 c2 w2 hown2 hg2)
      refine ⟨⟨k + 1,m + 1,A2,c2,by omega,by omega,by go_num,rfl,?_,?_,zi hb hg2 (zn hown)⟩,by simp [intOf];omega⟩
      ·rw [HS.out];exact qH (by rw [List.length_append,hm.out];rfl)
      ·rw [HS.out,List.map_append];exact hown2
  · have hkn:k=n:=by omega
    have hT:L.take k=L:=List.take_of_length_le (by rw [hn.out];omega);rw [hT,HF.out] at hm hown;have HO:=qH hown;clear hown hT;go_wp2;go_returns;exact ⟨A',m,c',rfl,hm.out,by rw [xo];exact Arr.own HO.out,fun ad e=>by subst e;have:=zn HO.out ad.block (by simp [Value.ownBlock]);omega,za hv hb⟩
theorem kp(s:ByteArray)(hs:s.size<=4194304)(w:World):Calls prog 152 #[.string s] w (kF s w):=
 (tN s hs w).mono fun _ _ ⟨A,n,c,he,hn,hA,_,hb⟩=>⟨A,n,c,he,hn,hA,hb⟩
theorem pu(w:World):Calls prog 262 #[] w fun e w'=>e=.returned (.slice (some ⟨w.heap.size,0,none⟩) 6 6)/\w'=w.alloc (.cells (styW.map Value.string).toArray 9):=by
 go_in;go_wp2;go_returns;exact ⟨rfl,rfl⟩
theorem aN{t u:ByteArray}{k:Nat}(h:styW[k]?=some u):(u=t ↔ yg t=k):=by
 have hk:k < 6:=(List.getElem?_eq_some_iff.1 h).1;have hd:wUpper≠wLining/\wUpper≠wSole/\wUpper≠wHeel/\wUpper≠wEyelets/\wUpper≠wStitch/\wLining≠wSole/\wLining≠wHeel/\wLining≠wEyelets/\wLining≠wStitch/\wSole≠wHeel/\wSole≠wEyelets/\wSole≠wStitch/\wHeel≠wEyelets/\wHeel≠wStitch/\wEyelets≠wStitch:=by decide
 constructor
 ·rintro rfl;rcases k with _ | _ | _ | _ | _ | _ | k <;> first | omega | (simp only [styW,List.getElem?_cons_zero,List.getElem?_cons_succ,Option.some.injEq] at h;subst h;decide)
 · intro e;rcases vq t with ⟨rfl,hk'⟩ | ⟨rfl,hk'⟩ | ⟨rfl,hk'⟩ | ⟨rfl,hk'⟩ | ⟨rfl,hk'⟩ | ⟨rfl,hk'⟩ | ⟨_,hk'⟩ <;> rw [hk'] at e
   all_goals first | omega | skip
   · obtain rfl:k=0:=by omega
     simpa [styW] using h.symm
   · obtain rfl:k=1:=by omega
     simpa [styW] using h.symm
   · obtain rfl:k=2:=by omega
     simpa [styW] using h.symm
   · obtain rfl:k=3:=by omega
     simpa [styW] using h.symm
   · obtain rfl:k=4:=by omega
     simpa [styW] using h.symm
   · obtain rfl:k=5:=by omega
     simpa [styW] using h.symm
theorem fN(t:ByteArray):-1<=yg t/\yg t<=5:=by
 rcases vq t with ⟨_,hk⟩ | ⟨_,hk⟩ | ⟨_,hk⟩ | ⟨_,hk⟩ | ⟨_,hk⟩ | ⟨_,hk⟩ | ⟨_,hk⟩ <;> omega
theorem vr(t:ByteArray)(w:World):Calls prog 214 #[.string t] w (Ret (.int .i64 (yg t)) w):=by
 go_in;go_wp2_with fail;refine qS (pu _) fun W hq=>?_;obtain ⟨g,hg⟩:=zN w.heap.size;have hA:Arr W (some ⟨g,0,none⟩) (zd zt styW):=by
  have h:=World.ownsRow_lit (base:=w.heap.size) (e:=9) (size:=1) w (styW.map Value.string).toArray 6 (Nat.le_refl _) (by unfold maxLen;omega) (by rfl);rw [xo,hq,hg];exact Arr.own h
 have hv:Below w.heap.size w W:=by rw [hq];exact zc (Below.refl _ _) _
 rw [<-hg];clear hq hg;obtain ⟨kk,hkk⟩:=zN (yg t);have hbd:=fN t;rw [<-hkk] at hbd |-;have HK:=qH hkk.symm;clear hkk;go_wp2_with fail
 go_loopw [4] (fun i wr=>∃ k:Nat,k<=6/\i=.int .i64 k/\(kk = -1\/(k:Int)<=kk)/\Below W.heap.size W wr) (fun i _=>6 - (intOf i).toNat)
 case atStart=>exact ⟨0,by omega,rfl,by omega,Below.refl _ _⟩
 case round=>
  obtain ⟨k,hk,rfl,hor,hb⟩:=hrel;have hk0:(0:Int)<=(k:Int):=by omega
  by_cases hlt:k < 6
  · obtain ⟨u,hu⟩:=zx (xs:=styW) (k:=k) (by exact hlt);obtain ⟨ad,had,_,c0⟩:=zh (hA.below hb) hu;injection had with had;subst had;have hadd:(⟨g,0,none⟩:Addr).add k=⟨g,k,none⟩:=by unfold Addr.add;split <;> simp_all
    rw [hadd] at c0;clear hadd;have hi:=aN (t:=t) hu;rw [HK.out] at hi;have hk1:(k:Int) < 6:=by omega
    by_cases he:u=t
    · have hkv:=hi.1 he;have hq:(u.toList == t.toList)=true:=by rw [yD];exact decide_eq_true he
      have HKV:=qH hkv;clear hi he hkv hu hor;go_wp2;go_returns;exact Ret.mk (vi (by rw [HK.out,HKV.out])) (za hv hb)
    · have hkv:kk≠(k:Int):=fun h=>he (hi.2 h);have hq:(u.toList == t.toList)=false:=by rw [yD];exact decide_eq_false he
      have hor2:kk = -1\/((k + 1:Nat):Int)<=kk:=by omega
      clear hi he hkv hu hor;go_wp2_with fail;exact ⟨⟨k + 1,by omega,by go_num,hor2,hb⟩,by simp [intOf];omega⟩
  · have hkv:kk = -1:=by omega
    have HKV:=qH hkv;clear hkv hor;go_wp2;go_returns;exact Ret.mk (vi (by rw [HK.out,HKV.out])) (za hv hb)
theorem uH(s:ByteArray)(hs:s.size<=9223372036854775807)(lo hi:Int)(w:World):Calls prog 216 #[.string s,.int .i64 lo,.int .i64 hi] w (Ret (.bool (xq s lo hi)) w):=by
 have HRD:=qH (xm s hs w);obtain ⟨v,hv⟩:=zN (zq s);obtain ⟨b,hb⟩:=zN (okN s.data.toList);have hN:xq s lo hi=(b && inB v lo hi):=by rw [hv,hb];rfl
 rw [<-hv,<-hb] at HRD;have HNN:=qH hN;clear hv hb hN;go_in;go_wp2_with fail;refine qS HRD.out fun W hb=>?_;cases b
 ·go_wp2;go_returns;exact Ret.mk (vb (by rw [HNN.out];rfl)) hb
 · go_wp2_with (go_at_call 155;refine (xJ _ _ _ _).mono ?_;rintro e w' ⟨rfl,rfl⟩)
   go_returns;exact Ret.mk (vb (by rw [HNN.out];rfl)) hb
def uP(k:Int)(n:Nat):Bool:=if k=0\/k=2 then decide (n=3) else if k=5 then decide (n=2) || decide (n=3) else decide (n=2)
theorem uq(k:Int)(n:Nat)(w:World):Calls prog 215 #[.int .i64 k,.int .i64 n] w (RetQ (.bool (uP k n)) w):=by
 have hq3:((n:Int) == 3)=decide (n=3):=by
  by_cases h:n=3
  ·rw [decide_eq_true h,h];rfl
  ·rw [decide_eq_false h,beq_eq_false_iff_ne];omega
 have hq2:((n:Int) == 2)=decide (n=2):=by
  by_cases h:n=2
  ·rw [decide_eq_true h,h];rfl
  ·rw [decide_eq_false h,beq_eq_false_iff_ne];omega
 obtain ⟨b3,e3⟩:=zN (decide (n=3));obtain ⟨b2,e2⟩:=zN (decide (n=2));have hP:uP k n=if k=0\/k=2 then b3 else if k=5 then b2 || b3 else b2:=by rw [e3,e2];rfl
 rw [<-e3] at hq3;rw [<-e2] at hq2;have HP:=qH hP;clear hP e3 e2;by_cases h0:k=0
 ·subst h0;go_in;go_wp2;go_returns;exact RetQ.mk (vb (by rw [HP.out];rfl))
 by_cases h2:k=2
 ·subst h2;go_in;go_wp2;go_returns;exact RetQ.mk (vb (by rw [HP.out];rfl))
 by_cases h5:k=5
 · subst h5;go_in;cases b2
   ·go_wp2;go_returns;exact RetQ.mk (vb (by rw [HP.out];rfl))
   ·go_wp2;go_returns;exact RetQ.mk (vb (by rw [HP.out];rfl))
 have q0:(k == 0)=false:=by rw [beq_eq_false_iff_ne];exact h0
 have q2:(k == 2)=false:=by rw [beq_eq_false_iff_ne];exact h2
 have q5:(k == 5)=false:=by rw [beq_eq_false_iff_ne];exact h5
 have HP2:=qH (show uP k n=b2 by rw [HP.out,if_neg (by omega),if_neg h5]);clear h0 h2 h5 HP;go_in;go_wp2;go_returns;exact RetQ.mk (vb (by rw [HP2.out]))
end Go.Proofs.YtpiehlfffjhoaaaGreatDoor
