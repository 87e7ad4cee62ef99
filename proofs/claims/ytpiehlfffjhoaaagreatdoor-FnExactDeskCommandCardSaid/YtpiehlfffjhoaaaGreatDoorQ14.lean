/- Lemmas for the law on the console: the parts StyU,StyV. -/
import Derived.Test.YtpiehlfffjhoaaaGreatDoorQ13
import Derived.Deep.DeepCutAuto
namespace Go.Proofs.YtpiehlfffjhoaaaGreatDoor
open Go.RowKit Go.Proofs.Tryz
set_option maxRecDepth 100000
set_option maxHeartbeats 8000000
theorem dq{v:Int}(h0:-9223372036854775808<=v)(h1:v<=9223372036854775807):(Lib.itoa v).length<=21:=by
 unfold Lib.itoa;split
 ·have:=qE 19 v.natAbs (by omega);simp only [List.length_cons];omega
 · have:=qE 19 v.toNat (by omega)
   omega
theorem xg{v:Int}(h0:-9223372036854775808<=v)(h1:v<=9223372036854775807):(zm v).size<=21:=by
 rw [<-zu];simpa [zm] using dq h0 h1
def Style.fits(x:Style):Prop:=(x.u.size<=1048576/\x.c.size<=1048576/\x.l.size<=1048576/\x.s.size<=1048576)/\(-9223372036854775808<=x.t/\x.t<=9223372036854775807)/\(-9223372036854775808<=x.h/\x.h<=9223372036854775807)/\(-9223372036854775808<=x.e/\x.e<=9223372036854775807)/\(-9223372036854775808<=x.d/\x.d<=9223372036854775807)
def StyC(w:World)(g o:Nat)(C:Array Value):Prop:=g < w.heap.size/\∀ i v,C[i]?=some v->w.cell? ⟨g,o + i,none⟩=some v
theorem StyC.of{w:World}{g:Nat}{t:TypeId}{C:Array Value}(h:Blk w g t C):StyC w g 0 C:=⟨h.lt,fun i v e=>by rw [Nat.zero_add,h.cell i];exact e⟩
theorem StyC.below{w w':World}{g o:Nat}{C:Array Value}(h:StyC w g o C)(hb:Below w.heap.size w w'):StyC w' g o C:=⟨Nat.lt_of_lt_of_le h.1 hb.size,fun i v e=>(hb.cell h.1).trans (h.2 i v e)⟩
theorem StyC.cell{w:World}{g o:Nat}{C:Array Value}(h:StyC w g o C)(i:Nat){v:Value}(e:C[i]?=some v):w.cell? ⟨g,o + i,none⟩=some v:=h.2 i v e
def kE(x:Style)(w:World)(e:Ending)(w':World):Prop:=∃ g,e=.returned (.slice (some ⟨g,0,none⟩) 6 6)/\w.heap.size<=g/\Blk w' g 9 ((xA x).map Value.string).toArray/\Below w.heap.size w w'
theorem nY(x:Style)(hx:Hid x.fits)(g o:Nat)(w:World)(hB:StyC w g o (cS x)):Calls prog 150 #[.pointer (some ⟨g,o,none⟩)] w (kE x w):=by
 obtain ⟨⟨z0,z1,z2,z3⟩,i4,i5,i6,i7⟩:=hx.out;obtain ⟨d4,e4⟩:=zN (zm x.t);obtain ⟨d5,e5⟩:=zN (zm x.h);obtain ⟨d6,e6⟩:=zN (zm x.e);obtain ⟨d7,e7⟩:=zN (zm x.d);have y4:d4.size<=21:=by rw [e4];exact xg i4.1 i4.2
 have y5:d5.size<=21:=by rw [e5];exact xg i5.1 i5.2
 have y6:d6.size<=21:=by rw [e6];exact xg i6.1 i6.2
 have y7:d7.size<=21:=by rw [e7];exact xg i7.1 i7.2
 have D4:=fun w=>xh x.t i4.1 i4.2 w;have D5:=fun w=>xh x.h i5.1 i5.2 w;have D6:=fun w=>xh x.e i6.1 i6.2 w;have D7:=fun w=>xh x.d i7.1 i7.2 w;rw [<-e4] at D4;rw [<-e5] at D5;rw [<-e6] at D6;rw [<-e7] at D7;replace D4:=qH D4;replace D5:=qH D5;replace D6:=qH D6;replace D7:=qH D7;have l0:(⟨#[117,112,112,101,114,32]⟩:ByteArray).size=6:=rfl;have l1:(⟨#[32]⟩:ByteArray).size=1:=rfl;have l2:(⟨#[115,111,108,101,32]⟩:ByteArray).size=5:=rfl;have l3:(⟨#[108,105,110,105,110,103,32]⟩:ByteArray).size=7:=rfl;have l4:(⟨#[104,101,101,108,32]⟩:ByteArray).size=5:=rfl;have l5:(⟨#[101,121,101,108,101,116,115,32]⟩:ByteArray).size=8:=rfl;have l6:(⟨#[115,116,105,116,99,104,32]⟩:ByteArray).size=7:=rfl;have l7:(⟨#[32,100,111,117,98,108,101]⟩:ByteArray).size=7:=rfl;have a0:=fun (w:World)=>run_string_add_sum (P:=prog) w (⟨#[117,112,112,101,114,32]⟩:ByteArray) x.u (by omega);have a1:=fun (w:World)=>run_string_add_sum (P:=prog) w ((⟨#[117,112,112,101,114,32]⟩:ByteArray) ++ x.u) (⟨#[32]⟩:ByteArray) (by simp only [zv];omega);have a2:=fun (w:World)=>run_string_add_sum (P:=prog) w (((⟨#[117,112,112,101,114,32]⟩:ByteArray) ++ x.u) ++ (⟨#[32]⟩:ByteArray)) x.c (by simp only [zv];omega);have b0:=fun (w:World)=>run_string_add_sum (P:=prog) w (⟨#[115,111,108,101,32]⟩:ByteArray) x.s (by omega);have b1:=fun (w:World)=>run_string_add_sum (P:=prog) w ((⟨#[115,111,108,101,32]⟩:ByteArray) ++ x.s) (⟨#[32]⟩:ByteArray) (by simp only [zv];omega);have b2:=fun (w:World)=>run_string_add_sum (P:=prog) w (((⟨#[115,111,108,101,32]⟩:ByteArray) ++ x.s) ++ (⟨#[32]⟩:ByteArray)) d4 (by simp only [zv];omega);have c2:=fun (w:World)=>run_string_add_sum (P:=prog) w (⟨#[108,105,110,105,110,103,32]⟩:ByteArray) x.l (by omega);have c3:=fun (w:World)=>run_string_add_sum (P:=prog) w (⟨#[104,101,101,108,32]⟩:ByteArray) d5 (by omega);have c4:=fun (w:World)=>run_string_add_sum (P:=prog) w (⟨#[101,121,101,108,101,116,115,32]⟩:ByteArray) d6 (by omega);have c5:=fun (w:World)=>run_string_add_sum (P:=prog) w (⟨#[115,116,105,116,99,104,32]⟩:ByteArray) d7 (by omega);obtain ⟨T0,t0⟩:=zN ((((⟨#[117,112,112,101,114,32]⟩:ByteArray) ++ x.u) ++ (⟨#[32]⟩:ByteArray)) ++ x.c);obtain ⟨T2,t2⟩:=zN ((((⟨#[115,111,108,101,32]⟩:ByteArray) ++ x.s) ++ (⟨#[32]⟩:ByteArray)) ++ d4);rw [<-t0] at a2;rw [<-t2] at b2;obtain ⟨T1,t1⟩:=zN (tJ x);obtain ⟨T3,t3⟩:=zN (tK x);obtain ⟨T4,t4⟩:=zN (tL x);obtain ⟨T5a,t5⟩:=zN (uO x);obtain ⟨T5,t6⟩:=zN (tM x);have hz5:T5a.size<=100:=by
  rw [t5];unfold uO;split
  ·exact Nat.zero_le _
  ·rw [<-e7,zv];omega
 have c6:=fun (w:World)=>run_string_add_sum (P:=prog) w T5a (⟨#[32,100,111,117,98,108,101]⟩:ByteArray) (by omega);have HTX:Hid (xA x=[T0,T1,T2,T3,T4,T5]):=qH (by rw [t0,t1,t2,t3,t4,t6,e4];rfl);have H1:Hid (T1=if x.l.size=0 then ⟨#[]⟩ else (⟨#[108,105,110,105,110,103,32]⟩:ByteArray) ++ x.l):=qH t1;have H3:Hid (T3=if x.h=0 then ⟨#[]⟩ else (⟨#[104,101,101,108,32]⟩:ByteArray) ++ d5):=qH (by rw [t3,e5];rfl);have H4:Hid (T4=if x.e=0 then ⟨#[]⟩ else (⟨#[101,121,101,108,101,116,115,32]⟩:ByteArray) ++ d6):=qH (by rw [t4,e6];rfl);have H5:Hid (T5a=if x.d=0/\x.q=false then ⟨#[]⟩ else (⟨#[115,116,105,116,99,104,32]⟩:ByteArray) ++ d7):=qH (by rw [t5,e7];rfl);have H6:Hid (T5=if x.q=true then T5a ++ (⟨#[32,100,111,117,98,108,101]⟩:ByteArray) else T5a):=qH (by rw [t6,t5];rfl);clear t0 t1 t2 t3 t4 t5 t6 e4 e5 e6 e7 y4 y5 y6 y7 z0 z1 z2 z3 i4 i5 i6 i7 hz5 l0 l1 l2 l3 l4 l5 l6 l7 hx;have HE:=qH (wm x.l);have hv:=Below.refl w.heap.size w;have HX:=qH hB;have hgl:=hB.1;have k0:w.cell? ⟨g,o,none⟩=some (.string x.u):=hB.cell 0 rfl;have k1:w.cell? ⟨g,o + 1,none⟩=some (.string x.c):=hB.cell 1 rfl;have k2:w.cell? ⟨g,o + 2,none⟩=some (.string x.l):=hB.cell 2 rfl;have k3:w.cell? ⟨g,o + 3,none⟩=some (.string x.s):=hB.cell 3 rfl;have k4:w.cell? ⟨g,o + 4,none⟩=some (.int .i64 x.t):=hB.cell 4 rfl;have k5:w.cell? ⟨g,o + 5,none⟩=some (.int .i64 x.h):=hB.cell 5 rfl;have k6:w.cell? ⟨g,o + 6,none⟩=some (.int .i64 x.e):=hB.cell 6 rfl;have k7:w.cell? ⟨g,o + 7,none⟩=some (.int .i64 x.d):=hB.cell 7 rfl;have k8:w.cell? ⟨g,o + 8,none⟩=some (.bool x.q):=hB.cell 8 rfl;clear hB;go_in;go_upto_region 1 with fail;refine zH (fun w'=>Below w.heap.size w w'/\True) ?_ (fun hHeld=>?_)
 ·exact ⟨(Below.refl _ _).drew,trivial⟩
 obtain ⟨Wd,hWd⟩:=zN w.drew;rw [<-hWd] at hHeld |-;replace hv:=hHeld.1;clear hWd;refine zU 0 4 ?_;refine zU 1 5 ?_;refine zU 2 6 ?_;refine zT 3 7 rfl (fun w hSw=>by
  have x_k0:=zb hSw.1 k0;go_simp;try with_reducible rfl) ?_
 refine zU 4 8 ?_;refine zU 5 9 ?_;refine zU 6 10 ?_;refine zU 7 11 ?_;refine zU 8 12 ?_;refine zT 9 13 rfl (fun w hSw=>by
  have x_k1:=zb hSw.1 k1;go_simp;try with_reducible rfl) ?_
 refine zU 10 14 ?_;refine zU 11 15 ?_;refine zU 12 16 ?_;refine zU 13 17 ?_;refine zT 14 18 rfl (fun w hSw=>by
  have x_k3:=zb hSw.1 k3;go_simp;try with_reducible rfl) ?_
 refine zU 15 19 ?_;refine zU 16 20 ?_;refine zU 17 21 ?_;refine zU 18 22 ?_;refine zU 19 23 ?_;refine zT 20 24 rfl (fun w hSw=>by
  have x_k4:=zb hSw.1 k4;go_simp;try with_reducible rfl) ?_
 refine zR 21 (some 25) rfl (fun K hK=>?_);go_simp;go_split_ands;refine qS (D4.out _) fun W1 hb9=>?_;replace hv:=za hv hb9;go_wp2_with fail;refine hK.out _ _ ?_ (fun hHeld=>?_)
 ·(try dsimp only);go_split_ands;exact ⟨za (by assumption) hb9,trivial⟩
 clear hK K;try simp only [Act.put,zA,zB,zC]
 refine zU 22 26 ?_;refine zR 23 (some 27) rfl (fun K hK=>?_);go_simp;obtain ⟨W2,hW2⟩:=zN (World.alloc W1 (Obj.cells #[.string T0,.string ⟨#[]⟩,.string T2,.string ⟨#[]⟩,.string ⟨#[]⟩,.string ⟨#[]⟩] 9));obtain ⟨gl,hgl2⟩:=zN W1.heap.size;have HL:Hid (Blk W2 gl 9 #[.string T0,.string ⟨#[]⟩,.string T2,.string ⟨#[]⟩,.string ⟨#[]⟩,.string ⟨#[]⟩]):=qH (by rw [hW2,hgl2];exact Blk.new _ _ _);have hb9:Below W1.heap.size W1 W2:=by rw [hW2];exact zc (Below.refl _ _) _
 have hge:w.heap.size<=gl:=by rw [hgl2];exact hv.size
 replace hv:=za hv hb9;rw [<-hW2,<-hgl2];clear hW2 hgl2 hb9 hHeld;refine hK.out _ _ ⟨hv,trivial⟩ (fun hHeld=>?_);clear hK K;try simp only [Act.put,zA,zB,zC]
 refine zU 24 3 ?_;refine zD ?_;clear hHeld a0 a1 a2 b0 b1 b2 D4;have HXW:=HX.out.below hv;replace k0:W2.cell? ⟨g,o,none⟩=some (.string x.u):=HXW.cell 0 rfl;replace k1:W2.cell? ⟨g,o + 1,none⟩=some (.string x.c):=HXW.cell 1 rfl;replace k2:W2.cell? ⟨g,o + 2,none⟩=some (.string x.l):=HXW.cell 2 rfl;replace k3:W2.cell? ⟨g,o + 3,none⟩=some (.string x.s):=HXW.cell 3 rfl;replace k4:W2.cell? ⟨g,o + 4,none⟩=some (.int .i64 x.t):=HXW.cell 4 rfl;replace k5:W2.cell? ⟨g,o + 5,none⟩=some (.int .i64 x.h):=HXW.cell 5 rfl;replace k6:W2.cell? ⟨g,o + 6,none⟩=some (.int .i64 x.e):=HXW.cell 6 rfl;replace k7:W2.cell? ⟨g,o + 7,none⟩=some (.int .i64 x.d):=HXW.cell 7 rfl;replace k8:W2.cell? ⟨g,o + 8,none⟩=some (.bool x.q):=HXW.cell 8 rfl;clear HXW
 go_upto_if 32 with fail
 go_cut [] (fun wx=>Hid (Blk wx gl 9 #[.string T0,.string T1,.string T2,.string ⟨#[]⟩,.string ⟨#[]⟩,.string ⟨#[]⟩])/\Below w.heap.size w wx)
 case first=>
  as_aux_lemma=>
   have hE:=HE.out;clear HE;by_cases h0:x.l.size=0
   · rw [decide_eq_true h0] at hE;have ht:=H1.out;rw [if_pos h0] at ht;clear h0;rw [hE,Bool.not_true];go_wp2_with fail
     go_meet
     exact ⟨by rw [ht];exact HL,hv⟩
   · rw [decide_eq_false h0] at hE;have ht:=H1.out;rw [if_neg h0] at ht;have HT:=qH ht;clear h0 ht;rw [hE,Bool.not_false];have jj:=yc1 HL.out;have ff:=HL.out.frozen 1;go_wp2_with fail
     go_meet
     exact ⟨by rw [HT.out];exact qH (HL.out.set_ 1 (.string ((⟨#[108,105,110,105,110,103,32]⟩:ByteArray) ++ x.l))),zk hv (p:=⟨gl,1,none⟩) hge _⟩
 case rest=>
 as_aux_lemma=>
 obtain ⟨HL2,hv2⟩:=hcut;replace HL:=HL2;replace hv:=hv2;clear HL2 hv2 c2 H1 HE
 rename World=>W3
 have HXW:=HX.out.below hv;replace k0:W3.cell? ⟨g,o,none⟩=some (.string x.u):=HXW.cell 0 rfl;replace k1:W3.cell? ⟨g,o + 1,none⟩=some (.string x.c):=HXW.cell 1 rfl;replace k2:W3.cell? ⟨g,o + 2,none⟩=some (.string x.l):=HXW.cell 2 rfl;replace k3:W3.cell? ⟨g,o + 3,none⟩=some (.string x.s):=HXW.cell 3 rfl;replace k4:W3.cell? ⟨g,o + 4,none⟩=some (.int .i64 x.t):=HXW.cell 4 rfl;replace k5:W3.cell? ⟨g,o + 5,none⟩=some (.int .i64 x.h):=HXW.cell 5 rfl;replace k6:W3.cell? ⟨g,o + 6,none⟩=some (.int .i64 x.e):=HXW.cell 6 rfl;replace k7:W3.cell? ⟨g,o + 7,none⟩=some (.int .i64 x.d):=HXW.cell 7 rfl;replace k8:W3.cell? ⟨g,o + 8,none⟩=some (.bool x.q):=HXW.cell 8 rfl;clear HXW
 go_upto_if 44 with fail
 go_cut [] (fun wx=>Hid (Blk wx gl 9 #[.string T0,.string T1,.string T2,.string T3,.string ⟨#[]⟩,.string ⟨#[]⟩])/\Below w.heap.size w wx)
 case first=>
  as_aux_lemma=>
   by_cases h0:x.h=0
   · have hq:(x.h != 0)=false:=by rw [h0];rfl
     have ht:=H3.out;rw [if_pos h0] at ht;clear h0;go_wp2_with fail
     go_meet
     exact ⟨by rw [ht];exact HL,hv⟩
   · have hq:(x.h != 0)=true:=by rw [bne_iff_ne];exact h0
     have ht:=H3.out;rw [if_neg h0] at ht;have HT:=qH ht;clear h0 ht;go_wp2_with fail;refine qS (D5.out _) fun V hb9=>?_;replace hv:=za hv hb9;replace HL:=qH (HL.out.below hb9);clear hb9;have jj:=yc3 HL.out;have ff:=HL.out.frozen 3;go_wp2_with fail
     go_meet
     exact ⟨by rw [HT.out];exact qH (HL.out.set_ 3 (.string ((⟨#[104,101,101,108,32]⟩:ByteArray) ++ d5))),zk hv (p:=⟨gl,3,none⟩) hge _⟩
 case rest=>
 as_aux_lemma=>
 obtain ⟨HL2,hv2⟩:=hcut;replace HL:=HL2;replace hv:=hv2;clear HL2 hv2 c3 H3 D5
 rename World=>W4
 have HXW:=HX.out.below hv;replace k0:W4.cell? ⟨g,o,none⟩=some (.string x.u):=HXW.cell 0 rfl;replace k1:W4.cell? ⟨g,o + 1,none⟩=some (.string x.c):=HXW.cell 1 rfl;replace k2:W4.cell? ⟨g,o + 2,none⟩=some (.string x.l):=HXW.cell 2 rfl;replace k3:W4.cell? ⟨g,o + 3,none⟩=some (.string x.s):=HXW.cell 3 rfl;replace k4:W4.cell? ⟨g,o + 4,none⟩=some (.int .i64 x.t):=HXW.cell 4 rfl;replace k5:W4.cell? ⟨g,o + 5,none⟩=some (.int .i64 x.h):=HXW.cell 5 rfl;replace k6:W4.cell? ⟨g,o + 6,none⟩=some (.int .i64 x.e):=HXW.cell 6 rfl;replace k7:W4.cell? ⟨g,o + 7,none⟩=some (.int .i64 x.d):=HXW.cell 7 rfl;replace k8:W4.cell? ⟨g,o + 8,none⟩=some (.bool x.q):=HXW.cell 8 rfl;clear HXW
 go_upto_if 57 with fail
 go_cut [] (fun wx=>Hid (Blk wx gl 9 #[.string T0,.string T1,.string T2,.string T3,.string T4,.string ⟨#[]⟩])/\Below w.heap.size w wx)
 case first=>
  as_aux_lemma=>
   by_cases h0:x.e=0
   · have hq:(x.e != 0)=false:=by rw [h0];rfl
     have ht:=H4.out;rw [if_pos h0] at ht;clear h0;go_wp2_with fail
     go_meet
     exact ⟨by rw [ht];exact HL,hv⟩
   · have hq:(x.e != 0)=true:=by rw [bne_iff_ne];exact h0
     have ht:=H4.out;rw [if_neg h0] at ht;have HT:=qH ht;clear h0 ht;go_wp2_with fail;refine qS (D6.out _) fun V hb9=>?_;replace hv:=za hv hb9;replace HL:=qH (HL.out.below hb9);clear hb9;have jj:=yc4 HL.out;have ff:=HL.out.frozen 4;go_wp2_with fail
     go_meet
     exact ⟨by rw [HT.out];exact qH (HL.out.set_ 4 (.string ((⟨#[101,121,101,108,101,116,115,32]⟩:ByteArray) ++ d6))),zk hv (p:=⟨gl,4,none⟩) hge _⟩
 case rest=>
 as_aux_lemma=>
 obtain ⟨HL2,hv2⟩:=hcut;replace HL:=HL2;replace hv:=hv2;clear HL2 hv2 c4 H4 D6
 rename World=>W5
 have HXW:=HX.out.below hv;replace k0:W5.cell? ⟨g,o,none⟩=some (.string x.u):=HXW.cell 0 rfl;replace k1:W5.cell? ⟨g,o + 1,none⟩=some (.string x.c):=HXW.cell 1 rfl;replace k2:W5.cell? ⟨g,o + 2,none⟩=some (.string x.l):=HXW.cell 2 rfl;replace k3:W5.cell? ⟨g,o + 3,none⟩=some (.string x.s):=HXW.cell 3 rfl;replace k4:W5.cell? ⟨g,o + 4,none⟩=some (.int .i64 x.t):=HXW.cell 4 rfl;replace k5:W5.cell? ⟨g,o + 5,none⟩=some (.int .i64 x.h):=HXW.cell 5 rfl;replace k6:W5.cell? ⟨g,o + 6,none⟩=some (.int .i64 x.e):=HXW.cell 6 rfl;replace k7:W5.cell? ⟨g,o + 7,none⟩=some (.int .i64 x.d):=HXW.cell 7 rfl;replace k8:W5.cell? ⟨g,o + 8,none⟩=some (.bool x.q):=HXW.cell 8 rfl;clear HXW;obtain ⟨bb,hbb⟩:=zN (!decide (x.d=0) || x.q);have HBB:=qH hbb;clear hbb;go_upto_region 8 with fail
 go_cut [76] (fun s wx=>s=.bool bb/\Hid (Blk wx gl 9 #[.string T0,.string T1,.string T2,.string T3,.string T4,.string ⟨#[]⟩])/\Below w.heap.size w wx)
 case first=>
  as_aux_lemma=>
   by_cases h0:x.d=0
   · have hq:(x.d != 0)=false:=by rw [h0];rfl
     have hb:=HBB.out;rw [decide_eq_true h0,Bool.not_true,Bool.false_or] at hb;rw [<-hb] at k8;clear h0 hb HBB;go_wp2_with fail
     go_meet
     exact ⟨rfl,HL,hv⟩
   · have hq:(x.d != 0)=true:=by rw [bne_iff_ne];exact h0
     have hb:=HBB.out;rw [decide_eq_false h0,Bool.not_false,Bool.true_or] at hb;subst hb;clear h0 HBB;go_wp2_with fail
     go_meet
     exact ⟨rfl,HL,hv⟩
 case rest=>
 as_aux_lemma=>
 obtain ⟨rfl,HL2,hv2⟩:=hcut;replace HL:=HL2;replace hv:=hv2;clear HL2 hv2
 rename World=>W55
 have HXW:=HX.out.below hv;replace k0:W55.cell? ⟨g,o,none⟩=some (.string x.u):=HXW.cell 0 rfl;replace k1:W55.cell? ⟨g,o + 1,none⟩=some (.string x.c):=HXW.cell 1 rfl;replace k2:W55.cell? ⟨g,o + 2,none⟩=some (.string x.l):=HXW.cell 2 rfl;replace k3:W55.cell? ⟨g,o + 3,none⟩=some (.string x.s):=HXW.cell 3 rfl;replace k4:W55.cell? ⟨g,o + 4,none⟩=some (.int .i64 x.t):=HXW.cell 4 rfl;replace k5:W55.cell? ⟨g,o + 5,none⟩=some (.int .i64 x.h):=HXW.cell 5 rfl;replace k6:W55.cell? ⟨g,o + 6,none⟩=some (.int .i64 x.e):=HXW.cell 6 rfl;replace k7:W55.cell? ⟨g,o + 7,none⟩=some (.int .i64 x.d):=HXW.cell 7 rfl;replace k8:W55.cell? ⟨g,o + 8,none⟩=some (.bool x.q):=HXW.cell 8 rfl;clear HXW
 go_upto_if 76 with fail
 go_cut [] (fun wx=>Hid (Blk wx gl 9 #[.string T0,.string T1,.string T2,.string T3,.string T4,.string T5a])/\Below w.heap.size w wx)
 case first=>
  as_aux_lemma=>
   cases bb
   · have hb:=HBB.out;have hc:x.d=0/\x.q=false:=by
      rw [eq_comm,Bool.or_eq_false_iff,Bool.not_eq_false',decide_eq_true_eq] at hb;exact hb
     have ht:=H5.out;rw [if_pos hc] at ht;clear hb hc HBB;go_wp2_with fail
     go_meet
     exact ⟨by rw [ht];exact HL,hv⟩
   · have hb:=HBB.out;have hc:¬ (x.d=0/\x.q=false):=by
      rintro ⟨h1,h2⟩;rw [decide_eq_true h1,h2] at hb;exact absurd hb (by decide)
     have ht:=H5.out;rw [if_neg hc] at ht;have HT:=qH ht;clear hb hc ht HBB;go_wp2_with fail;refine qS (D7.out _) fun V hb9=>?_;replace hv:=za hv hb9;replace HL:=qH (HL.out.below hb9);clear hb9;have jj:=yc5 HL.out;have ff:=HL.out.frozen 5;go_wp2_with fail
     go_meet
     exact ⟨by rw [HT.out];exact qH (HL.out.set_ 5 (.string ((⟨#[115,116,105,116,99,104,32]⟩:ByteArray) ++ d7))),zk hv (p:=⟨gl,5,none⟩) hge _⟩
 case rest=>
 as_aux_lemma=>
 obtain ⟨HL2,hv2⟩:=hcut;replace HL:=HL2;replace hv:=hv2;clear HL2 hv2 c5 H5 D7 HBB
 rename World=>W6
 have HXW:=HX.out.below hv;replace k0:W6.cell? ⟨g,o,none⟩=some (.string x.u):=HXW.cell 0 rfl;replace k1:W6.cell? ⟨g,o + 1,none⟩=some (.string x.c):=HXW.cell 1 rfl;replace k2:W6.cell? ⟨g,o + 2,none⟩=some (.string x.l):=HXW.cell 2 rfl;replace k3:W6.cell? ⟨g,o + 3,none⟩=some (.string x.s):=HXW.cell 3 rfl;replace k4:W6.cell? ⟨g,o + 4,none⟩=some (.int .i64 x.t):=HXW.cell 4 rfl;replace k5:W6.cell? ⟨g,o + 5,none⟩=some (.int .i64 x.h):=HXW.cell 5 rfl;replace k6:W6.cell? ⟨g,o + 6,none⟩=some (.int .i64 x.e):=HXW.cell 6 rfl;replace k7:W6.cell? ⟨g,o + 7,none⟩=some (.int .i64 x.d):=HXW.cell 7 rfl;replace k8:W6.cell? ⟨g,o + 8,none⟩=some (.bool x.q):=HXW.cell 8 rfl;clear HXW
 go_upto_if 88 with fail
 go_cut [] (fun wx=>Hid (Blk wx gl 9 #[.string T0,.string T1,.string T2,.string T3,.string T4,.string T5])/\Below w.heap.size w wx)
 case first=>
  as_aux_lemma=>
   cases hd:x.q
   · rw [hd] at k8;have ht:=H6.out;rw [hd,if_neg (by simp)] at ht;clear hd;go_wp2_with fail
     go_meet
     exact ⟨by rw [ht];exact HL,hv⟩
   · rw [hd] at k8;have ht:=H6.out;rw [hd,if_pos rfl] at ht;have HT:=qH ht;clear hd ht;have j5:=yc5 HL.out;have ff:=HL.out.frozen 5;go_wp2_with fail
     go_meet
     exact ⟨by rw [HT.out];exact qH (HL.out.set_ 5 (.string (T5a ++ (⟨#[32,100,111,117,98,108,101]⟩:ByteArray)))),zk hv (p:=⟨gl,5,none⟩) hge _⟩
 case rest=>
 as_aux_lemma=>
 obtain ⟨HL2,hv2⟩:=hcut;replace HL:=HL2;replace hv:=hv2;clear HL2 hv2 c6 H6
 rename World=>W7
 go_wp2;go_returns;exact ⟨gl,rfl,hge,by rw [HTX.out];exact HL.out,hv⟩
theorem dv(x:Style)(hx:Hid x.fits)(g:Nat)(w:World)(hB:Blk w g 30 (cS x)):Calls prog 150 #[.pointer (some ⟨g,0,none⟩)] w (kE x w):=nY x hx g 0 w (StyC.of hB)
theorem dY{x:Style}(h:x.fits):∀ t ∈ xA x,t.size<=4194304:=by
 obtain ⟨⟨z0,z1,z2,z3⟩,i4,i5,i6,i7⟩:=h;have d4:=xg i4.1 i4.2;have d5:=xg i5.1 i5.2;have d6:=xg i6.1 i6.2;have d7:=xg i7.1 i7.2;have l0:(⟨#[117,112,112,101,114,32]⟩:ByteArray).size=6:=rfl;have l1:(⟨#[108,105,110,105,110,103,32]⟩:ByteArray).size=7:=rfl;have l2:(⟨#[115,111,108,101,32]⟩:ByteArray).size=5:=rfl;have l3:(⟨#[104,101,101,108,32]⟩:ByteArray).size=5:=rfl;have l4:(⟨#[101,121,101,108,101,116,115,32]⟩:ByteArray).size=8:=rfl;have l5:(⟨#[115,116,105,116,99,104,32]⟩:ByteArray).size=7:=rfl;have l6:(⟨#[32,100,111,117,98,108,101]⟩:ByteArray).size=7:=rfl;have ls:spB.size=1:=rfl;have z:(⟨#[]⟩:ByteArray).size=0:=rfl;intro t ht;simp only [xA,List.mem_cons,List.not_mem_nil,or_false] at ht;rcases ht with rfl | rfl | rfl | rfl | rfl | rfl
 ·unfold vz;simp only [zv];omega
 · unfold tJ;split
   ·omega
   ·simp only [zv];omega
 ·unfold uU;simp only [zv];omega
 · unfold tK;split
   ·omega
   ·simp only [zv];omega
 · unfold tL;split
   ·omega
   ·simp only [zv];omega
 ·unfold tM uO;split <;> split <;> (try simp only [zv]) <;> omega
theorem bc{l:List ByteArray}{k:Nat}{t:ByteArray}(h:l[k]?=some t):(l.take (k + 1)).all wb=((l.take k).all wb && wb t):=by
 rw [yJ h,List.all_append];simp
theorem zdd{x:Style}{k:Nat}{t:ByteArray}(h:(xA x)[k]?=some t)(hf:wb t=false):yZ x=false:=by
 rw [<-jL];unfold okL;have:(xA x).all wb=false:=by
  rw [List.all_eq_false];exact ⟨t,List.mem_of_getElem? h,by rw [hf];simp⟩
 rw [this,Bool.false_and]
theorem zcE{x:Style}(h:(xA x).all wb=true):yZ x=(zo x.u && zo x.c && zo x.s && (decide (x.l.size=0) || zo x.l)):=by
 rw [<-jL];unfold okL;rw [h,Bool.true_and]
theorem fO(x:Style)(hx:Hid x.fits)(g o:Nat)(w:World)(hB:StyC w g o (cS x)):Calls prog 93 #[.pointer (some ⟨g,o,none⟩)] w (Ret (.bool (yZ x)) w):=by
 have HB:=qH hB;have HTX:=fun w h=>nY x hx g o w h;unfold kE at HTX;have HZ:=qH (dY hx.out);have HG:=qH (fun h=>zcE (x:=x) h);have HBD:=qH (fun (k:Nat) (t:ByteArray) (h:(xA x)[k]?=some t) (hf:wb t=false)=>zdd h hf);obtain ⟨TS,hTS⟩:=zN (xA x);have hl6:TS.length=6:=by rw [hTS];rfl
 rw [<-hTS] at HTX HZ HG HBD;replace HTX:=qH HTX;have HL6:=qH hl6;have hsz:x.u.size<=9223372036854775807/\x.c.size<=9223372036854775807/\x.l.size<=9223372036854775807/\x.s.size<=9223372036854775807:=by
  obtain ⟨⟨z0,z1,z2,z3⟩,_⟩:=hx.out;omega
 have HSZ:=qH hsz;clear hB hTS hl6 hsz;go_in;go_wp2_with fail;refine (HTX.out _ HB.out).mono ?_;rintro e W ⟨gl,rfl,hge,hT,hv⟩;have HT:=qH hT;replace HB:=qH (HB.out.below hv);clear hT HTX;go_wp2_with fail;have hR:=qH (show (TS.take 0).all wb=true from rfl)
 go_loopw [4] (fun i wr=>∃ k:Nat,k<=6/\i=.int .i64 k/\Hid ((TS.take k).all wb=true)/\Below W.heap.size W wr) (fun i _=>6 - (intOf i).toNat)
 case atStart=>exact ⟨0,by omega,rfl,hR,Below.refl _ _⟩
 case round=>
 clear hR;obtain ⟨k,hk,rfl,hR,hb⟩:=hrel;have hk0:(0:Int)<=(k:Int):=by omega
 by_cases hlt:k < 6
 case pos=>
  as_aux_lemma=>
   obtain ⟨t,ht⟩:=zx (xs:=TS) (k:=k) (by rw [HL6.out];exact hlt);have c0:wr.cell? ⟨gl,k,none⟩=some (.string t):=by
    rw [(HT.out.below hb).cell k];simp [ht]
   have hk1:(k:Int) < 6:=by omega
   have hS:=bc ht;rw [hR.out,Bool.true_and] at hS;have hz:=HZ.out t (List.mem_of_getElem? ht);by_cases h0:t.size=0
   · have he:t.toList.isEmpty=true:=by rw [wm];exact decide_eq_true h0
     have HS:=qH (hS.trans (by unfold wb;rw [decide_eq_true h0];rfl:_=true));clear hS ht h0 hR;go_wp2_with fail;exact ⟨⟨k + 1,by omega,by go_num,HS,hb⟩,by simp [intOf];omega⟩
   · have he:t.toList.isEmpty=false:=by rw [wm];exact decide_eq_false h0
     have hf:wb t=decide (zE (zP t)=0):=by unfold wb;rw [decide_eq_false h0,Bool.false_or]
     have hle:=qs t;have HPT:=qH (fun y (hy:y ∈ zP t)=>Nat.le_trans (sA hy) hz);have HSW:=fun w=>kp t hz w;unfold kF at HSW;obtain ⟨ws,hws⟩:=zN (zP t);rw [<-hws] at HSW hf hle HPT;obtain ⟨pp,hpp⟩:=zN (zE ws);have HLP:=fun A n c hn hz w hA=>rx A ws n c hn hz HPT w hA;rw [<-hpp] at hf HLP;rw [hf] at hS;replace HSW:=qH HSW;replace HLP:=qH HLP;have HS:=qH hS;have HF:=qH hf;have HTT:=qH ht;clear hS hf ht h0 hR hws hpp;go_wp2_with fail;refine (HSW.out _).mono ?_;rintro e W2 ⟨A,n,c,rfl,hn',hA2,hb2⟩;have hn:=qH hn';replace hb:=za hb hb2;clear hn' hb2 c0;go_wp2_with fail;refine qS (HLP.out A n c hn (by have:=hn.out;omega) _ hA2) fun W3 hb3=>?_;replace hb:=za hb hb3;clear hb3 hA2;by_cases hp:pp=0
     · have hq:(pp != 0)=false:=by rw [hp];rfl
       have HS2:=qH (HS.out.trans (decide_eq_true hp));clear hp HS;go_wp2_with fail;exact ⟨⟨k + 1,by omega,by go_num,HS2,hb⟩,by simp [intOf];omega⟩
     · have hq:(pp != 0)=true:=by rw [bne_iff_ne];exact hp
       have HN:=qH (HBD.out k t HTT.out (by rw [HF.out];exact decide_eq_false hp));clear hp HS;go_wp2;go_returns;exact Ret.mk (vb (by rw [HN.out])) (za hv hb)
 rename World=>V
 as_aux_lemma=>
 have hP:=HG.out (by have h:=hR.out;rwa [List.take_of_length_le (by rw [HL6.out];omega)] at h);replace hv:=za hv hb;have HXW:=HB.out.below hb;obtain ⟨z1,z2,z3,z4⟩:=HSZ.out;have H1:=fun w=>xn x.u z1 w;have H2:=fun w=>xn x.c z2 w;have H3:=fun w=>xn x.s z4 w;have H4:=fun w=>xn x.l z3 w;have hE:=wm x.l;obtain ⟨b1,e1⟩:=zN (zo x.u);obtain ⟨b2,e2⟩:=zN (zo x.c);obtain ⟨b3,e3⟩:=zN (zo x.s);obtain ⟨b4,e4⟩:=zN (zo x.l);obtain ⟨q3,f3⟩:=zN (decide (x.l.size=0));rw [<-e1] at H1 hP;rw [<-e2] at H2 hP;rw [<-e3] at H3 hP;rw [<-e4] at H4 hP;rw [<-f3] at hE hP;replace H1:=qH H1;replace H2:=qH H2;replace H3:=qH H3;replace H4:=qH H4;have HP:=qH hP;clear hP e1 e2 e3 e4 f3 z1 z2 z3 z4 hR hb HB HT HZ HG HBD;have k0:V.cell? ⟨g,o,none⟩=some (.string x.u):=HXW.cell 0 rfl;have k1:V.cell? ⟨g,o + 1,none⟩=some (.string x.c):=HXW.cell 1 rfl;have k2:V.cell? ⟨g,o + 2,none⟩=some (.string x.l):=HXW.cell 2 rfl;have k3:V.cell? ⟨g,o + 3,none⟩=some (.string x.s):=HXW.cell 3 rfl;clear HXW;cases b1
 · skip
   go_wp2_with fail;refine qR (H1.out _) ?_;go_wp2;go_returns;exact Ret.mk (vb (by rw [HP.out];rfl)) hv
 cases b2
 · skip
   go_wp2_with fail;refine qR (H1.out _) ?_;go_wp2_with fail;refine qR (H2.out _) ?_;go_wp2;go_returns;exact Ret.mk (vb (by rw [HP.out];rfl)) hv
 cases b3
 · skip
   go_wp2_with fail;refine qR (H1.out _) ?_;go_wp2_with fail;refine qR (H2.out _) ?_;go_wp2_with fail;refine qR (H3.out _) ?_;go_wp2;go_returns;exact Ret.mk (vb (by rw [HP.out];rfl)) hv
 cases q3
 · skip
   cases b4
   · skip
     go_wp2_with fail;refine qR (H1.out _) ?_;go_wp2_with fail;refine qR (H2.out _) ?_;go_wp2_with fail;refine qR (H3.out _) ?_;go_wp2_with fail;refine qR (H4.out _) ?_;go_wp2;go_returns;exact Ret.mk (vb (by rw [HP.out];rfl)) hv
   · skip
     go_wp2_with fail;refine qR (H1.out _) ?_;go_wp2_with fail;refine qR (H2.out _) ?_;go_wp2_with fail;refine qR (H3.out _) ?_;go_wp2_with fail;refine qR (H4.out _) ?_;go_wp2;go_returns;exact Ret.mk (vb (by rw [HP.out];rfl)) hv
 · skip
   go_wp2_with fail;refine qR (H1.out _) ?_;go_wp2_with fail;refine qR (H2.out _) ?_;go_wp2_with fail;refine qR (H3.out _) ?_;go_wp2;go_returns;exact Ret.mk (vb (by rw [HP.out];rfl)) hv
theorem zcu(x:Style)(hx:Hid x.fits)(g:Nat)(w:World)(hB:Blk w g 30 (cS x)):Calls prog 93 #[.pointer (some ⟨g,0,none⟩)] w (Ret (.bool (yZ x)) w):=fO x hx g 0 w (StyC.of hB)
end Go.Proofs.YtpiehlfffjhoaaaGreatDoor
