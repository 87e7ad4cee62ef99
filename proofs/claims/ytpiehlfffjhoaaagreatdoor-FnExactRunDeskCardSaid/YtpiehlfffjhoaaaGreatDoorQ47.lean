/- Lemmas for the law on the console: the parts CrZ,RunL. -/
import Derived.Test.YtpiehlfffjhoaaaGreatDoorQ1
import Derived.Test.YtpiehlfffjhoaaaGreatDoorQ0
import Derived.Test.YtpiehlfffjhoaaaGreatDoorQ46
import Derived.Test.YtpiehlfffjhoaaaGreatDoorQ22
import Derived.Test.YtpiehlfffjhoaaaGreatDoorQ6
import Derived.Test.YtpiehlfffjhoaaaGreatDoorQ26
import Derived.Deep.CutBlock
import Derived.Deep.DeepCutAuto
import Derived.Test.YtpiehlfffjhoaaaGreatDoorQ33
namespace Go.Proofs.YtpiehlfffjhoaaaGreatDoor
open Go.RowKit
set_option maxRecDepth 100000
set_option maxHeartbeats 8000000
theorem zbb:(Tryz.prog.info? 5).map (fun i=>(i.zero,i.size,i.bytes))=some (some (.int .u8 0),1,1):=by kernel_rfl
theorem nD (A:Option Addr) (L:List ByteArray) (n c:Nat) (hn:Hid (L.length=n)) (hm:n≤1000000) (hs:Hid (∀ x ∈ L,x.size≤2000000)) (w:World) (hA:Arr w A (zd zn L)) :
 Calls Tryz.prog 44 #[.slice A n c] w (Ret (.string (lnT L)) w):=by
 obtain ⟨i0,hi0,hz0,hz1,hz2⟩:=info_parts (P:=Tryz.prog) (e:=5) (z:=.int .u8 0) (size:=1) (bytes:=1) zbb;have HA:=qH hA;clear hA;go_enter Tryz.func44,Tryz.ntmps44;go_upto_region 2 with fail;have hown:(w.alloc (Obj.cells #[] 5)).ownsRow w.heap.size 5 1 (.slice (some ⟨w.heap.size,0,none⟩) 0 0) 0 []:=zG w w.heap.size 5 1 (Nat.le_refl _);have hv:=zc (Below.refl w.heap.size w) (Obj.cells #[] 5);go_wp2_with fail
 go_loopw [3,4] (fun av i wr=>∃ (j:Nat) (a:ByteArray) (A':Option Addr) (c':Nat),j≤n∧i=.int .i64 j∧av=.slice A' a.size c'∧a.size≤j * 2000001∧Hid (a=lnT (L.take j))∧wr.ownsRow w.heap.size 5 1 (.slice A' a.size c') a.size (Lib.strCells a)∧Below w.heap.size w wr) (fun _ i _=>n - (intOf i).toNat)
 case atStart=>exact ⟨0,⟨#[]⟩,_,_,by omega,rfl,rfl,by decide,qH rfl,hown,hv⟩
 case round=>
  clear hown hv;obtain ⟨j,a,A',c',hj,rfl,rfl,haz,hR,hown,hv⟩:=hrel;have hj0:(0:Int)≤(j:Int):=by omega
  by_cases hlt:j < n
  · have hj1:(j:Int) < (n:Int):=by omega
    obtain ⟨x,hx⟩:=zx (xs:=L) (k:=j) (by rw [hn.out];exact hlt);obtain ⟨ad,rfl,_,c0⟩:=zj (HA.out.below hv) hx;have hxz:=hs.out x (List.mem_of_getElem? hx);have hR2:=qH (show (a ++ x) ++ ⟨#[10]⟩=lnT (L.take (j + 1)) by
     rw [yD hx,oT,←hR.out];apply ByteArray.ext;simp)
    have l1:(⟨#[10]⟩:ByteArray).size=1:=rfl;clear hx hR;go_wp2_with (at_builtin;first
     | (refine Lib.wpList_append_own_string _ rfl _ _ _ _ rfl w.heap.size 5 i0 Tryz.underlying22 Tryz.underlying9 hi0 hz0 hz1 hz2 (.slice A' a.size c') a.size _ rfl hown x rfl (by unfold maxLen;omega) (by omega) hv.size ?_;intro v2 w2 hown2 hg2 _;obtain ⟨A2,c2,hv2,_,_⟩:=xT hown2;subst hv2;have hv3:=zh hv hg2 (zl hown))
     | (refine xp w2 #[.int .u8 10] rfl _ _ 22 5 rfl i0 _ 1 1 Tryz.underlying22 hi0 hz0 hz1 hz2 rfl (by omega) w.heap.size (.slice A2 (a.size + x.size) c2) (a.size + x.size) _ rfl rfl hown2 rfl (by simp [Value.oneCell']) (by unfold maxLen;omega) (by omega) hv3.size ?_;intro A4 c4 w4 hown4 hg4))
    have hsz:(a ++ x).size=a.size + x.size:=ByteArray.size_append' ..;have hsz2:((a ++ x) ++ (⟨#[10]⟩:ByteArray)).size=a.size + x.size + 1:=by rw [ByteArray.size_append',hsz,l1]
    rw [rH,←hsz] at hown4;have h8:Lib.strCells (a ++ x) ++ #[Value.int IntKind.u8 10].toList=Lib.strCells ((a ++ x) ++ ⟨#[10]⟩):=rH (a ++ x) ⟨#[10]⟩;rw [h8,hsz,←hsz2] at hown4;refine ⟨⟨j + 1,(a ++ x) ++ ⟨#[10]⟩,A4,c4,by omega,by go_num,by rw [hsz2],by rw [hsz2];omega,hR2,hown4,zh hv3 hg4 (zl hown2)⟩,by simp [intOf];omega⟩
  · have hj1:¬ (j:Int) < (n:Int):=by omega
    have hR2:=qH (show a=lnT L by rw [hR.out,List.take_of_length_le (by rw [hn.out];omega)]);clear hR;have hcv:=lJ (P:=Tryz.prog) 22 9 5 Tryz.underlying22 Tryz.underlying5 Tryz.underlying9 wr hown rfl;go_wp2_with fail;go_returns;exact Ret.mk (vs hR2.out) hv
theorem zaS {a b:World} {g g2:Nat} {L:List Value} (h:Arr a (some ⟨g2,0,none⟩) L) (k:a.grownBy b (some g)) (hne:g2≠g):Arr b (some ⟨g2,0,none⟩) L:=h.grown k (fun ad e e2=>by
 injection e with e;subst e;injection e2 with e2;exact hne e2)
theorem cQ {k:Nat} {d:Dk} {l:ByteArray} {r:List ByteArray} (hd:d.ok=true):xN (k + 1) d (l :: r)=(if isD (zi 32 l)=true then (wt d (zi 32 l)).2.1 else [sS]) ++ xN k (if isD (zi 32 l)=true then (wt d (zi 32 l)).1 else d) r:=by
 have hc:wK d l=if isD (zi 32 l)=true then wt d (zi 32 l) else (zDk,[],7):=if_pos hd
 by_cases hi:isD (zi 32 l)=true
 · rw [if_pos hi] at hc;rw [if_pos hi,if_pos hi,qT (by rw [hc];exact (mx hd _).2.2),hc]
 · rw [if_neg hi] at hc;rw [if_neg hi,if_neg hi,pI (by rw [hc];decide)]
theorem eu {d:Dk} (h:d.ok=true) {ws:List ByteArray} (_hd:isD ws=true):rT (wt d ws).2.1:=by
 unfold wt;split
 · exact xz (sY 7)
 · split
   · exact mJ h _ _
   · exact xz (sY _)
theorem bZ {d:Dk} {O ws:List ByteArray} (h:isD ws=true):doS d O ws=((wt d ws).1,O ++ (wt d ws).2.1):=if_pos h
theorem da {d:Dk} {O ws:List ByteArray} (h:isD ws=false):doS d O ws=(d,O):=if_neg (by rw [h];simp)
theorem zbH {w:World} {g:Nat} (h:Blk w g 73 #[.int .i64 2500,.int .i64 2400,.int .i64 2500,.int .i64 3200,.slice none 0 0,.string ⟨#[99,97,108,102]⟩,.string ⟨#[98,108,97,99,107]⟩,.string ⟨#[]⟩,.string ⟨#[108,101,97,116,104,101,114]⟩,.int .i64 40,.int .i64 0,.int .i64 0,.int .i64 0,.bool false,.string ⟨#[]⟩,.slice none 0 0,.slice none 0 0,.slice none 0 0]):SR w w g newDk [] [] [] none none none none 0 0 0 0 0 0 0 0:=
 ⟨h,rfl,rfl,rfl,rfl,World.ownsRow_nil _ _ _ _,World.ownsRow_nil _ _ _ _,Arr.nil _ _,Arr.nil _ _,(fun _ e=>by cases e),(fun _ e=>by cases e),(fun _ e=>by cases e),(fun _ e=>by cases e),(fun _ _ e=>by cases e),(fun _ _ e=>by cases e),(fun _ _ e=>by cases e),World.grownBy.refl w _,(fun _ _ e=>by cases e),(fun _ _ e=>by cases e)⟩
theorem fi (t:ByteArray) (hz:t.size≤1048576) (w:World):Calls Tryz.prog 13 #[.string t] w (Ret (.string (rf t)) w):=by
 have HSP:=fun w=>wQ 10 t (by omega) w;have hm0:=qN 10 t;have hm1:=Nat.le_trans (tK 10 t) (Nat.succ_le_succ hz);have hls:=fun y (h:y ∈ zi 10 t)=>Nat.le_trans (wj h) hz;have hdc:=ox (zi 10 t) hm0;have hrt:rf t=lnT (xN 60 newDk (ux (zi 10 t))):=rfl;obtain ⟨L,hL⟩:=zN (zi 10 t);rw [←hL] at HSP hm0 hm1 hls hdc hrt;obtain ⟨m,hm⟩:=zN L.length;rw [←hm] at HSP hm0 hm1 hdc;have HML:Hid (L.length=m):=qH hm.symm;replace HSP:=qH HSP;have HLS:=qH hls;have HDC:=qH hdc;have HRT:=qH hrt;clear hL hm hls hdc hrt;go_enter Tryz.func13,Tryz.ntmps13;go_wp2_with fail;refine qS (aO _) fun W1 hb1=>?_;go_wp2_with fail;obtain ⟨g,hg⟩:=zN W1.heap.size;obtain ⟨W2,hW2⟩:=zN (W1.alloc (Obj.cells #[.int .i64 2500,.int .i64 2400,.int .i64 2500,.int .i64 3200,.slice none 0 0,.string nj,.string pd,.string ⟨#[]⟩,.string sU,.int .i64 40,.int .i64 0,.int .i64 0,.int .i64 0,.bool false,.string ⟨#[]⟩,.slice none 0 0,.slice none 0 0,.slice none 0 0] 73));have HBK:Blk W2 g 73 #[.int .i64 2500,.int .i64 2400,.int .i64 2500,.int .i64 3200,.slice none 0 0,.string ⟨#[99,97,108,102]⟩,.string ⟨#[98,108,97,99,107]⟩,.string ⟨#[]⟩,.string ⟨#[108,101,97,116,104,101,114]⟩,.int .i64 40,.int .i64 0,.int .i64 0,.int .i64 0,.bool false,.string ⟨#[]⟩,.slice none 0 0,.slice none 0 0,.slice none 0 0]:=by rw [hW2,hg];exact Blk.new _ _ _
 have hb2:Below w.heap.size w W2:=by rw [hW2];exact zc (za (Below.refl _ _) hb1) _
 have hgw:w.heap.size≤g:=by rw [hg];exact hb1.size
 rw [←hW2,←hg];clear hW2 hg hb1;refine (HSP.out _).mono ?_;rintro e W3 ⟨B,cw,rfl,ho,hb⟩;obtain ⟨gb,rfl⟩:=xj ho (by omega);have HAL:Hid (Arr W3 (some ⟨gb,0,none⟩) (zd zn L)):=qH (by rw [yH];exact Arr.own ho);have hgb:W2.heap.size≤gb:=zl ho gb rfl;have hnc:m≤cw:=by
  obtain ⟨_,_,e1,h1,_⟩:=xT ho;injection e1 with _ _ e3;omega
 have hgl:=HBK.lt;have HNE:Hid (gb≠g):=qH (by omega);have HS3:=qH (zbH (HBK.below hb));have HV:=qH (za hb2 hb);have HZ3:=qH hb.size;clear HSP ho hb HBK hb2 hgl;obtain ⟨mp,hmp⟩:=zN (m - 1);have hmp1:(m:Int) - 1=(mp:Int):=by omega
 have hmp2:(mp:Int) < (m:Int):=by omega
 have hmp3:(0:Int)≤(mp:Int):=by omega
 have hmp4:(mp:Int)≤(m:Int):=by omega
 have hmp5:mp≤m:=by omega
 have hmp6:(mp:Int)≤(cw:Int):=by omega
 have HDC2:=HDC.out;rw [←hmp] at HDC2;have HDC3:=qH HDC2;clear HDC HDC2 hmp;obtain ⟨yl,hyl⟩:=zx (xs:=L) (k:=mp) (by rw [HML.out];omega);have x0:=zW HAL.out hyl;have HYL:=qH hyl;clear hyl
 go_upto_if 17 with fail
 go_cut [4] (fun v wx=>∃ (m2 c2:Nat) (M:List ByteArray),v=.slice (some ⟨gb,0,none⟩) m2 c2∧M.length=m2∧m2≤m∧Hid (M=ux L)∧Hid (∀ y ∈ M,y ∈ L)∧Hid (Arr wx (some ⟨gb,0,none⟩) (zd zn M))∧wx=W3)
 case first=>
  have HYE:yl.toList.isEmpty=decide (yl.size=0):=xH yl;rcases HDC3.out with ⟨h1,h2⟩ | ⟨y,h1,h2,h3⟩
  · rw [HYL.out] at h1;injection h1 with h1;subst h1;have HM:Hid (ux L=L.take mp):=qH h2;have hye:(⟨#[]⟩:ByteArray).toList.isEmpty=true:=HYE.trans (by decide);clear HYL HYE h2;(try rw [hye]);go_wp2_with fail
    go_meet
    exact ⟨mp,_,L.take mp,rfl,by rw [List.length_take,HML.out];omega,hmp5,qH HM.out.symm,qH (fun y hy=>List.mem_of_mem_take hy),qH (by rw [yH,List.map_take,←yH];exact HAL.out.take mp),rfl⟩
  · rw [HYL.out] at h1;injection h1 with h1;subst h1;rw [decide_eq_false (fun e=>h2 (tl e))] at HYE;have HM:Hid (ux L=L):=qH h3;clear HYL h2 h3;(try rw [HYE]);go_wp2_with fail
    go_meet
    exact ⟨m,_,L,rfl,HML.out,Nat.le_refl _,qH HM.out.symm,qH (fun y hy=>hy),HAL,rfl⟩
 case rest=>
 obtain ⟨m2,c2,M,rfl,hM2,hm2,HM,HMS,HAM,hw⟩:=hcut;rw [hw] at HAM ⊢;clear hw x0 HYL HDC3 HAL;have HM2:=qH hM2;have HG0:Hid (xN 60 newDk M=[] ++ xN (60 - 0) newDk (M.drop 0)):=qH rfl;have HRT2:Hid (rf t=lnT (xN 60 newDk M)):=qH (by rw [HRT.out,HM.out]);have HOK0:=qH kX;clear HRT HM hM2;go_wp2_with fail
 go_loopw [5] (fun i wr=>∃ (j:Nat) (d:Dk) (O ts:List ByteArray) (ns:List Int) (A Ao An At:Option Addr) (n c no co kn cn kt ct:Nat),i=.int .i64 j∧j≤m2∧j≤60∧no≤5001 * j∧Hid (SR W3 wr g d O ns ts A Ao An At n c no co kn cn kt ct)∧W3.heap.size≤wr.heap.size∧Hid (∀ y ∈ O,y.size≤2000000)∧Hid (xN 60 newDk M=O ++ xN (60 - j) d (M.drop j))∧Hid (d.ok=true)) (fun i _=>m2 - (intOf i).toNat)
 case atStart=>exact ⟨0,newDk,[],[],[],none,none,none,none,0,0,0,0,0,0,0,0,rfl,by omega,by omega,by omega,HS3,Nat.le_refl _,qH (fun y hy=>by cases hy),HG0,HOK0⟩
 case round=>
 clear HG0 HS3 HOK0;obtain ⟨j,d,O,ts,ns,A,Ao,An,At,n,c,no,co,kn,cn,kt,ct,rfl,hj,hj60,hno,HS,hwr,HSM,HRG,HOK⟩:=hrel;have hj0:(0:Int)≤(j:Int):=by omega
 by_cases hlt:j < m2
 case neg=>
  have hj1:¬ (j:Int) < (m2:Int):=by omega
  have HRES:=qH (show rf t=lnT O by
   rw [HRT2.out,HRG.out,List.drop_eq_nil_of_le (by rw [HM2.out];omega),jl,List.append_nil])
  clear HRG HOK;have c15:wr.cell? ⟨g,15,none⟩=some (.slice Ao no co):=HS.out.blk.cell 15;have HLN:=qH (nD Ao O no co (qH HS.out.ho) (by omega) HSM wr (Arr.own HS.out.out));rw [←HRES.out] at HLN;have HVV:=qH (zh HV.out HS.out.bel (fun p e=>by injection e with e;rw [←e];exact hgw));clear HS HRES;go_wp2_with fail;refine qS HLN.out fun w9 hb9=>?_;go_wp2_with fail;go_returns;exact Ret.mk rfl (za HVV.out hb9)
 have hj1:(j:Int) < (m2:Int):=by omega
 obtain ⟨line,hline⟩:=zx (xs:=M) (k:=j) (by rw [HM2.out];exact hlt);have hlz:=HLS.out line (HMS.out line (List.mem_of_getElem? hline));have HAM2:=qH (zaS HAM.out HS.out.bel HNE.out);have x1:=zW HAM2.out hline;have HDR:=qH (yY hline);clear hline;by_cases h60:j=60
 case pos=>
  have hj6:¬ (j:Int) < 60:=by omega
  have hj7:(60:Int)≤(j:Int):=by omega
  have HO5:Hid (O.length=no):=qH HS.out.ho;have HG2:=qH (show xN 60 newDk M=O ++ [xw 5] by
   rw [HRG.out,HDR.out,h60];rfl)
  have HRP:=qH (yI W3 wr g d O ns ts A Ao An At n c no co kn cn kt ct HS.out (by omega) 5);rw [if_neg (by decide)] at HRP;clear HRG HDR HAM2 HS;go_wp2_with fail;refine HRP.out.mono ?_;rintro e W4 ⟨rfl,hz4,A,Ao,An,At,n,c,no5,co,kn,cn,kt,ct,hs⟩;have HS:=qH hs;have HSM5:Hid (∀ y ∈ O ++ [xw 5],y.size≤2000000):=qH (fun y hy=>by
   rcases List.mem_append.1 hy with hy | hy
   · exact HSM.out y hy
   · obtain rfl:y=xw 5:=by simpa using hy
     exact sY 5)
  have HRES:=qH (show rf t=lnT (O ++ [xw 5]) by rw [HRT2.out,HG2.out]);clear HSM HG2 HRP;have hn5:no5≤300061:=by
   rw [←HS.out.ho,List.length_append,HO5.out]
   show no + 1≤300061
   omega
  have c15:W4.cell? ⟨g,15,none⟩=some (.slice Ao no5 co):=HS.out.blk.cell 15;have HLN:=qH (nD Ao (O ++ [xw 5]) no5 co (qH HS.out.ho) (by omega) HSM5 W4 (Arr.own HS.out.out));rw [←HRES.out] at HLN;have HVV:=qH (zh HV.out HS.out.bel (fun p e=>by injection e with e;rw [←e];exact hgw));clear HS HRES;go_wp2_with fail;refine qS HLN.out fun w9 hb9=>?_;go_wp2_with fail;go_returns;exact Ret.mk rfl (za HVV.out hb9)
 have hj6:(j:Int) < 60:=by omega
 have hj7:¬ (60:Int)≤(j:Int):=by omega
 have HDO:=qH (zcg W3 wr g d O ns ts A Ao An At n c no co kn cn kt ct HS.out (by omega) HOK.out line hlz);obtain ⟨k,hk⟩:∃ k,60 - j=k + 1:=⟨59 - j,by omega⟩
 have HK2:Hid (60 - (j + 1)=k):=qH (by omega);have HSTEP:=qH (show xN 60 newDk M=O ++ ((if isD (zi 32 line)=true then (wt d (zi 32 line)).2.1 else [sS]) ++ xN k (if isD (zi 32 line)=true then (wt d (zi 32 line)).1 else d) (M.drop (j + 1))) by
  rw [HRG.out,HDR.out,hk,cQ HOK.out])
 have HLO:=qH (show O.length≤5001 * j by rw [HS.out.ho];exact hno);clear HRG HDR HAM2 HS hk;go_wp2_with fail;refine HDO.out.mono ?_;rintro e W4 ⟨rfl,hz4,ns2,ts2,A2,Ao2,An2,At2,n2,c2,no2,co2,kn2,cn2,kt2,ct2,hs⟩;cases hi:isD (zi 32 line)
 · rw [da hi] at hs;have HSAY:=qH (tQ W3 W4 g d O ns2 ts2 A2 Ao2 An2 At2 n2 c2 no2 co2 kn2 cn2 kt2 ct2 hs (by have h9:O.length=no2:=hs.ho;have:=HLO.out;omega) ⟨#[63]⟩);rw [hi] at HSTEP;have HSTEP2:=qH HSTEP.out;clear HSTEP HDO hs hi;go_wp2_with fail;refine HSAY.out.mono ?_;rintro e W5 ⟨rfl,hz5,A3,Ao3,An3,At3,n3,c3,no3,co3,kn3,cn3,kt3,ct3,hs⟩;have HS5:=qH hs;clear HSAY hs;go_wp2_with fail;have HL5:no3≤5001 * (j + 1):=by
    rw [←HS5.out.ho,List.length_append];have:=HLO.out
    show O.length + 1≤_
    omega
   refine ⟨⟨j + 1,d,O ++ [sS],ts2,ns2,A3,Ao3,An3,At3,n3,c3,no3,co3,kn3,cn3,kt3,ct3,by go_num,by omega,by omega,HL5,HS5,by omega,qH (fun y hy=>(List.mem_append.1 hy).elim (HSM.out y) (fun e=>by
    obtain rfl:y=sS:=by simpa using e
    decide)),qH ?_,HOK⟩,by simp [intOf];omega⟩
   rw [HK2.out,List.append_assoc];exact HSTEP2.out
 · rw [bZ hi] at hs;have HS5:=qH hs;have HSMB:=qH (eu HOK.out hi);have HOK2:=qH (mx HOK.out (zi 32 line)).1;rw [hi] at HSTEP;have HSTEP2:=qH HSTEP.out;clear HSTEP HDO hs hi;go_wp2_with fail;have HL5:no2≤5001 * (j + 1):=by
    rw [←HS5.out.ho];have h1:=HLO.out;have h2:=HSMB.out.1
    show (O ++ (wt d (zi 32 line)).2.1).length≤_
    rw [List.length_append];omega
   refine ⟨⟨j + 1,(wt d (zi 32 line)).1,O ++ (wt d (zi 32 line)).2.1,ts2,ns2,A2,Ao2,An2,At2,n2,c2,no2,co2,kn2,cn2,kt2,ct2,by go_num,by omega,by omega,HL5,HS5,by omega,qH (fun y hy=>(List.mem_append.1 hy).elim (HSM.out y) (HSMB.out.2 y)),qH ?_,HOK2⟩,by simp [intOf];omega⟩;rw [HK2.out,List.append_assoc];exact HSTEP2.out
theorem qW (t:ByteArray) (hz:t.size≤9223372036854775807) (w:World) (hT:Tabs w) (hC:ChgN w) (hE:CdN w) :
 Calls Tryz.prog 4 #[.string t] w (Ret (.bool true) w):=by
 have HT:=qH hT;have HC:=qH hC;have HE:=qH hE;clear hT hC hE;go_enter Tryz.func4,Tryz.ntmps4;by_cases hb:1048576 < t.size
 case pos=>
  have h1:(1048576:Int) < (t.size:Int):=by omega
  go_wp2_with fail;go_returns;exact Ret.mk rfl (Below.refl _ _)
 have h1:¬ (1048576:Int) < (t.size:Int):=by omega
 have HS:=qH (fi t (by omega) w);have HI:=qH (fun w=>eJ t (by omega) w);obtain ⟨r,hr⟩:=zN (rf t);rw [←hr] at HS HI;clear hr;have hq:(!(r.toList == r.toList))=false:=by simp
 go_wp2_with fail;refine qS HS.out fun W1 hv=>?_;go_wp2_with fail;refine qS (HI.out _ (HT.out.below hv) (HC.out.below hv) (HE.out.below hv)) fun W2 hb2=>?_;replace hv:=za hv hb2;clear hb2;go_wp2_with fail;go_returns;exact Ret.mk rfl hv
end Go.Proofs.YtpiehlfffjhoaaaGreatDoor
