/- The console's reference: a line is executed. -/
import Derived.Test.YtpiehlfffjhoaaaGreatDoorQ46
namespace Go.Proofs.YtpiehlfffjhoaaaGreatDoor
open Go.RowKit Go.Proofs.Tryz
set_option maxRecDepth 100000
set_option maxHeartbeats 8000000
theorem ju(L:List ByteArray)(k:Nat):(yB ⟨#[32]⟩ (L.drop k)).size<=(yB ⟨#[32]⟩ L).size:=by
 rw [rK,rK]
 induction k generalizing L with
 | zero=>simp
 | succ k ih=>
   cases L with
   | nil=>simp
   | cons a r=>
     rw [List.drop_succ_cons];refine Nat.le_trans (ih r) ?_;rw [List.map_cons,Lib.join_cons,List.length_append];cases r with
     | nil=>simp [Lib.join_nil]
     | cons b s=>
       rw [List.map_cons,Lib.join_cons,List.length_append];simp only [Lib.joinTail,List.map_cons,List.flatten_cons,List.length_append];omega
theorem zcm(d:Dk)(t:ByteArray)(h:¬ (vj d t).2.2=0):(vj d t).1=d:=by
 unfold vj noD at h |-;cases hr:xl t with
 | none=>rfl
 | some f=>
   rw [hr] at h;exact absurd rfl h
theorem zcx(d:Dk)(t:ByteArray)(h:¬ (xt d t).2.2=0):(xt d t).1=d:=by
 unfold xt noD at h |-;cases hr:wg t with
 | none=>rfl
 | some x=>
   rw [hr] at h;simp only [] at h |-;by_cases hc:(yT d.xs x).2=0
   ·rw [if_pos hc] at h;exact absurd rfl h
   ·rw [if_neg hc]
theorem qK{c:Prop}[Decidable c]{d:Dk}{r:xD}{k:Int}(hr:r.2.2=0)(h:¬ (if c then r else noD d k).2.2=0):(if c then r else noD d k).1=d:=by
 by_cases hc:c
 ·rw [if_pos hc] at h;exact absurd hr h
 ·rw [if_neg hc];rfl
theorem zag(d:Dk)(nm t:ByteArray)(h:¬ (xB d nm t).2.2=0):(xB d nm t).1=d:=by
 unfold xB at h |-;cases hr:wv t with
 | none=>rfl
 | some p=>
   obtain ⟨k,a⟩:=p;rw [hr] at h;simp only [] at h |-;by_cases h1:(yw d.xs nm).2=0
   ·rw [if_pos h1] at h |-;exact qK rfl h
   ·rw [if_neg h1];rfl
theorem zc7(d:Dk)(ws:List ByteArray)(ns:List Int)(h:¬ (yi d ws ns).2.2=0):(yi d ws ns).1=d:=by
 unfold yi at h |-;by_cases h1:zf ws 0=ya
 ·rw [if_pos h1] at h |-;exact zcm _ _ h
 rw [if_neg h1] at h |-;by_cases h2:zf ws 0=yb
 ·rw [if_pos h2] at h |-;exact zcx _ _ h
 rw [if_neg h2] at h |-;by_cases h3:zf ws 0=zV
 ·rw [if_pos h3];rfl
 rw [if_neg h3] at h |-;by_cases h4:zf ws 0=yv
 ·rw [if_pos h4] at h |-;exact qK rfl h
 rw [if_neg h4] at h |-;by_cases h5:zf ws 0=yc
 ·rw [if_pos h5] at h |-;exact qK rfl h
 rw [if_neg h5] at h |-;by_cases h6:zf ws 0=zJ
 ·rw [if_pos h6] at h |-;exact zag _ _ _ h
 rw [if_neg h6] at h |-;by_cases h7:zf ws 0=zO
 ·rw [if_pos h7] at h |-;exact qK rfl h
 rw [if_neg h7] at h |-;by_cases h8:zf ws 0=zw
 ·rw [if_pos h8] at h |-;exact qK rfl h
 rw [if_neg h8] at h |-;by_cases h9:zf ws 0=zM
 ·rw [if_pos h9] at h |-;exact qK rfl h
 rw [if_neg h9] at h |-;by_cases h10:zf ws 0=zL
 ·rw [if_pos h10] at h |-;exact qK rfl h
 rw [if_neg h10];rfl
theorem vE{d:Dk}{ws:List ByteArray}(hd:isD ws=true)(h:yQ ws (zW (zf ws 0)).data.toList 1=true) :
 (wR d ws).1=(yi d ws (wdN ws (zW (zf ws 0)).data.toList 1)).1/\(wR d ws).2.1=wS (yi d ws (wdN ws (zW (zf ws 0)).data.toList 1)):=by
 unfold wR wS;rw [fV ws hd,if_pos h];simp only [];by_cases hc:(yi d ws (wdN ws (zW (zf ws 0)).data.toList 1)).2.2=0
 ·rw [if_pos hc,if_pos hc];exact ⟨rfl,rfl⟩
 ·rw [if_neg hc,if_neg hc];exact ⟨(zc7 _ _ _ hc).symm,rfl⟩
theorem vD{d:Dk}{ws:List ByteArray}(hd:isD ws=true)(h:yQ ws (zW (zf ws 0)).data.toList 1=false):wR d ws=(d,[wZ 7],0):=by
 unfold wR;rw [fV ws hd,if_neg (by rw [h];simp)]
def doS(d:Dk)(O:List ByteArray)(ws:List ByteArray):Dk × List ByteArray:=if isD ws=true then ((wR d ws).1,O ++ (wR d ws).2.1) else (d,O)
def zdu(w0:World)(g:Nat)(d:Dk)(O ws:List ByteArray)(w:World)(e:Ending)(w':World):Prop:=
 e=.returned (.bool (isD ws))/\w.heap.size<=w'.heap.size/\∃ (ns:List Int) (ts:List ByteArray) (A Ao An At:Option Addr) (n c no co kn cn kt ct:Nat),SR w0 w' g (doS d O ws).1 (doS d O ws).2 ns ts A Ao An At n c no co kn cn kt ct
theorem fa{d:Dk}{ws:List ByteArray}(h:zf ws 0=ya)(h2:ws.length=2):yi d ws (wdN ws (zW (zf ws 0)).data.toList 1)=vj d (zf ws 1):=by
 unfold yi;rw [h,if_pos rfl,zbr h2]
theorem fc{d:Dk}{ws:List ByteArray}(h:zf ws 0=yc):yi d ws (wdN ws (zW (zf ws 0)).data.toList 1)=vW d (zf ws 1):=by
 rw [h,tu];unfold yi
 first
  | (rw [h,if_neg (show ¬ yc=ya by decide),if_neg (show ¬ yc=yb by decide),if_neg (show ¬ yc=zV by decide),if_neg (show ¬ yc=yv by decide),if_pos rfl];done)
  | (rw [h,if_neg (show ¬ yc=ya by decide),if_neg (show ¬ yc=yb by decide),if_neg (show ¬ yc=zV by decide),if_neg (show ¬ yc=yv by decide),if_pos rfl];rfl)
theorem ku{d:Dk}{ws:List ByteArray}(h:zf ws 0=zw):yi d ws (wdN ws (zW (zf ws 0)).data.toList 1)=xV d (yz ws):=by
 rw [h,ue];unfold yi
 first
  | (rw [h,if_neg (show ¬ zw=ya by decide),if_neg (show ¬ zw=yb by decide),if_neg (show ¬ zw=zV by decide),if_neg (show ¬ zw=yv by decide),if_neg (show ¬ zw=yc by decide),if_neg (show ¬ zw=zJ by decide),if_neg (show ¬ zw=zO by decide),if_pos rfl];done)
  | (rw [h,if_neg (show ¬ zw=ya by decide),if_neg (show ¬ zw=yb by decide),if_neg (show ¬ zw=zV by decide),if_neg (show ¬ zw=yv by decide),if_neg (show ¬ zw=yc by decide),if_neg (show ¬ zw=zJ by decide),if_neg (show ¬ zw=zO by decide),if_pos rfl];rfl)
theorem fb{d:Dk}{ws:List ByteArray}(h:zf ws 0=yb):yi d ws (wdN ws (zW (zf ws 0)).data.toList 1)=xt d (yz ws):=by
 rw [h,tt];unfold yi
 first
  | (rw [h,if_neg (show ¬ yb=ya by decide),if_pos rfl];done)
  | (rw [h,if_neg (show ¬ yb=ya by decide),if_pos rfl];rfl)
theorem jg{d:Dk}{ws:List ByteArray}(h:zf ws 0=zO):yi d ws (wdN ws (zW (zf ws 0)).data.toList 1)=wF d (yz ws):=by
 rw [h,uG];unfold yi
 first
  | (rw [h,if_neg (show ¬ zO=ya by decide),if_neg (show ¬ zO=yb by decide),if_neg (show ¬ zO=zV by decide),if_neg (show ¬ zO=yv by decide),if_neg (show ¬ zO=yc by decide),if_neg (show ¬ zO=zJ by decide),if_pos rfl];done)
  | (rw [h,if_neg (show ¬ zO=ya by decide),if_neg (show ¬ zO=yb by decide),if_neg (show ¬ zO=zV by decide),if_neg (show ¬ zO=yv by decide),if_neg (show ¬ zO=yc by decide),if_neg (show ¬ zO=zJ by decide),if_pos rfl];rfl)
theorem jc{d:Dk}{ws:List ByteArray}(h:zf ws 0=zJ):yi d ws (wdN ws (zW (zf ws 0)).data.toList 1)=xB d (zf ws 1) (zf ws 2 ++ ⟨#[32]⟩ ++ zf ws 3):=by
 rw [h,uC];unfold yi
 first
  | (rw [h,if_neg (show ¬ zJ=ya by decide),if_neg (show ¬ zJ=yb by decide),if_neg (show ¬ zJ=zV by decide),if_neg (show ¬ zJ=yv by decide),if_neg (show ¬ zJ=yc by decide),if_pos rfl];done)
  | (rw [h,if_neg (show ¬ zJ=ya by decide),if_neg (show ¬ zJ=yb by decide),if_neg (show ¬ zJ=zV by decide),if_neg (show ¬ zJ=yv by decide),if_neg (show ¬ zJ=yc by decide),if_pos rfl];rfl)
theorem eV{d:Dk}{ws:List ByteArray}(h:zf ws 0=yv):yi d ws (wdN ws (zW (zf ws 0)).data.toList 1)=uQ d (zq (zf ws 1)) (zq (zf ws 2)) (zq (zf ws 3)):=by
 rw [h,sk];unfold yi
 first
  | (rw [h,if_neg (show ¬ yv=ya by decide),if_neg (show ¬ yv=yb by decide),if_neg (show ¬ yv=zV by decide),if_pos rfl];done)
  | (rw [h,if_neg (show ¬ yv=ya by decide),if_neg (show ¬ yv=yb by decide),if_neg (show ¬ yv=zV by decide),if_pos rfl];rfl)
theorem jf{d:Dk}{ws:List ByteArray}(h:zf ws 0=zM):yi d ws (wdN ws (zW (zf ws 0)).data.toList 1)=vu d (zq (zf ws 1)) (zq (zf ws 2)) (zq (zf ws 3)) (zq (zf ws 4)):=by
 rw [h,uF];unfold yi
 first
  | (rw [h,if_neg (show ¬ zM=ya by decide),if_neg (show ¬ zM=yb by decide),if_neg (show ¬ zM=zV by decide),if_neg (show ¬ zM=yv by decide),if_neg (show ¬ zM=yc by decide),if_neg (show ¬ zM=zJ by decide),if_neg (show ¬ zM=zO by decide),if_neg (show ¬ zM=zw by decide),if_pos rfl];done)
  | (rw [h,if_neg (show ¬ zM=ya by decide),if_neg (show ¬ zM=yb by decide),if_neg (show ¬ zM=zV by decide),if_neg (show ¬ zM=yv by decide),if_neg (show ¬ zM=yc by decide),if_neg (show ¬ zM=zJ by decide),if_neg (show ¬ zM=zO by decide),if_neg (show ¬ zM=zw by decide),if_pos rfl];rfl)
theorem jd{d:Dk}{ws:List ByteArray}(h:zf ws 0=zL):yi d ws (wdN ws (zW (zf ws 0)).data.toList 1)=vp d (zq (zf ws 1)) (zf ws 2) (zq (zf ws 3)):=by
 rw [h,uD];unfold yi
 first
  | (rw [h,if_neg (show ¬ zL=ya by decide),if_neg (show ¬ zL=yb by decide),if_neg (show ¬ zL=zV by decide),if_neg (show ¬ zL=yv by decide),if_neg (show ¬ zL=yc by decide),if_neg (show ¬ zL=zJ by decide),if_neg (show ¬ zL=zO by decide),if_neg (show ¬ zL=zw by decide),if_neg (show ¬ zL=zM by decide),if_pos rfl];done)
  | (rw [h,if_neg (show ¬ zL=ya by decide),if_neg (show ¬ zL=yb by decide),if_neg (show ¬ zL=zV by decide),if_neg (show ¬ zL=yv by decide),if_neg (show ¬ zL=yc by decide),if_neg (show ¬ zL=zJ by decide),if_neg (show ¬ zL=zO by decide),if_neg (show ¬ zL=zw by decide),if_neg (show ¬ zL=zM by decide),if_pos rfl];rfl)
theorem je{d:Dk}{ws:List ByteArray}(h:zf ws 0=zV):yi d ws (wdN ws (zW (zf ws 0)).data.toList 1)=vS d:=by
 rw [h,uE];unfold yi
 first
  | (rw [h,if_neg (show ¬ zV=ya by decide),if_neg (show ¬ zV=yb by decide),if_pos rfl];done)
  | (rw [h,if_neg (show ¬ zV=ya by decide),if_neg (show ¬ zV=yb by decide),if_pos rfl];rfl)
theorem eX{d:Dk}{ws:List ByteArray}(h:zf ws 0=yE):yi d ws (wdN ws (zW (zf ws 0)).data.toList 1)=sF d:=by
 rw [h,sl];unfold yi
 first
  | (rw [h,if_neg (show ¬ yE=ya by decide),if_neg (show ¬ yE=yb by decide),if_neg (show ¬ yE=zV by decide),if_neg (show ¬ yE=yv by decide),if_neg (show ¬ yE=yc by decide),if_neg (show ¬ yE=zJ by decide),if_neg (show ¬ yE=zO by decide),if_neg (show ¬ yE=zw by decide),if_neg (show ¬ yE=zM by decide),if_neg (show ¬ yE=zL by decide)];done)
  | (rw [h,if_neg (show ¬ yE=ya by decide),if_neg (show ¬ yE=yb by decide),if_neg (show ¬ yE=zV by decide),if_neg (show ¬ yE=yv by decide),if_neg (show ¬ yE=yc by decide),if_neg (show ¬ yE=zJ by decide),if_neg (show ¬ yE=zO by decide),if_neg (show ¬ yE=zw by decide),if_neg (show ¬ yE=zM by decide),if_neg (show ¬ yE=zL by decide)];rfl)
theorem zdD(w0 w:World)(g:Nat)(d:Dk)(O:List ByteArray)(ns:List Int)(ts:List ByteArray)(A Ao An At:Option Addr)(n c no co kn cn kt ct:Nat)(h:SR w0 w g d O ns ts A Ao An At n c no co kn cn kt ct)(hno:no<=900000)(hd:d.ok=true)(line:ByteArray)(hz:line.size<=1048576) :
 Calls prog 42 #[.pointer (some ⟨g,0,none⟩),.string line] w (zdu w0 g d O (zl 32 line) w):=by
 have HSP:=fun w=>vx 32 line (by omega) w;have hle:=qn 32 line;have hpos:=jY 32 line;have HWZ:=qH (fun y (hy:y ∈ zl 32 line)=>Nat.le_trans (wU (c:=32) hy) hz);have HJZ:=qH (fun k=>Nat.le_trans (ju (zl 32 line) k) (by rw [fM];exact hz:(yB ⟨#[32]⟩ (zl 32 line)).size<=1048576));obtain ⟨ws,hws⟩:=zN (zl 32 line);rw [<-hws] at HSP hle hpos HWZ HJZ |-;obtain ⟨nw,hnw⟩:=zN ws.length;rw [<-hnw] at HSP hle hpos;have HNW:=qH hnw.symm;replace HSP:=qH HSP;have H:=qH h;have hgl:=h.blk.lt;have HD:=qH hd;clear hws hnw h hd;go_in;go_wp2_with fail;refine (HSP.out _).mono ?_;rintro e W1 ⟨B,cw,rfl,ho,hb⟩;obtain ⟨gb,rfl⟩:=xu ho (by omega);have HAW:=qH (show Arr W1 (some ⟨gb,0,none⟩) (zd zt ws) by rw [xo];exact Arr.own ho);have hgb:w.heap.size<=gb:=zn ho gb rfl;have hgb1:gb < W1.heap.size:=yr ho gb rfl;have HBG:Hid (∀ ad,(some ⟨gb,0,none⟩:Option Addr)=some ad->ad.block≠g/\ad.block < W1.heap.size):=qH (fun ad e=>by
  injection e with e;subst e;exact ⟨by show gb≠g;omega,hgb1⟩)
 have HS1:=qH (H.out.below hb);have HZ1:=qH hb.size;have hn0:0 < nw:=hpos;have hn1:(nw:Int)<=1048577:=by omega
 have hn2:(0:Int) < (nw:Int):=by omega
 have hwn:IntKind.i64.wrap ((nw:Int) - 1)=(nw:Int) - 1:=IntWalk.i64_in _ (by omega);have k0:W1.cell? ⟨gb,0,none⟩=some (.string (zf ws 0)):=yh HAW.out (wA (by rw [HNW.out];exact hn0));have HFM:=fun w=>bW (zf ws 0) w;have HWD:=qH (fun V A Ao An At n c no co kn cn kt ct (h:SR w0 V g d O ns ts A Ao An At n c no co kn cn kt ct)=>True.intro);clear ho hb HSP HWD H hpos;rcases mF (zf ws 0) with hq | hq | hq | hq | hq | hq | hq | hq | hq | hq | hq | ⟨hq,hq2⟩
 · have HFM2:=qH (show ∀ w,Calls prog 97 #[.string ⟨#[102,111,111,116]⟩] w (RetQ (.string ⟨#[120]⟩) w) from fun w=>by
    have h9:=HFM w;rw [hq,sO] at h9;exact h9)
   have k0':W1.cell? ⟨gb,0,none⟩=some (.string ⟨#[102,111,111,116]⟩):=by rw [hq] at k0;exact k0
   have HID:=qH (zaY hq);have HQ:=qH hq;have HFM:=HFM2;rw [HNW.out] at HID;clear k0 HFM2 hq;by_cases hc:2=nw
   case neg=>
    have hcI:((1:Int) != (nw:Int) - 1)=true:=by rw [bne_iff_ne];omega
    have HF:Hid (isD ws=false):=qH (by rw [HID.out];exact decide_eq_false hc);go_wp2_with fail;refine qR (HFM.out _) ?_;go_wp2;go_returns;exact ⟨by rw [HF.out];rfl,HZ1.out,ns,ts,A,Ao,An,At,n,c,no,co,kn,cn,kt,ct,by unfold doS;rw [if_neg (by rw [HF.out];simp)];exact HS1.out⟩
   have HF:Hid (isD ws=true):=qH (by rw [HID.out];exact decide_eq_true hc);have hcI:((1:Int) != (nw:Int) - 1)=false:=by
    rw [bne_eq_false_iff_eq];omega
   have HRW:=qH (wV w0 W1 g d O ns ts A Ao An At n c no co kn cn kt ct HS1.out ws (some ⟨gb,0,none⟩) nw cw HAW.out HBG HNW hn1 HWZ HJZ ⟨#[120]⟩ (by show 1<=4;omega) (by show 1 + 1<=nw;omega));unfold uK at HRW;have HBAD:=qH (fun h9=>vD (d:=d) HF.out (show yQ ws (zW (zf ws 0)).data.toList 1=false by rw [HQ.out,sO];exact h9));have HRUN:=qH (fun h9=>vE (d:=d) HF.out (show yQ ws (zW (zf ws 0)).data.toList 1=true by rw [HQ.out,sO];exact h9));rw [fa HQ.out (by rw [HNW.out];omega)] at HRUN;obtain ⟨bw,hbw⟩:=zN (yQ ws (⟨#[120]⟩:ByteArray).data.toList 1);rw [<-hbw] at HRW HBAD HRUN;clear hbw;go_wp2_with fail;refine qR (HFM.out _) ?_;go_wp2_with fail;refine HRW.out.mono ?_;rintro e W2 ⟨rfl,hz2,ns2,ts2,An2,At2,kn2,cn2,kt2,ct2,hs2,hw2,ha2⟩;have HS2:=qH hs2;cases bw
   ·have HE:=qH (HBAD.out rfl);have HRP:=qH (yP w0 W2 g d O ns2 ts2 A Ao An2 At2 n c no co kn2 cn2 kt2 ct2 HS2.out (by omega) 7);clear hs2 hw2 ha2 HRUN HBAD;go_wp2_with fail;refine HRP.out.mono ?_;rintro e W3 ⟨rfl,hz3,hr3⟩;go_wp2;go_returns;have hz1:=HZ1.out;obtain ⟨A9,Ao9,An9,At9,n9,c9,no9,co9,kn9,cn9,kt9,ct9,hr3⟩:=hr3;exact ⟨by rw [HF.out];rfl,by omega,ns2,ts2,A9,Ao9,An9,At9,n9,c9,no9,co9,kn9,cn9,kt9,ct9,by unfold doS;rw [if_pos HF.out,HE.out];exact hr3⟩
   obtain ⟨ens,ets⟩:=hw2 rfl;have HM:=qH (zb3 w0 W2 g d O ns2 ts2 A Ao An2 At2 n c no co kn2 cn2 kt2 ct2 (zf ws 1) HS2.out hno (by rw [ets];rfl) (by have:=HWZ.out _ (uT (ws:=ws) (k:=1) (by rw [HNW.out];omega));omega));have HR:=qH (HRUN.out rfl);have k2:W2.cell? ⟨gb,0,none⟩=some (.string ⟨#[102,111,111,116]⟩):=by
    have h9:=yh ha2 (wA (by rw [HNW.out];exact hn0));rw [HQ.out] at h9;exact h9
   clear hs2 hw2 ha2 HRUN HBAD ens ets k0';go_wp2_with fail;refine HM.out.mono ?_;rintro e W3 ⟨rfl,hz3,hr3⟩;go_wp2;go_returns;have hz1:=HZ1.out;obtain ⟨A9,Ao9,An9,At9,n9,c9,no9,co9,kn9,cn9,kt9,ct9,hr3⟩:=hr3;exact ⟨by rw [HF.out];rfl,by omega,ns2,ts2,A9,Ao9,An9,At9,n9,c9,no9,co9,kn9,cn9,kt9,ct9,by unfold doS;rw [if_pos HF.out,HR.out.1,HR.out.2];exact hr3⟩
 · have HFM2:=qH (show ∀ w,Calls prog 97 #[.string ⟨#[110,101,101,100]⟩] w (RetQ (.string ⟨#[120]⟩) w) from fun w=>by
    have h9:=HFM w;rw [hq,tu] at h9;exact h9)
   have k0':W1.cell? ⟨gb,0,none⟩=some (.string ⟨#[110,101,101,100]⟩):=by rw [hq] at k0;exact k0
   have HID:=qH (za0 hq);have HQ:=qH hq;have HFM:=HFM2;rw [HNW.out] at HID;clear k0 HFM2 hq;by_cases hc:2=nw
   case neg=>
    have hcI:((1:Int) != (nw:Int) - 1)=true:=by rw [bne_iff_ne];omega
    have HF:Hid (isD ws=false):=qH (by rw [HID.out];exact decide_eq_false hc);go_wp2_with fail;refine qR (HFM.out _) ?_;go_wp2;go_returns;exact ⟨by rw [HF.out];rfl,HZ1.out,ns,ts,A,Ao,An,At,n,c,no,co,kn,cn,kt,ct,by unfold doS;rw [if_neg (by rw [HF.out];simp)];exact HS1.out⟩
   have HF:Hid (isD ws=true):=qH (by rw [HID.out];exact decide_eq_true hc);have hcI:((1:Int) != (nw:Int) - 1)=false:=by
    rw [bne_eq_false_iff_eq];omega
   have HRW:=qH (wV w0 W1 g d O ns ts A Ao An At n c no co kn cn kt ct HS1.out ws (some ⟨gb,0,none⟩) nw cw HAW.out HBG HNW hn1 HWZ HJZ ⟨#[120]⟩ (by show 1<=4;omega) (by show 1 + 1<=nw;omega));unfold uK at HRW;have HBAD:=qH (fun h9=>vD (d:=d) HF.out (show yQ ws (zW (zf ws 0)).data.toList 1=false by rw [HQ.out,tu];exact h9));have HRUN:=qH (fun h9=>vE (d:=d) HF.out (show yQ ws (zW (zf ws 0)).data.toList 1=true by rw [HQ.out,tu];exact h9));rw [fc HQ.out] at HRUN;obtain ⟨bw,hbw⟩:=zN (yQ ws (⟨#[120]⟩:ByteArray).data.toList 1);rw [<-hbw] at HRW HBAD HRUN;clear hbw;go_wp2_with fail;refine qR (HFM.out _) ?_;go_wp2_with fail;refine HRW.out.mono ?_;rintro e W2 ⟨rfl,hz2,ns2,ts2,An2,At2,kn2,cn2,kt2,ct2,hs2,hw2,ha2⟩;have HS2:=qH hs2;cases bw
   ·have HE:=qH (HBAD.out rfl);have HRP:=qH (yP w0 W2 g d O ns2 ts2 A Ao An2 At2 n c no co kn2 cn2 kt2 ct2 HS2.out (by omega) 7);clear hs2 hw2 ha2 HRUN HBAD;go_wp2_with fail;refine HRP.out.mono ?_;rintro e W3 ⟨rfl,hz3,hr3⟩;go_wp2;go_returns;have hz1:=HZ1.out;obtain ⟨A9,Ao9,An9,At9,n9,c9,no9,co9,kn9,cn9,kt9,ct9,hr3⟩:=hr3;exact ⟨by rw [HF.out];rfl,by omega,ns2,ts2,A9,Ao9,An9,At9,n9,c9,no9,co9,kn9,cn9,kt9,ct9,by unfold doS;rw [if_pos HF.out,HE.out];exact hr3⟩
   obtain ⟨ens,ets⟩:=hw2 rfl;have HM:=qH (zb5 w0 W2 g d O ns2 ts2 A Ao An2 At2 n c no co kn2 cn2 kt2 ct2 (zf ws 1) HS2.out hno HD.out (by rw [ets];rfl) (by have:=HWZ.out _ (uT (ws:=ws) (k:=1) (by rw [HNW.out];omega));omega));have HR:=qH (HRUN.out rfl);have k2:W2.cell? ⟨gb,0,none⟩=some (.string ⟨#[110,101,101,100]⟩):=by
    have h9:=yh ha2 (wA (by rw [HNW.out];exact hn0));rw [HQ.out] at h9;exact h9
   clear hs2 hw2 ha2 HRUN HBAD ens ets k0';go_wp2_with fail;refine HM.out.mono ?_;rintro e W3 ⟨rfl,hz3,hr3⟩;go_wp2;go_returns;have hz1:=HZ1.out;obtain ⟨A9,Ao9,An9,At9,n9,c9,no9,co9,kn9,cn9,kt9,ct9,hr3⟩:=hr3;exact ⟨by rw [HF.out];rfl,by omega,ns2,ts2,A9,Ao9,An9,At9,n9,c9,no9,co9,kn9,cn9,kt9,ct9,by unfold doS;rw [if_pos HF.out,HR.out.1,HR.out.2];exact hr3⟩
 · have HFM2:=qH (show ∀ w,Calls prog 97 #[.string ⟨#[99,108,97,117,115,101]⟩] w (RetQ (.string ⟨#[114]⟩) w) from fun w=>by
    have h9:=HFM w;rw [hq,ue] at h9;exact h9)
   have k0':W1.cell? ⟨gb,0,none⟩=some (.string ⟨#[99,108,97,117,115,101]⟩):=by rw [hq] at k0;exact k0
   have HID:=qH (dp hq);have HQ:=qH hq;have HFM:=HFM2;rw [HNW.out] at HID;clear k0 HFM2 hq;by_cases hc:2<=nw
   case neg=>
    have hcI:(nw:Int) < 2:=by omega
    have HF:Hid (isD ws=false):=qH (by rw [HID.out];exact decide_eq_false hc);go_wp2_with fail;refine qR (HFM.out _) ?_;go_wp2;go_returns;exact ⟨by rw [HF.out];rfl,HZ1.out,ns,ts,A,Ao,An,At,n,c,no,co,kn,cn,kt,ct,by unfold doS;rw [if_neg (by rw [HF.out];simp)];exact HS1.out⟩
   have HF:Hid (isD ws=true):=qH (by rw [HID.out];exact decide_eq_true hc);have hcI:¬ (nw:Int) < 2:=by omega
   have HRW:=qH (wV w0 W1 g d O ns ts A Ao An At n c no co kn cn kt ct HS1.out ws (some ⟨gb,0,none⟩) nw cw HAW.out HBG HNW hn1 HWZ HJZ ⟨#[114]⟩ (by show 1<=4;omega) (by show 1 + 1<=nw;omega));unfold uK at HRW;have HBAD:=qH (fun h9=>vD (d:=d) HF.out (show yQ ws (zW (zf ws 0)).data.toList 1=false by rw [HQ.out,ue];exact h9));have HRUN:=qH (fun h9=>vE (d:=d) HF.out (show yQ ws (zW (zf ws 0)).data.toList 1=true by rw [HQ.out,ue];exact h9));rw [ku HQ.out] at HRUN;obtain ⟨bw,hbw⟩:=zN (yQ ws (⟨#[114]⟩:ByteArray).data.toList 1);rw [<-hbw] at HRW HBAD HRUN;clear hbw;go_wp2_with fail;refine qR (HFM.out _) ?_;go_wp2_with fail;refine HRW.out.mono ?_;rintro e W2 ⟨rfl,hz2,ns2,ts2,An2,At2,kn2,cn2,kt2,ct2,hs2,hw2,ha2⟩;have HS2:=qH hs2;cases bw
   ·have HE:=qH (HBAD.out rfl);have HRP:=qH (yP w0 W2 g d O ns2 ts2 A Ao An2 At2 n c no co kn2 cn2 kt2 ct2 HS2.out (by omega) 7);clear hs2 hw2 ha2 HRUN HBAD;go_wp2_with fail;refine HRP.out.mono ?_;rintro e W3 ⟨rfl,hz3,hr3⟩;go_wp2;go_returns;have hz1:=HZ1.out;obtain ⟨A9,Ao9,An9,At9,n9,c9,no9,co9,kn9,cn9,kt9,ct9,hr3⟩:=hr3;exact ⟨by rw [HF.out];rfl,by omega,ns2,ts2,A9,Ao9,An9,At9,n9,c9,no9,co9,kn9,cn9,kt9,ct9,by unfold doS;rw [if_pos HF.out,HE.out];exact hr3⟩
   obtain ⟨ens,ets⟩:=hw2 rfl;have HM:=qH (ce w0 W2 g d O ns2 ts2 A Ao An2 At2 n c no co kn2 cn2 kt2 ct2 (yz ws) HS2.out hno HD.out (by rw [ets];rfl) (HJZ.out 1));have HR:=qH (HRUN.out rfl);have k2:W2.cell? ⟨gb,0,none⟩=some (.string ⟨#[99,108,97,117,115,101]⟩):=by
    have h9:=yh ha2 (wA (by rw [HNW.out];exact hn0));rw [HQ.out] at h9;exact h9
   clear hs2 hw2 ha2 HRUN HBAD ens ets k0';go_wp2_with fail;refine HM.out.mono ?_;rintro e W3 ⟨rfl,hz3,hr3⟩;go_wp2;go_returns;have hz1:=HZ1.out;obtain ⟨A9,Ao9,An9,At9,n9,c9,no9,co9,kn9,cn9,kt9,ct9,hr3⟩:=hr3;exact ⟨by rw [HF.out];rfl,by omega,ns2,ts2,A9,Ao9,An9,At9,n9,c9,no9,co9,kn9,cn9,kt9,ct9,by unfold doS;rw [if_pos HF.out,HR.out.1,HR.out.2];exact hr3⟩
 · have HFM2:=qH (show ∀ w,Calls prog 97 #[.string ⟨#[108,97,115,116]⟩] w (RetQ (.string ⟨#[114]⟩) w) from fun w=>by
    have h9:=HFM w;rw [hq,tt] at h9;exact h9)
   have k0':W1.cell? ⟨gb,0,none⟩=some (.string ⟨#[108,97,115,116]⟩):=by rw [hq] at k0;exact k0
   have HID:=qH (zaZ hq);have HQ:=qH hq;have HFM:=HFM2;rw [HNW.out] at HID;clear k0 HFM2 hq;by_cases hc:2<=nw
   case neg=>
    have hcI:(nw:Int) < 2:=by omega
    have HF:Hid (isD ws=false):=qH (by rw [HID.out];exact decide_eq_false hc);go_wp2_with fail;refine qR (HFM.out _) ?_;go_wp2;go_returns;exact ⟨by rw [HF.out];rfl,HZ1.out,ns,ts,A,Ao,An,At,n,c,no,co,kn,cn,kt,ct,by unfold doS;rw [if_neg (by rw [HF.out];simp)];exact HS1.out⟩
   have HF:Hid (isD ws=true):=qH (by rw [HID.out];exact decide_eq_true hc);have hcI:¬ (nw:Int) < 2:=by omega
   have HRW:=qH (wV w0 W1 g d O ns ts A Ao An At n c no co kn cn kt ct HS1.out ws (some ⟨gb,0,none⟩) nw cw HAW.out HBG HNW hn1 HWZ HJZ ⟨#[114]⟩ (by show 1<=4;omega) (by show 1 + 1<=nw;omega));unfold uK at HRW;have HBAD:=qH (fun h9=>vD (d:=d) HF.out (show yQ ws (zW (zf ws 0)).data.toList 1=false by rw [HQ.out,tt];exact h9));have HRUN:=qH (fun h9=>vE (d:=d) HF.out (show yQ ws (zW (zf ws 0)).data.toList 1=true by rw [HQ.out,tt];exact h9));rw [fb HQ.out] at HRUN;obtain ⟨bw,hbw⟩:=zN (yQ ws (⟨#[114]⟩:ByteArray).data.toList 1);rw [<-hbw] at HRW HBAD HRUN;clear hbw;go_wp2_with fail;refine qR (HFM.out _) ?_;go_wp2_with fail;refine HRW.out.mono ?_;rintro e W2 ⟨rfl,hz2,ns2,ts2,An2,At2,kn2,cn2,kt2,ct2,hs2,hw2,ha2⟩;have HS2:=qH hs2;cases bw
   ·have HE:=qH (HBAD.out rfl);have HRP:=qH (yP w0 W2 g d O ns2 ts2 A Ao An2 At2 n c no co kn2 cn2 kt2 ct2 HS2.out (by omega) 7);clear hs2 hw2 ha2 HRUN HBAD;go_wp2_with fail;refine HRP.out.mono ?_;rintro e W3 ⟨rfl,hz3,hr3⟩;go_wp2;go_returns;have hz1:=HZ1.out;obtain ⟨A9,Ao9,An9,At9,n9,c9,no9,co9,kn9,cn9,kt9,ct9,hr3⟩:=hr3;exact ⟨by rw [HF.out];rfl,by omega,ns2,ts2,A9,Ao9,An9,At9,n9,c9,no9,co9,kn9,cn9,kt9,ct9,by unfold doS;rw [if_pos HF.out,HE.out];exact hr3⟩
   obtain ⟨ens,ets⟩:=hw2 rfl;have HM:=qH (zb4 w0 W2 g d O ns2 ts2 A Ao An2 At2 n c no co kn2 cn2 kt2 ct2 (yz ws) HS2.out hno HD.out (by rw [ets];rfl) (by have:=HJZ.out 1;unfold yz;omega));have HR:=qH (HRUN.out rfl);have k2:W2.cell? ⟨gb,0,none⟩=some (.string ⟨#[108,97,115,116]⟩):=by
    have h9:=yh ha2 (wA (by rw [HNW.out];exact hn0));rw [HQ.out] at h9;exact h9
   clear hs2 hw2 ha2 HRUN HBAD ens ets k0';go_wp2_with fail;refine HM.out.mono ?_;rintro e W3 ⟨rfl,hz3,hr3⟩;go_wp2;go_returns;have hz1:=HZ1.out;obtain ⟨A9,Ao9,An9,At9,n9,c9,no9,co9,kn9,cn9,kt9,ct9,hr3⟩:=hr3;exact ⟨by rw [HF.out];rfl,by omega,ns2,ts2,A9,Ao9,An9,At9,n9,c9,no9,co9,kn9,cn9,kt9,ct9,by unfold doS;rw [if_pos HF.out,HR.out.1,HR.out.2];exact hr3⟩
 · have HFM2:=qH (show ∀ w,Calls prog 97 #[.string ⟨#[115,116,121,108,101]⟩] w (RetQ (.string ⟨#[114]⟩) w) from fun w=>by
    have h9:=HFM w;rw [hq,uG] at h9;exact h9)
   have k0':W1.cell? ⟨gb,0,none⟩=some (.string ⟨#[115,116,121,108,101]⟩):=by rw [hq] at k0;exact k0
   have HID:=qH (bL hq);have HQ:=qH hq;have HFM:=HFM2;rw [HNW.out] at HID;clear k0 HFM2 hq;by_cases hc:2<=nw
   case neg=>
    have hcI:(nw:Int) < 2:=by omega
    have HF:Hid (isD ws=false):=qH (by rw [HID.out];exact decide_eq_false hc);go_wp2_with fail;refine qR (HFM.out _) ?_;go_wp2;go_returns;exact ⟨by rw [HF.out];rfl,HZ1.out,ns,ts,A,Ao,An,At,n,c,no,co,kn,cn,kt,ct,by unfold doS;rw [if_neg (by rw [HF.out];simp)];exact HS1.out⟩
   have HF:Hid (isD ws=true):=qH (by rw [HID.out];exact decide_eq_true hc);have hcI:¬ (nw:Int) < 2:=by omega
   have HRW:=qH (wV w0 W1 g d O ns ts A Ao An At n c no co kn cn kt ct HS1.out ws (some ⟨gb,0,none⟩) nw cw HAW.out HBG HNW hn1 HWZ HJZ ⟨#[114]⟩ (by show 1<=4;omega) (by show 1 + 1<=nw;omega));unfold uK at HRW;have HBAD:=qH (fun h9=>vD (d:=d) HF.out (show yQ ws (zW (zf ws 0)).data.toList 1=false by rw [HQ.out,uG];exact h9));have HRUN:=qH (fun h9=>vE (d:=d) HF.out (show yQ ws (zW (zf ws 0)).data.toList 1=true by rw [HQ.out,uG];exact h9));rw [jg HQ.out] at HRUN;obtain ⟨bw,hbw⟩:=zN (yQ ws (⟨#[114]⟩:ByteArray).data.toList 1);rw [<-hbw] at HRW HBAD HRUN;clear hbw;go_wp2_with fail;refine qR (HFM.out _) ?_;go_wp2_with fail;refine HRW.out.mono ?_;rintro e W2 ⟨rfl,hz2,ns2,ts2,An2,At2,kn2,cn2,kt2,ct2,hs2,hw2,ha2⟩;have HS2:=qH hs2;cases bw
   ·have HE:=qH (HBAD.out rfl);have HRP:=qH (yP w0 W2 g d O ns2 ts2 A Ao An2 At2 n c no co kn2 cn2 kt2 ct2 HS2.out (by omega) 7);clear hs2 hw2 ha2 HRUN HBAD;go_wp2_with fail;refine HRP.out.mono ?_;rintro e W3 ⟨rfl,hz3,hr3⟩;go_wp2;go_returns;have hz1:=HZ1.out;obtain ⟨A9,Ao9,An9,At9,n9,c9,no9,co9,kn9,cn9,kt9,ct9,hr3⟩:=hr3;exact ⟨by rw [HF.out];rfl,by omega,ns2,ts2,A9,Ao9,An9,At9,n9,c9,no9,co9,kn9,cn9,kt9,ct9,by unfold doS;rw [if_pos HF.out,HE.out];exact hr3⟩
   obtain ⟨ens,ets⟩:=hw2 rfl;have HM:=qH (zae w0 W2 g d O ns2 ts2 A Ao An2 At2 n c no co kn2 cn2 kt2 ct2 (yz ws) HS2.out hno HD.out (by rw [ets];rfl) (HJZ.out 1));have HR:=qH (HRUN.out rfl);have k2:W2.cell? ⟨gb,0,none⟩=some (.string ⟨#[115,116,121,108,101]⟩):=by
    have h9:=yh ha2 (wA (by rw [HNW.out];exact hn0));rw [HQ.out] at h9;exact h9
   clear hs2 hw2 ha2 HRUN HBAD ens ets k0';go_wp2_with fail;refine HM.out.mono ?_;rintro e W3 ⟨rfl,hz3,hr3⟩;go_wp2;go_returns;have hz1:=HZ1.out;obtain ⟨A9,Ao9,An9,At9,n9,c9,no9,co9,kn9,cn9,kt9,ct9,hr3⟩:=hr3;exact ⟨by rw [HF.out];rfl,by omega,ns2,ts2,A9,Ao9,An9,At9,n9,c9,no9,co9,kn9,cn9,kt9,ct9,by unfold doS;rw [if_pos HF.out,HR.out.1,HR.out.2];exact hr3⟩
 · have HFM2:=qH (show ∀ w,Calls prog 97 #[.string ⟨#[97,108,116,101,114]⟩] w (RetQ (.string ⟨#[120,120,120]⟩) w) from fun w=>by
    have h9:=HFM w;rw [hq,uC] at h9;exact h9)
   have k0':W1.cell? ⟨gb,0,none⟩=some (.string ⟨#[97,108,116,101,114]⟩):=by rw [hq] at k0;exact k0
   have HID:=qH (bH hq);have HQ:=qH hq;have HFM:=HFM2;rw [HNW.out] at HID;clear k0 HFM2 hq;by_cases hc:4=nw
   case neg=>
    have hcI:((3:Int) != (nw:Int) - 1)=true:=by rw [bne_iff_ne];omega
    have HF:Hid (isD ws=false):=qH (by rw [HID.out];exact decide_eq_false hc);go_wp2_with fail;refine qR (HFM.out _) ?_;go_wp2;go_returns;exact ⟨by rw [HF.out];rfl,HZ1.out,ns,ts,A,Ao,An,At,n,c,no,co,kn,cn,kt,ct,by unfold doS;rw [if_neg (by rw [HF.out];simp)];exact HS1.out⟩
   have HF:Hid (isD ws=true):=qH (by rw [HID.out];exact decide_eq_true hc);have hcI:((3:Int) != (nw:Int) - 1)=false:=by
    rw [bne_eq_false_iff_eq];omega
   have HRW:=qH (wV w0 W1 g d O ns ts A Ao An At n c no co kn cn kt ct HS1.out ws (some ⟨gb,0,none⟩) nw cw HAW.out HBG HNW hn1 HWZ HJZ ⟨#[120,120,120]⟩ (by show 3<=4;omega) (by show 3 + 1<=nw;omega));unfold uK at HRW;have HBAD:=qH (fun h9=>vD (d:=d) HF.out (show yQ ws (zW (zf ws 0)).data.toList 1=false by rw [HQ.out,uC];exact h9));have HRUN:=qH (fun h9=>vE (d:=d) HF.out (show yQ ws (zW (zf ws 0)).data.toList 1=true by rw [HQ.out,uC];exact h9));rw [jc HQ.out] at HRUN;obtain ⟨bw,hbw⟩:=zN (yQ ws (⟨#[120,120,120]⟩:ByteArray).data.toList 1);rw [<-hbw] at HRW HBAD HRUN;clear hbw;go_wp2_with fail;refine qR (HFM.out _) ?_;go_wp2_with fail;refine HRW.out.mono ?_;rintro e W2 ⟨rfl,hz2,ns2,ts2,An2,At2,kn2,cn2,kt2,ct2,hs2,hw2,ha2⟩;have HS2:=qH hs2;cases bw
   ·have HE:=qH (HBAD.out rfl);have HRP:=qH (yP w0 W2 g d O ns2 ts2 A Ao An2 At2 n c no co kn2 cn2 kt2 ct2 HS2.out (by omega) 7);clear hs2 hw2 ha2 HRUN HBAD;go_wp2_with fail;refine HRP.out.mono ?_;rintro e W3 ⟨rfl,hz3,hr3⟩;go_wp2;go_returns;have hz1:=HZ1.out;obtain ⟨A9,Ao9,An9,At9,n9,c9,no9,co9,kn9,cn9,kt9,ct9,hr3⟩:=hr3;exact ⟨by rw [HF.out];rfl,by omega,ns2,ts2,A9,Ao9,An9,At9,n9,c9,no9,co9,kn9,cn9,kt9,ct9,by unfold doS;rw [if_pos HF.out,HE.out];exact hr3⟩
   obtain ⟨ens,ets⟩:=hw2 rfl;have HM:=qH (zaa w0 W2 g d O ns2 ts2 A Ao An2 At2 n c no co kn2 cn2 kt2 ct2 (zf ws 1) (zf ws 2) (zf ws 3) HS2.out hno HD.out (by rw [ets];rfl) (HWZ.out _ (uT (by rw [HNW.out];omega))) (HWZ.out _ (uT (by rw [HNW.out];omega))) (HWZ.out _ (uT (by rw [HNW.out];omega))));have HR:=qH (HRUN.out rfl);have k2:W2.cell? ⟨gb,0,none⟩=some (.string ⟨#[97,108,116,101,114]⟩):=by
    have h9:=yh ha2 (wA (by rw [HNW.out];exact hn0));rw [HQ.out] at h9;exact h9
   clear hs2 hw2 ha2 HRUN HBAD ens ets k0';go_wp2_with fail;refine HM.out.mono ?_;rintro e W3 ⟨rfl,hz3,hr3⟩;go_wp2;go_returns;have hz1:=HZ1.out;obtain ⟨A9,Ao9,An9,At9,n9,c9,no9,co9,kn9,cn9,kt9,ct9,hr3⟩:=hr3;exact ⟨by rw [HF.out];rfl,by omega,ns2,ts2,A9,Ao9,An9,At9,n9,c9,no9,co9,kn9,cn9,kt9,ct9,by unfold doS;rw [if_pos HF.out,HR.out.1,HR.out.2];exact hr3⟩
 · have HFM2:=qH (show ∀ w,Calls prog 97 #[.string ⟨#[102,105,116]⟩] w (RetQ (.string ⟨#[110,110,110]⟩) w) from fun w=>by
    have h9:=HFM w;rw [hq,sk] at h9;exact h9)
   have k0':W1.cell? ⟨gb,0,none⟩=some (.string ⟨#[102,105,116]⟩):=by rw [hq] at k0;exact k0
   have HID:=qH (zcq hq);have HQ:=qH hq;have HFM:=HFM2;rw [HNW.out] at HID;clear k0 HFM2 hq;by_cases hc:4=nw
   case neg=>
    have hcI:((3:Int) != (nw:Int) - 1)=true:=by rw [bne_iff_ne];omega
    have HF:Hid (isD ws=false):=qH (by rw [HID.out];exact decide_eq_false hc);go_wp2_with fail;refine qR (HFM.out _) ?_;go_wp2;go_returns;exact ⟨by rw [HF.out];rfl,HZ1.out,ns,ts,A,Ao,An,At,n,c,no,co,kn,cn,kt,ct,by unfold doS;rw [if_neg (by rw [HF.out];simp)];exact HS1.out⟩
   have HF:Hid (isD ws=true):=qH (by rw [HID.out];exact decide_eq_true hc);have hcI:((3:Int) != (nw:Int) - 1)=false:=by
    rw [bne_eq_false_iff_eq];omega
   have HRW:=qH (wV w0 W1 g d O ns ts A Ao An At n c no co kn cn kt ct HS1.out ws (some ⟨gb,0,none⟩) nw cw HAW.out HBG HNW hn1 HWZ HJZ ⟨#[110,110,110]⟩ (by show 3<=4;omega) (by show 3 + 1<=nw;omega));unfold uK at HRW;have HBAD:=qH (fun h9=>vD (d:=d) HF.out (show yQ ws (zW (zf ws 0)).data.toList 1=false by rw [HQ.out,sk];exact h9));have HRUN:=qH (fun h9=>vE (d:=d) HF.out (show yQ ws (zW (zf ws 0)).data.toList 1=true by rw [HQ.out,sk];exact h9));rw [eV HQ.out] at HRUN;obtain ⟨bw,hbw⟩:=zN (yQ ws (⟨#[110,110,110]⟩:ByteArray).data.toList 1);rw [<-hbw] at HRW HBAD HRUN;clear hbw;go_wp2_with fail;refine qR (HFM.out _) ?_;go_wp2_with fail;refine HRW.out.mono ?_;rintro e W2 ⟨rfl,hz2,ns2,ts2,An2,At2,kn2,cn2,kt2,ct2,hs2,hw2,ha2⟩;have HS2:=qH hs2;cases bw
   ·have HE:=qH (HBAD.out rfl);have HRP:=qH (yP w0 W2 g d O ns2 ts2 A Ao An2 At2 n c no co kn2 cn2 kt2 ct2 HS2.out (by omega) 7);clear hs2 hw2 ha2 HRUN HBAD;go_wp2_with fail;refine HRP.out.mono ?_;rintro e W3 ⟨rfl,hz3,hr3⟩;go_wp2;go_returns;have hz1:=HZ1.out;obtain ⟨A9,Ao9,An9,At9,n9,c9,no9,co9,kn9,cn9,kt9,ct9,hr3⟩:=hr3;exact ⟨by rw [HF.out];rfl,by omega,ns2,ts2,A9,Ao9,An9,At9,n9,c9,no9,co9,kn9,cn9,kt9,ct9,by unfold doS;rw [if_pos HF.out,HE.out];exact hr3⟩
   obtain ⟨ens,ets⟩:=hw2 rfl;have HM:=qH (zcW w0 W2 g d O ns2 ts2 A Ao An2 At2 n c no co kn2 cn2 kt2 ct2 (zq (zf ws 1)) (zq (zf ws 2)) (zq (zf ws 3)) HS2.out hno HD.out (by rw [ens];rfl));have HR:=qH (HRUN.out rfl);have k2:W2.cell? ⟨gb,0,none⟩=some (.string ⟨#[102,105,116]⟩):=by
    have h9:=yh ha2 (wA (by rw [HNW.out];exact hn0));rw [HQ.out] at h9;exact h9
   clear hs2 hw2 ha2 HRUN HBAD ens ets k0';go_wp2_with fail;refine HM.out.mono ?_;rintro e W3 ⟨rfl,hz3,hr3⟩;go_wp2;go_returns;have hz1:=HZ1.out;obtain ⟨A9,Ao9,An9,At9,n9,c9,no9,co9,kn9,cn9,kt9,ct9,hr3⟩:=hr3;exact ⟨by rw [HF.out];rfl,by omega,ns2,ts2,A9,Ao9,An9,At9,n9,c9,no9,co9,kn9,cn9,kt9,ct9,by unfold doS;rw [if_pos HF.out,HR.out.1,HR.out.2];exact hr3⟩
 · have HFM2:=qH (show ∀ w,Calls prog 97 #[.string ⟨#[114,97,105,115,101]⟩] w (RetQ (.string ⟨#[110,110,110,110]⟩) w) from fun w=>by
    have h9:=HFM w;rw [hq,uF] at h9;exact h9)
   have k0':W1.cell? ⟨gb,0,none⟩=some (.string ⟨#[114,97,105,115,101]⟩):=by rw [hq] at k0;exact k0
   have HID:=qH (bK hq);have HQ:=qH hq;have HFM:=HFM2;rw [HNW.out] at HID;clear k0 HFM2 hq;by_cases hc:5=nw
   case neg=>
    have hcI:((4:Int) != (nw:Int) - 1)=true:=by rw [bne_iff_ne];omega
    have HF:Hid (isD ws=false):=qH (by rw [HID.out];exact decide_eq_false hc);go_wp2_with fail;refine qR (HFM.out _) ?_;go_wp2;go_returns;exact ⟨by rw [HF.out];rfl,HZ1.out,ns,ts,A,Ao,An,At,n,c,no,co,kn,cn,kt,ct,by unfold doS;rw [if_neg (by rw [HF.out];simp)];exact HS1.out⟩
   have HF:Hid (isD ws=true):=qH (by rw [HID.out];exact decide_eq_true hc);have hcI:((4:Int) != (nw:Int) - 1)=false:=by
    rw [bne_eq_false_iff_eq];omega
   have HRW:=qH (wV w0 W1 g d O ns ts A Ao An At n c no co kn cn kt ct HS1.out ws (some ⟨gb,0,none⟩) nw cw HAW.out HBG HNW hn1 HWZ HJZ ⟨#[110,110,110,110]⟩ (by show 4<=4;omega) (by show 4 + 1<=nw;omega));unfold uK at HRW;have HBAD:=qH (fun h9=>vD (d:=d) HF.out (show yQ ws (zW (zf ws 0)).data.toList 1=false by rw [HQ.out,uF];exact h9));have HRUN:=qH (fun h9=>vE (d:=d) HF.out (show yQ ws (zW (zf ws 0)).data.toList 1=true by rw [HQ.out,uF];exact h9));rw [jf HQ.out] at HRUN;obtain ⟨bw,hbw⟩:=zN (yQ ws (⟨#[110,110,110,110]⟩:ByteArray).data.toList 1);rw [<-hbw] at HRW HBAD HRUN;clear hbw;go_wp2_with fail;refine qR (HFM.out _) ?_;go_wp2_with fail;refine HRW.out.mono ?_;rintro e W2 ⟨rfl,hz2,ns2,ts2,An2,At2,kn2,cn2,kt2,ct2,hs2,hw2,ha2⟩;have HS2:=qH hs2;cases bw
   ·have HE:=qH (HBAD.out rfl);have HRP:=qH (yP w0 W2 g d O ns2 ts2 A Ao An2 At2 n c no co kn2 cn2 kt2 ct2 HS2.out (by omega) 7);clear hs2 hw2 ha2 HRUN HBAD;go_wp2_with fail;refine HRP.out.mono ?_;rintro e W3 ⟨rfl,hz3,hr3⟩;go_wp2;go_returns;have hz1:=HZ1.out;obtain ⟨A9,Ao9,An9,At9,n9,c9,no9,co9,kn9,cn9,kt9,ct9,hr3⟩:=hr3;exact ⟨by rw [HF.out];rfl,by omega,ns2,ts2,A9,Ao9,An9,At9,n9,c9,no9,co9,kn9,cn9,kt9,ct9,by unfold doS;rw [if_pos HF.out,HE.out];exact hr3⟩
   obtain ⟨ens,ets⟩:=hw2 rfl;have HM:=qH (zad w0 W2 g d O ns2 ts2 A Ao An2 At2 n c no co kn2 cn2 kt2 ct2 (zq (zf ws 1)) (zq (zf ws 2)) (zq (zf ws 3)) (zq (zf ws 4)) HS2.out hno (by rw [ens];rfl));have HR:=qH (HRUN.out rfl);have k2:W2.cell? ⟨gb,0,none⟩=some (.string ⟨#[114,97,105,115,101]⟩):=by
    have h9:=yh ha2 (wA (by rw [HNW.out];exact hn0));rw [HQ.out] at h9;exact h9
   clear hs2 hw2 ha2 HRUN HBAD ens ets k0';go_wp2_with fail;refine HM.out.mono ?_;rintro e W3 ⟨rfl,hz3,hr3⟩;go_wp2;go_returns;have hz1:=HZ1.out;obtain ⟨A9,Ao9,An9,At9,n9,c9,no9,co9,kn9,cn9,kt9,ct9,hr3⟩:=hr3;exact ⟨by rw [HF.out];rfl,by omega,ns2,ts2,A9,Ao9,An9,At9,n9,c9,no9,co9,kn9,cn9,kt9,ct9,by unfold doS;rw [if_pos HF.out,HR.out.1,HR.out.2];exact hr3⟩
 · have HFM2:=qH (show ∀ w,Calls prog 97 #[.string ⟨#[101,110,116,101,114]⟩] w (RetQ (.string ⟨#[110,120,110]⟩) w) from fun w=>by
    have h9:=HFM w;rw [hq,uD] at h9;exact h9)
   have k0':W1.cell? ⟨gb,0,none⟩=some (.string ⟨#[101,110,116,101,114]⟩):=by rw [hq] at k0;exact k0
   have HID:=qH (bI hq);have HQ:=qH hq;have HFM:=HFM2;rw [HNW.out] at HID;clear k0 HFM2 hq;by_cases hc:4=nw
   case neg=>
    have hcI:((3:Int) != (nw:Int) - 1)=true:=by rw [bne_iff_ne];omega
    have HF:Hid (isD ws=false):=qH (by rw [HID.out];exact decide_eq_false hc);go_wp2_with fail;refine qR (HFM.out _) ?_;go_wp2;go_returns;exact ⟨by rw [HF.out];rfl,HZ1.out,ns,ts,A,Ao,An,At,n,c,no,co,kn,cn,kt,ct,by unfold doS;rw [if_neg (by rw [HF.out];simp)];exact HS1.out⟩
   have HF:Hid (isD ws=true):=qH (by rw [HID.out];exact decide_eq_true hc);have hcI:((3:Int) != (nw:Int) - 1)=false:=by
    rw [bne_eq_false_iff_eq];omega
   have HRW:=qH (wV w0 W1 g d O ns ts A Ao An At n c no co kn cn kt ct HS1.out ws (some ⟨gb,0,none⟩) nw cw HAW.out HBG HNW hn1 HWZ HJZ ⟨#[110,120,110]⟩ (by show 3<=4;omega) (by show 3 + 1<=nw;omega));unfold uK at HRW;have HBAD:=qH (fun h9=>vD (d:=d) HF.out (show yQ ws (zW (zf ws 0)).data.toList 1=false by rw [HQ.out,uD];exact h9));have HRUN:=qH (fun h9=>vE (d:=d) HF.out (show yQ ws (zW (zf ws 0)).data.toList 1=true by rw [HQ.out,uD];exact h9));rw [jd HQ.out] at HRUN;obtain ⟨bw,hbw⟩:=zN (yQ ws (⟨#[110,120,110]⟩:ByteArray).data.toList 1);rw [<-hbw] at HRW HBAD HRUN;clear hbw;go_wp2_with fail;refine qR (HFM.out _) ?_;go_wp2_with fail;refine HRW.out.mono ?_;rintro e W2 ⟨rfl,hz2,ns2,ts2,An2,At2,kn2,cn2,kt2,ct2,hs2,hw2,ha2⟩;have HS2:=qH hs2;cases bw
   ·have HE:=qH (HBAD.out rfl);have HRP:=qH (yP w0 W2 g d O ns2 ts2 A Ao An2 At2 n c no co kn2 cn2 kt2 ct2 HS2.out (by omega) 7);clear hs2 hw2 ha2 HRUN HBAD;go_wp2_with fail;refine HRP.out.mono ?_;rintro e W3 ⟨rfl,hz3,hr3⟩;go_wp2;go_returns;have hz1:=HZ1.out;obtain ⟨A9,Ao9,An9,At9,n9,c9,no9,co9,kn9,cn9,kt9,ct9,hr3⟩:=hr3;exact ⟨by rw [HF.out];rfl,by omega,ns2,ts2,A9,Ao9,An9,At9,n9,c9,no9,co9,kn9,cn9,kt9,ct9,by unfold doS;rw [if_pos HF.out,HE.out];exact hr3⟩
   obtain ⟨ens,ets⟩:=hw2 rfl;have HM:=qH (zab w0 W2 g d O ns2 ts2 A Ao An2 At2 n c no co kn2 cn2 kt2 ct2 (zq (zf ws 1)) (zq (zf ws 3)) (zf ws 2) HS2.out hno HD.out (by rw [ens];rfl) (by rw [ets];rfl) (HWZ.out _ (uT (by rw [HNW.out];omega))));have HR:=qH (HRUN.out rfl);have k2:W2.cell? ⟨gb,0,none⟩=some (.string ⟨#[101,110,116,101,114]⟩):=by
    have h9:=yh ha2 (wA (by rw [HNW.out];exact hn0));rw [HQ.out] at h9;exact h9
   clear hs2 hw2 ha2 HRUN HBAD ens ets k0';go_wp2_with fail;refine HM.out.mono ?_;rintro e W3 ⟨rfl,hz3,hr3⟩;go_wp2;go_returns;have hz1:=HZ1.out;obtain ⟨A9,Ao9,An9,At9,n9,c9,no9,co9,kn9,cn9,kt9,ct9,hr3⟩:=hr3;exact ⟨by rw [HF.out];rfl,by omega,ns2,ts2,A9,Ao9,An9,At9,n9,c9,no9,co9,kn9,cn9,kt9,ct9,by unfold doS;rw [if_pos HF.out,HR.out.1,HR.out.2];exact hr3⟩
 · have HFM2:=qH (show ∀ w,Calls prog 97 #[.string ⟨#[108,97,115,116,115]⟩] w (RetQ (.string ⟨#[]⟩) w) from fun w=>by
    have h9:=HFM w;rw [hq,uE] at h9;exact h9)
   have k0':W1.cell? ⟨gb,0,none⟩=some (.string ⟨#[108,97,115,116,115]⟩):=by rw [hq] at k0;exact k0
   have HID:=qH (bJ hq);have HQ:=qH hq;have HFM:=HFM2;rw [HNW.out] at HID;clear k0 HFM2 hq;by_cases hc:1=nw
   case neg=>
    have hcI:((0:Int) != (nw:Int) - 1)=true:=by rw [bne_iff_ne];omega
    have HF:Hid (isD ws=false):=qH (by rw [HID.out];exact decide_eq_false hc);go_wp2_with fail;refine qR (HFM.out _) ?_;go_wp2;go_returns;exact ⟨by rw [HF.out];rfl,HZ1.out,ns,ts,A,Ao,An,At,n,c,no,co,kn,cn,kt,ct,by unfold doS;rw [if_neg (by rw [HF.out];simp)];exact HS1.out⟩
   have HF:Hid (isD ws=true):=qH (by rw [HID.out];exact decide_eq_true hc);have hcI:((0:Int) != (nw:Int) - 1)=false:=by
    rw [bne_eq_false_iff_eq];omega
   have HRW:=qH (wV w0 W1 g d O ns ts A Ao An At n c no co kn cn kt ct HS1.out ws (some ⟨gb,0,none⟩) nw cw HAW.out HBG HNW hn1 HWZ HJZ ⟨#[]⟩ (by show 0<=4;omega) (by show 0 + 1<=nw;omega));unfold uK at HRW;have HBAD:=qH (fun h9=>vD (d:=d) HF.out (show yQ ws (zW (zf ws 0)).data.toList 1=false by rw [HQ.out,uE];exact h9));have HRUN:=qH (fun h9=>vE (d:=d) HF.out (show yQ ws (zW (zf ws 0)).data.toList 1=true by rw [HQ.out,uE];exact h9));rw [je HQ.out] at HRUN;obtain ⟨bw,hbw⟩:=zN (yQ ws (⟨#[]⟩:ByteArray).data.toList 1);rw [<-hbw] at HRW HBAD HRUN;clear hbw;go_wp2_with fail;refine qR (HFM.out _) ?_;go_wp2_with fail;refine HRW.out.mono ?_;rintro e W2 ⟨rfl,hz2,ns2,ts2,An2,At2,kn2,cn2,kt2,ct2,hs2,hw2,ha2⟩;have HS2:=qH hs2;cases bw
   ·have HE:=qH (HBAD.out rfl);have HRP:=qH (yP w0 W2 g d O ns2 ts2 A Ao An2 At2 n c no co kn2 cn2 kt2 ct2 HS2.out (by omega) 7);clear hs2 hw2 ha2 HRUN HBAD;go_wp2_with fail;refine HRP.out.mono ?_;rintro e W3 ⟨rfl,hz3,hr3⟩;go_wp2;go_returns;have hz1:=HZ1.out;obtain ⟨A9,Ao9,An9,At9,n9,c9,no9,co9,kn9,cn9,kt9,ct9,hr3⟩:=hr3;exact ⟨by rw [HF.out];rfl,by omega,ns2,ts2,A9,Ao9,An9,At9,n9,c9,no9,co9,kn9,cn9,kt9,ct9,by unfold doS;rw [if_pos HF.out,HE.out];exact hr3⟩
   obtain ⟨ens,ets⟩:=hw2 rfl;have HM:=qH (zac w0 W2 g d O ns2 ts2 A Ao An2 At2 n c no co kn2 cn2 kt2 ct2 HS2.out hno HD.out);have HR:=qH (HRUN.out rfl);have k2:W2.cell? ⟨gb,0,none⟩=some (.string ⟨#[108,97,115,116,115]⟩):=by
    have h9:=yh ha2 (wA (by rw [HNW.out];exact hn0));rw [HQ.out] at h9;exact h9
   clear hs2 hw2 ha2 HRUN HBAD ens ets k0';go_wp2_with fail;refine HM.out.mono ?_;rintro e W3 ⟨rfl,hz3,hr3⟩;go_wp2;go_returns;have hz1:=HZ1.out;obtain ⟨A9,Ao9,An9,At9,n9,c9,no9,co9,kn9,cn9,kt9,ct9,hr3⟩:=hr3;exact ⟨by rw [HF.out];rfl,by omega,ns2,ts2,A9,Ao9,An9,At9,n9,c9,no9,co9,kn9,cn9,kt9,ct9,by unfold doS;rw [if_pos HF.out,HR.out.1,HR.out.2];exact hr3⟩
 · have HFM2:=qH (show ∀ w,Calls prog 97 #[.string ⟨#[108,111,103]⟩] w (RetQ (.string ⟨#[]⟩) w) from fun w=>by
    have h9:=HFM w;rw [hq,sl] at h9;exact h9)
   have k0':W1.cell? ⟨gb,0,none⟩=some (.string ⟨#[108,111,103]⟩):=by rw [hq] at k0;exact k0
   have HID:=qH (zcr hq);have HQ:=qH hq;have HFM:=HFM2;rw [HNW.out] at HID;clear k0 HFM2 hq;by_cases hc:1=nw
   case neg=>
    have hcI:((0:Int) != (nw:Int) - 1)=true:=by rw [bne_iff_ne];omega
    have HF:Hid (isD ws=false):=qH (by rw [HID.out];exact decide_eq_false hc);go_wp2_with fail;refine qR (HFM.out _) ?_;go_wp2;go_returns;exact ⟨by rw [HF.out];rfl,HZ1.out,ns,ts,A,Ao,An,At,n,c,no,co,kn,cn,kt,ct,by unfold doS;rw [if_neg (by rw [HF.out];simp)];exact HS1.out⟩
   have HF:Hid (isD ws=true):=qH (by rw [HID.out];exact decide_eq_true hc);have hcI:((0:Int) != (nw:Int) - 1)=false:=by
    rw [bne_eq_false_iff_eq];omega
   have HRW:=qH (wV w0 W1 g d O ns ts A Ao An At n c no co kn cn kt ct HS1.out ws (some ⟨gb,0,none⟩) nw cw HAW.out HBG HNW hn1 HWZ HJZ ⟨#[]⟩ (by show 0<=4;omega) (by show 0 + 1<=nw;omega));unfold uK at HRW;have HBAD:=qH (fun h9=>vD (d:=d) HF.out (show yQ ws (zW (zf ws 0)).data.toList 1=false by rw [HQ.out,sl];exact h9));have HRUN:=qH (fun h9=>vE (d:=d) HF.out (show yQ ws (zW (zf ws 0)).data.toList 1=true by rw [HQ.out,sl];exact h9));rw [eX HQ.out] at HRUN;obtain ⟨bw,hbw⟩:=zN (yQ ws (⟨#[]⟩:ByteArray).data.toList 1);rw [<-hbw] at HRW HBAD HRUN;clear hbw;go_wp2_with fail;refine qR (HFM.out _) ?_;go_wp2_with fail;refine HRW.out.mono ?_;rintro e W2 ⟨rfl,hz2,ns2,ts2,An2,At2,kn2,cn2,kt2,ct2,hs2,hw2,ha2⟩;have HS2:=qH hs2;cases bw
   ·have HE:=qH (HBAD.out rfl);have HRP:=qH (yP w0 W2 g d O ns2 ts2 A Ao An2 At2 n c no co kn2 cn2 kt2 ct2 HS2.out (by omega) 7);clear hs2 hw2 ha2 HRUN HBAD;go_wp2_with fail;refine HRP.out.mono ?_;rintro e W3 ⟨rfl,hz3,hr3⟩;go_wp2;go_returns;have hz1:=HZ1.out;obtain ⟨A9,Ao9,An9,At9,n9,c9,no9,co9,kn9,cn9,kt9,ct9,hr3⟩:=hr3;exact ⟨by rw [HF.out];rfl,by omega,ns2,ts2,A9,Ao9,An9,At9,n9,c9,no9,co9,kn9,cn9,kt9,ct9,by unfold doS;rw [if_pos HF.out,HE.out];exact hr3⟩
   obtain ⟨ens,ets⟩:=hw2 rfl;have HM:=qH (zcX w0 W2 g d O ns2 ts2 A Ao An2 At2 n c no co kn2 cn2 kt2 ct2 HS2.out hno HD.out);have HR:=qH (HRUN.out rfl);have k2:W2.cell? ⟨gb,0,none⟩=some (.string ⟨#[108,111,103]⟩):=by
    have h9:=yh ha2 (wA (by rw [HNW.out];exact hn0));rw [HQ.out] at h9;exact h9
   clear hs2 hw2 ha2 HRUN HBAD ens ets k0';go_wp2_with fail;refine HM.out.mono ?_;rintro e W3 ⟨rfl,hz3,hr3⟩;go_wp2;go_returns;have hz1:=HZ1.out;obtain ⟨A9,Ao9,An9,At9,n9,c9,no9,co9,kn9,cn9,kt9,ct9,hr3⟩:=hr3;exact ⟨by rw [HF.out];rfl,by omega,ns2,ts2,A9,Ao9,An9,At9,n9,c9,no9,co9,kn9,cn9,kt9,ct9,by unfold doS;rw [if_pos HF.out,HR.out.1,HR.out.2];exact hr3⟩
 have HFM2:=qH (show ∀ w,Calls prog 97 #[.string (zf ws 0)] w (RetQ (.string ⟨#[45]⟩) w) from fun w=>by
  have h9:=HFM w;rw [hq] at h9;exact h9)
 have HFM:=HFM2;clear HFM2 hq;have HF:Hid (isD ws=false):=qH (by unfold isD;rw [hq2,Bool.false_and]);go_wp2_with fail;refine qR (HFM.out _) ?_;go_wp2;go_returns;exact ⟨by rw [HF.out];rfl,HZ1.out,ns,ts,A,Ao,An,At,n,c,no,co,kn,cn,kt,ct,by unfold doS;rw [if_neg (by rw [HF.out];simp)];exact HS1.out⟩
end Go.Proofs.YtpiehlfffjhoaaaGreatDoor
