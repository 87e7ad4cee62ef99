/- The console's reference: a line is executed. -/
import Derived.Test.YtpiehlfffjhoaaaGreatDoorQ1
import Derived.Test.YtpiehlfffjhoaaaGreatDoorQ0
import Derived.Test.YtpiehlfffjhoaaaGreatDoorQ35
import Derived.Test.YtpiehlfffjhoaaaGreatDoorQ37
import Derived.Test.YtpiehlfffjhoaaaGreatDoorQ38
import Derived.Test.YtpiehlfffjhoaaaGreatDoorQ41
import Derived.Test.YtpiehlfffjhoaaaGreatDoorQ44
import Derived.Test.YtpiehlfffjhoaaaGreatDoorQ45
import Derived.Test.YtpiehlfffjhoaaaGreatDoorQ31
namespace Go.Proofs.YtpiehlfffjhoaaaGreatDoor
open Go.RowKit
set_option maxRecDepth 100000
set_option maxHeartbeats 8000000
theorem kI (L:List ByteArray) (k:Nat):(yA ⟨#[32]⟩ (L.drop k)).size≤(yA ⟨#[32]⟩ L).size:=by
 rw [rx,rx]
 induction k generalizing L with
 | zero=>simp
 | succ k ih=>
   cases L with
   | nil=>simp
   | cons a r=>
     rw [List.drop_succ_cons];refine Nat.le_trans (ih r) ?_;rw [List.map_cons,Lib.join_cons,List.length_append];cases r with
     | nil=>simp [Lib.join_nil]
     | cons b s=>
       rw [List.map_cons,Lib.join_cons,List.length_append];simp only [Lib.joinTail,List.map_cons,List.flatten_cons,List.length_append];omega
theorem za7 (d:Dk) (t:ByteArray) (h:¬ (vd d t).2.2=0):(vd d t).1=d:=by
 unfold vd noD at h ⊢;cases hr:xk t with
 | none=>rfl
 | some f=>
   rw [hr] at h;exact absurd rfl h
theorem zbj (d:Dk) (t:ByteArray) (h:¬ (xt d t).2.2=0):(xt d t).1=d:=by
 unfold xt noD at h ⊢;cases hr:wc t with
 | none=>rfl
 | some x=>
   rw [hr] at h;simp only [] at h ⊢;by_cases hc:(yO d.xs x).2=0
   · rw [if_pos hc] at h;exact absurd rfl h
   · rw [if_neg hc]
theorem qn {c:Prop} [Decidable c] {d:Dk} {r:xX} {k:Int} (hr:r.2.2=0) (h:¬ (if c then r else noD d k).2.2=0):(if c then r else noD d k).1=d:=by
 by_cases hc:c
 · rw [if_pos hc] at h;exact absurd hr h
 · rw [if_neg hc];rfl
theorem bE (d:Dk) (nm t:ByteArray) (h:¬ (xC d nm t).2.2=0):(xC d nm t).1=d:=by
 unfold xC at h ⊢;cases hr:wn t with
 | none=>rfl
 | some p=>
   obtain ⟨k,a⟩:=p;rw [hr] at h;simp only [] at h ⊢;by_cases h1:(yv d.xs nm).2=0
   · rw [if_pos h1] at h ⊢;exact qn rfl h
   · rw [if_neg h1];rfl
theorem zbR (d:Dk) (ws:List ByteArray) (ns:List Int) (h:¬ (yj d ws ns).2.2=0):(yj d ws ns).1=d:=by
 unfold yj at h ⊢;by_cases h1:zf ws 0=ya
 · rw [if_pos h1] at h ⊢;exact za7 _ _ h
 rw [if_neg h1] at h ⊢;by_cases h2:zf ws 0=yb
 · rw [if_pos h2] at h ⊢;exact zbj _ _ h
 rw [if_neg h2] at h ⊢;by_cases h3:zf ws 0=zQ
 · rw [if_pos h3];rfl
 rw [if_neg h3] at h ⊢;by_cases h4:zf ws 0=yu
 · rw [if_pos h4] at h ⊢;exact qn rfl h
 rw [if_neg h4] at h ⊢;by_cases h5:zf ws 0=yc
 · rw [if_pos h5] at h ⊢;exact qn rfl h
 rw [if_neg h5] at h ⊢;by_cases h6:zf ws 0=zI
 · rw [if_pos h6] at h ⊢;exact bE _ _ _ h
 rw [if_neg h6] at h ⊢;by_cases h7:zf ws 0=zM
 · rw [if_pos h7] at h ⊢;exact qn rfl h
 rw [if_neg h7] at h ⊢;by_cases h8:zf ws 0=zw
 · rw [if_pos h8] at h ⊢;exact qn rfl h
 rw [if_neg h8] at h ⊢;by_cases h9:zf ws 0=zL
 · rw [if_pos h9] at h ⊢;exact qn rfl h
 rw [if_neg h9] at h ⊢;by_cases h10:zf ws 0=zJ
 · rw [if_pos h10] at h ⊢;exact qn rfl h
 rw [if_neg h10];rfl
theorem vy {d:Dk} {ws:List ByteArray} (hd:isD ws=true) (h:yM ws (zV (zf ws 0)).data.toList 1=true) :
 (wt d ws).1=(yj d ws (wdN ws (zV (zf ws 0)).data.toList 1)).1∧(wt d ws).2.1=wO (yj d ws (wdN ws (zV (zf ws 0)).data.toList 1)):=by
 unfold wt wO;rw [gK ws hd,if_pos h];simp only [];by_cases hc:(yj d ws (wdN ws (zV (zf ws 0)).data.toList 1)).2.2=0
 · rw [if_pos hc,if_pos hc];exact ⟨rfl,rfl⟩
 · rw [if_neg hc,if_neg hc];exact ⟨(zbR _ _ _ hc).symm,rfl⟩
theorem vx {d:Dk} {ws:List ByteArray} (hd:isD ws=true) (h:yM ws (zV (zf ws 0)).data.toList 1=false):wt d ws=(d,[xw 7],0):=by
 unfold wt;rw [gK ws hd,if_neg (by rw [h];simp)]
def doS (d:Dk) (O:List ByteArray) (ws:List ByteArray):Dk × List ByteArray:=if isD ws=true then ((wt d ws).1,O ++ (wt d ws).2.1) else (d,O)
def zb9 (w0:World) (g:Nat) (d:Dk) (O ws:List ByteArray) (w:World) (e:Ending) (w':World):Prop:=
 e=.returned (.bool (isD ws))∧w.heap.size≤w'.heap.size∧∃ (ns:List Int) (ts:List ByteArray) (A Ao An At:Option Addr) (n c no co kn cn kt ct:Nat),SR w0 w' g (doS d O ws).1 (doS d O ws).2 ns ts A Ao An At n c no co kn cn kt ct
theorem jI {d:Dk} {ws:List ByteArray} (h:zf ws 0=ya) (h2:ws.length=2):yj d ws (wdN ws (zV (zf ws 0)).data.toList 1)=vd d (zf ws 1):=by
 unfold yj;rw [h,if_pos rfl,zag h2]
theorem jK {d:Dk} {ws:List ByteArray} (h:zf ws 0=yc):yj d ws (wdN ws (zV (zf ws 0)).data.toList 1)=vP d (zf ws 1):=by
 rw [h,uY];unfold yj
 first
  | (rw [h,if_neg (show ¬ yc=ya by decide),if_neg (show ¬ yc=yb by decide),if_neg (show ¬ yc=zQ by decide),if_neg (show ¬ yc=yu by decide),if_pos rfl];done)
  | (rw [h,if_neg (show ¬ yc=ya by decide),if_neg (show ¬ yc=yb by decide),if_neg (show ¬ yc=zQ by decide),if_neg (show ¬ yc=yu by decide),if_pos rfl];rfl)
theorem lH {d:Dk} {ws:List ByteArray} (h:zf ws 0=zw):yj d ws (wdN ws (zV (zf ws 0)).data.toList 1)=xV d (yx ws):=by
 rw [h,vW];unfold yj
 first
  | (rw [h,if_neg (show ¬ zw=ya by decide),if_neg (show ¬ zw=yb by decide),if_neg (show ¬ zw=zQ by decide),if_neg (show ¬ zw=yu by decide),if_neg (show ¬ zw=yc by decide),if_neg (show ¬ zw=zI by decide),if_neg (show ¬ zw=zM by decide),if_pos rfl];done)
  | (rw [h,if_neg (show ¬ zw=ya by decide),if_neg (show ¬ zw=yb by decide),if_neg (show ¬ zw=zQ by decide),if_neg (show ¬ zw=yu by decide),if_neg (show ¬ zw=yc by decide),if_neg (show ¬ zw=zI by decide),if_neg (show ¬ zw=zM by decide),if_pos rfl];rfl)
theorem jJ {d:Dk} {ws:List ByteArray} (h:zf ws 0=yb):yj d ws (wdN ws (zV (zf ws 0)).data.toList 1)=xt d (yx ws):=by
 rw [h,uX];unfold yj
 first
  | (rw [h,if_neg (show ¬ yb=ya by decide),if_pos rfl];done)
  | (rw [h,if_neg (show ¬ yb=ya by decide),if_pos rfl];rfl)
theorem ku {d:Dk} {ws:List ByteArray} (h:zf ws 0=zM):yj d ws (wdN ws (zV (zf ws 0)).data.toList 1)=wC d (yx ws):=by
 rw [h,ur];unfold yj
 first
  | (rw [h,if_neg (show ¬ zM=ya by decide),if_neg (show ¬ zM=yb by decide),if_neg (show ¬ zM=zQ by decide),if_neg (show ¬ zM=yu by decide),if_neg (show ¬ zM=yc by decide),if_neg (show ¬ zM=zI by decide),if_pos rfl];done)
  | (rw [h,if_neg (show ¬ zM=ya by decide),if_neg (show ¬ zM=yb by decide),if_neg (show ¬ zM=zQ by decide),if_neg (show ¬ zM=yu by decide),if_neg (show ¬ zM=yc by decide),if_neg (show ¬ zM=zI by decide),if_pos rfl];rfl)
theorem kp {d:Dk} {ws:List ByteArray} (h:zf ws 0=zI):yj d ws (wdN ws (zV (zf ws 0)).data.toList 1)=xC d (zf ws 1) (zf ws 2 ++ ⟨#[32]⟩ ++ zf ws 3):=by
 rw [h,um];unfold yj
 first
  | (rw [h,if_neg (show ¬ zI=ya by decide),if_neg (show ¬ zI=yb by decide),if_neg (show ¬ zI=zQ by decide),if_neg (show ¬ zI=yu by decide),if_neg (show ¬ zI=yc by decide),if_pos rfl];done)
  | (rw [h,if_neg (show ¬ zI=ya by decide),if_neg (show ¬ zI=yb by decide),if_neg (show ¬ zI=zQ by decide),if_neg (show ¬ zI=yu by decide),if_neg (show ¬ zI=yc by decide),if_pos rfl];rfl)
theorem fG {d:Dk} {ws:List ByteArray} (h:zf ws 0=yu):yj d ws (wdN ws (zV (zf ws 0)).data.toList 1)=uC d (zq (zf ws 1)) (zq (zf ws 2)) (zq (zf ws 3)):=by
 rw [h,tS];unfold yj
 first
  | (rw [h,if_neg (show ¬ yu=ya by decide),if_neg (show ¬ yu=yb by decide),if_neg (show ¬ yu=zQ by decide),if_pos rfl];done)
  | (rw [h,if_neg (show ¬ yu=ya by decide),if_neg (show ¬ yu=yb by decide),if_neg (show ¬ yu=zQ by decide),if_pos rfl];rfl)
theorem ks {d:Dk} {ws:List ByteArray} (h:zf ws 0=zL):yj d ws (wdN ws (zV (zf ws 0)).data.toList 1)=vo d (zq (zf ws 1)) (zq (zf ws 2)) (zq (zf ws 3)) (zq (zf ws 4)):=by
 rw [h,uq];unfold yj
 first
  | (rw [h,if_neg (show ¬ zL=ya by decide),if_neg (show ¬ zL=yb by decide),if_neg (show ¬ zL=zQ by decide),if_neg (show ¬ zL=yu by decide),if_neg (show ¬ zL=yc by decide),if_neg (show ¬ zL=zI by decide),if_neg (show ¬ zL=zM by decide),if_neg (show ¬ zL=zw by decide),if_pos rfl];done)
  | (rw [h,if_neg (show ¬ zL=ya by decide),if_neg (show ¬ zL=yb by decide),if_neg (show ¬ zL=zQ by decide),if_neg (show ¬ zL=yu by decide),if_neg (show ¬ zL=yc by decide),if_neg (show ¬ zL=zI by decide),if_neg (show ¬ zL=zM by decide),if_neg (show ¬ zL=zw by decide),if_pos rfl];rfl)
theorem kq {d:Dk} {ws:List ByteArray} (h:zf ws 0=zJ):yj d ws (wdN ws (zV (zf ws 0)).data.toList 1)=vj d (zq (zf ws 1)) (zf ws 2) (zq (zf ws 3)):=by
 rw [h,un];unfold yj
 first
  | (rw [h,if_neg (show ¬ zJ=ya by decide),if_neg (show ¬ zJ=yb by decide),if_neg (show ¬ zJ=zQ by decide),if_neg (show ¬ zJ=yu by decide),if_neg (show ¬ zJ=yc by decide),if_neg (show ¬ zJ=zI by decide),if_neg (show ¬ zJ=zM by decide),if_neg (show ¬ zJ=zw by decide),if_neg (show ¬ zJ=zL by decide),if_pos rfl];done)
  | (rw [h,if_neg (show ¬ zJ=ya by decide),if_neg (show ¬ zJ=yb by decide),if_neg (show ¬ zJ=zQ by decide),if_neg (show ¬ zJ=yu by decide),if_neg (show ¬ zJ=yc by decide),if_neg (show ¬ zJ=zI by decide),if_neg (show ¬ zJ=zM by decide),if_neg (show ¬ zJ=zw by decide),if_neg (show ¬ zJ=zL by decide),if_pos rfl];rfl)
theorem kr {d:Dk} {ws:List ByteArray} (h:zf ws 0=zQ):yj d ws (wdN ws (zV (zf ws 0)).data.toList 1)=vK d:=by
 rw [h,uo];unfold yj
 first
  | (rw [h,if_neg (show ¬ zQ=ya by decide),if_neg (show ¬ zQ=yb by decide),if_pos rfl];done)
  | (rw [h,if_neg (show ¬ zQ=ya by decide),if_neg (show ¬ zQ=yb by decide),if_pos rfl];rfl)
theorem fH {d:Dk} {ws:List ByteArray} (h:zf ws 0=yE):yj d ws (wdN ws (zV (zf ws 0)).data.toList 1)=ss d:=by
 rw [h,tT];unfold yj
 first
  | (rw [h,if_neg (show ¬ yE=ya by decide),if_neg (show ¬ yE=yb by decide),if_neg (show ¬ yE=zQ by decide),if_neg (show ¬ yE=yu by decide),if_neg (show ¬ yE=yc by decide),if_neg (show ¬ yE=zI by decide),if_neg (show ¬ yE=zM by decide),if_neg (show ¬ yE=zw by decide),if_neg (show ¬ yE=zL by decide),if_neg (show ¬ yE=zJ by decide)];done)
  | (rw [h,if_neg (show ¬ yE=ya by decide),if_neg (show ¬ yE=yb by decide),if_neg (show ¬ yE=zQ by decide),if_neg (show ¬ yE=yu by decide),if_neg (show ¬ yE=yc by decide),if_neg (show ¬ yE=zI by decide),if_neg (show ¬ yE=zM by decide),if_neg (show ¬ yE=zw by decide),if_neg (show ¬ yE=zL by decide),if_neg (show ¬ yE=zJ by decide)];rfl)
theorem zcg (w0 w:World) (g:Nat) (d:Dk) (O:List ByteArray) (ns:List Int) (ts:List ByteArray) (A Ao An At:Option Addr) (n c no co kn cn kt ct:Nat) (h:SR w0 w g d O ns ts A Ao An At n c no co kn cn kt ct) (hno:no≤900000) (hd:d.ok=true) (line:ByteArray) (hz:line.size≤1048576) :
 Calls Tryz.prog 42 #[.pointer (some ⟨g,0,none⟩),.string line] w (zb9 w0 g d O (zi 32 line) w):=by
 have HSP:=fun w=>wQ 32 line (by omega) w;have hle:=tK 32 line;have hpos:=qN 32 line;have HWZ:=qH (fun y (hy:y ∈ zi 32 line)=>Nat.le_trans (wj (c:=32) hy) hz);have HJZ:=qH (fun k=>Nat.le_trans (kI (zi 32 line) k) (by rw [gA];exact hz:(yA ⟨#[32]⟩ (zi 32 line)).size≤1048576));obtain ⟨ws,hws⟩:=zN (zi 32 line);rw [←hws] at HSP hle hpos HWZ HJZ ⊢;obtain ⟨nw,hnw⟩:=zN ws.length;rw [←hnw] at HSP hle hpos;have HNW:=qH hnw.symm;replace HSP:=qH HSP;have H:=qH h;have hgl:=h.blk.lt;have HD:=qH hd;clear hws hnw h hd;go_enter Tryz.func42,Tryz.ntmps42;go_wp2_with fail;refine (HSP.out _).mono ?_;rintro e W1 ⟨B,cw,rfl,ho,hb⟩;obtain ⟨gb,rfl⟩:=xj ho (by omega);have HAW:=qH (show Arr W1 (some ⟨gb,0,none⟩) (zd zn ws) by rw [yH];exact Arr.own ho);have hgb:w.heap.size≤gb:=zl ho gb rfl;have hgb1:gb < W1.heap.size:=yw ho gb rfl;have HBG:Hid (∀ ad,(some ⟨gb,0,none⟩:Option Addr)=some ad→ad.block≠g∧ad.block < W1.heap.size):=qH (fun ad e=>by
  injection e with e;subst e;exact ⟨by show gb≠g;omega,hgb1⟩)
 have HS1:=qH (H.out.below hb);have HZ1:=qH hb.size;have hn0:0 < nw:=hpos;have hn1:(nw:Int)≤1048577:=by omega
 have hn2:(0:Int) < (nw:Int):=by omega
 have hwn:IntKind.i64.wrap ((nw:Int) - 1)=(nw:Int) - 1:=IntWalk.i64_in _ (by omega);have k0:W1.cell? ⟨gb,0,none⟩=some (.string (zf ws 0)):=zW HAW.out (wv (by rw [HNW.out];exact hn0));have HFM:=fun w=>cf (zf ws 0) w;have HWD:=qH (fun V A Ao An At n c no co kn cn kt ct (h:SR w0 V g d O ns ts A Ao An At n c no co kn cn kt ct)=>True.intro);clear ho hb HSP HWD H hpos;rcases ma (zf ws 0) with hq | hq | hq | hq | hq | hq | hq | hq | hq | hq | hq | ⟨hq,hq2⟩
 · have HFM2:=qH (show ∀ w,Calls Tryz.prog 97 #[.string ⟨#[102,111,111,116]⟩] w (RetQ (.string ⟨#[120]⟩) w) from fun w=>by
    have h9:=HFM w;rw [hq,sC] at h9;exact h9)
   have k0':W1.cell? ⟨gb,0,none⟩=some (.string ⟨#[102,111,111,116]⟩):=by rw [hq] at k0;exact k0
   have HID:=qH (aD hq);have HQ:=qH hq;have HFM:=HFM2;rw [HNW.out] at HID;clear k0 HFM2 hq;by_cases hc:2=nw
   case neg=>
    have hcI:((1:Int) != (nw:Int) - 1)=true:=by rw [bne_iff_ne];omega
    have HF:Hid (isD ws=false):=qH (by rw [HID.out];exact decide_eq_false hc);go_wp2_with fail;refine qR (HFM.out _) ?_;go_wp2_with fail;go_returns;exact ⟨by rw [HF.out];rfl,HZ1.out,ns,ts,A,Ao,An,At,n,c,no,co,kn,cn,kt,ct,by unfold doS;rw [if_neg (by rw [HF.out];simp)];exact HS1.out⟩
   have HF:Hid (isD ws=true):=qH (by rw [HID.out];exact decide_eq_true hc);have hcI:((1:Int) != (nw:Int) - 1)=false:=by
    rw [bne_eq_false_iff_eq];omega
   have HRW:=qH (wT w0 W1 g d O ns ts A Ao An At n c no co kn cn kt ct HS1.out ws (some ⟨gb,0,none⟩) nw cw HAW.out HBG HNW hn1 HWZ HJZ ⟨#[120]⟩ (by show 1≤4;omega) (by show 1 + 1≤nw;omega));unfold uw at HRW;have HBAD:=qH (fun h9=>vx (d:=d) HF.out (show yM ws (zV (zf ws 0)).data.toList 1=false by rw [HQ.out,sC];exact h9));have HRUN:=qH (fun h9=>vy (d:=d) HF.out (show yM ws (zV (zf ws 0)).data.toList 1=true by rw [HQ.out,sC];exact h9));rw [jI HQ.out (by rw [HNW.out];omega)] at HRUN;obtain ⟨bw,hbw⟩:=zN (yM ws (⟨#[120]⟩:ByteArray).data.toList 1);rw [←hbw] at HRW HBAD HRUN;clear hbw;go_wp2_with fail;refine qR (HFM.out _) ?_;go_wp2_with fail;refine HRW.out.mono ?_;rintro e W2 ⟨rfl,hz2,ns2,ts2,An2,At2,kn2,cn2,kt2,ct2,hs2,hw2,ha2⟩;have HS2:=qH hs2;cases bw
   · have HE:=qH (HBAD.out rfl);have HRP:=qH (yI w0 W2 g d O ns2 ts2 A Ao An2 At2 n c no co kn2 cn2 kt2 ct2 HS2.out (by omega) 7);clear hs2 hw2 ha2 HRUN HBAD;go_wp2_with fail;refine HRP.out.mono ?_;rintro e W3 ⟨rfl,hz3,hr3⟩;go_wp2_with fail;go_returns;have hz1:=HZ1.out;obtain ⟨A9,Ao9,An9,At9,n9,c9,no9,co9,kn9,cn9,kt9,ct9,hr3⟩:=hr3;exact ⟨by rw [HF.out];rfl,by omega,ns2,ts2,A9,Ao9,An9,At9,n9,c9,no9,co9,kn9,cn9,kt9,ct9,by unfold doS;rw [if_pos HF.out,HE.out];exact hr3⟩
   obtain ⟨ens,ets⟩:=hw2 rfl;have HM:=qH (zaN w0 W2 g d O ns2 ts2 A Ao An2 At2 n c no co kn2 cn2 kt2 ct2 (zf ws 1) HS2.out hno (by rw [ets];rfl) (by have:=HWZ.out _ (uF (ws:=ws) (k:=1) (by rw [HNW.out];omega));omega));have HR:=qH (HRUN.out rfl);have k2:W2.cell? ⟨gb,0,none⟩=some (.string ⟨#[102,111,111,116]⟩):=by
    have h9:=zW ha2 (wv (by rw [HNW.out];exact hn0));rw [HQ.out] at h9;exact h9
   clear hs2 hw2 ha2 HRUN HBAD ens ets k0';go_wp2_with fail;refine HM.out.mono ?_;rintro e W3 ⟨rfl,hz3,hr3⟩;go_wp2_with fail;go_returns;have hz1:=HZ1.out;obtain ⟨A9,Ao9,An9,At9,n9,c9,no9,co9,kn9,cn9,kt9,ct9,hr3⟩:=hr3;exact ⟨by rw [HF.out];rfl,by omega,ns2,ts2,A9,Ao9,An9,At9,n9,c9,no9,co9,kn9,cn9,kt9,ct9,by unfold doS;rw [if_pos HF.out,HR.out.1,HR.out.2];exact hr3⟩
 · have HFM2:=qH (show ∀ w,Calls Tryz.prog 97 #[.string ⟨#[110,101,101,100]⟩] w (RetQ (.string ⟨#[120]⟩) w) from fun w=>by
    have h9:=HFM w;rw [hq,uY] at h9;exact h9)
   have k0':W1.cell? ⟨gb,0,none⟩=some (.string ⟨#[110,101,101,100]⟩):=by rw [hq] at k0;exact k0
   have HID:=qH (aF hq);have HQ:=qH hq;have HFM:=HFM2;rw [HNW.out] at HID;clear k0 HFM2 hq;by_cases hc:2=nw
   case neg=>
    have hcI:((1:Int) != (nw:Int) - 1)=true:=by rw [bne_iff_ne];omega
    have HF:Hid (isD ws=false):=qH (by rw [HID.out];exact decide_eq_false hc);go_wp2_with fail;refine qR (HFM.out _) ?_;go_wp2_with fail;go_returns;exact ⟨by rw [HF.out];rfl,HZ1.out,ns,ts,A,Ao,An,At,n,c,no,co,kn,cn,kt,ct,by unfold doS;rw [if_neg (by rw [HF.out];simp)];exact HS1.out⟩
   have HF:Hid (isD ws=true):=qH (by rw [HID.out];exact decide_eq_true hc);have hcI:((1:Int) != (nw:Int) - 1)=false:=by
    rw [bne_eq_false_iff_eq];omega
   have HRW:=qH (wT w0 W1 g d O ns ts A Ao An At n c no co kn cn kt ct HS1.out ws (some ⟨gb,0,none⟩) nw cw HAW.out HBG HNW hn1 HWZ HJZ ⟨#[120]⟩ (by show 1≤4;omega) (by show 1 + 1≤nw;omega));unfold uw at HRW;have HBAD:=qH (fun h9=>vx (d:=d) HF.out (show yM ws (zV (zf ws 0)).data.toList 1=false by rw [HQ.out,uY];exact h9));have HRUN:=qH (fun h9=>vy (d:=d) HF.out (show yM ws (zV (zf ws 0)).data.toList 1=true by rw [HQ.out,uY];exact h9));rw [jK HQ.out] at HRUN;obtain ⟨bw,hbw⟩:=zN (yM ws (⟨#[120]⟩:ByteArray).data.toList 1);rw [←hbw] at HRW HBAD HRUN;clear hbw;go_wp2_with fail;refine qR (HFM.out _) ?_;go_wp2_with fail;refine HRW.out.mono ?_;rintro e W2 ⟨rfl,hz2,ns2,ts2,An2,At2,kn2,cn2,kt2,ct2,hs2,hw2,ha2⟩;have HS2:=qH hs2;cases bw
   · have HE:=qH (HBAD.out rfl);have HRP:=qH (yI w0 W2 g d O ns2 ts2 A Ao An2 At2 n c no co kn2 cn2 kt2 ct2 HS2.out (by omega) 7);clear hs2 hw2 ha2 HRUN HBAD;go_wp2_with fail;refine HRP.out.mono ?_;rintro e W3 ⟨rfl,hz3,hr3⟩;go_wp2_with fail;go_returns;have hz1:=HZ1.out;obtain ⟨A9,Ao9,An9,At9,n9,c9,no9,co9,kn9,cn9,kt9,ct9,hr3⟩:=hr3;exact ⟨by rw [HF.out];rfl,by omega,ns2,ts2,A9,Ao9,An9,At9,n9,c9,no9,co9,kn9,cn9,kt9,ct9,by unfold doS;rw [if_pos HF.out,HE.out];exact hr3⟩
   obtain ⟨ens,ets⟩:=hw2 rfl;have HM:=qH (zaP w0 W2 g d O ns2 ts2 A Ao An2 At2 n c no co kn2 cn2 kt2 ct2 (zf ws 1) HS2.out hno HD.out (by rw [ets];rfl) (by have:=HWZ.out _ (uF (ws:=ws) (k:=1) (by rw [HNW.out];omega));omega));have HR:=qH (HRUN.out rfl);have k2:W2.cell? ⟨gb,0,none⟩=some (.string ⟨#[110,101,101,100]⟩):=by
    have h9:=zW ha2 (wv (by rw [HNW.out];exact hn0));rw [HQ.out] at h9;exact h9
   clear hs2 hw2 ha2 HRUN HBAD ens ets k0';go_wp2_with fail;refine HM.out.mono ?_;rintro e W3 ⟨rfl,hz3,hr3⟩;go_wp2_with fail;go_returns;have hz1:=HZ1.out;obtain ⟨A9,Ao9,An9,At9,n9,c9,no9,co9,kn9,cn9,kt9,ct9,hr3⟩:=hr3;exact ⟨by rw [HF.out];rfl,by omega,ns2,ts2,A9,Ao9,An9,At9,n9,c9,no9,co9,kn9,cn9,kt9,ct9,by unfold doS;rw [if_pos HF.out,HR.out.1,HR.out.2];exact hr3⟩
 · have HFM2:=qH (show ∀ w,Calls Tryz.prog 97 #[.string ⟨#[99,108,97,117,115,101]⟩] w (RetQ (.string ⟨#[114]⟩) w) from fun w=>by
    have h9:=HFM w;rw [hq,vW] at h9;exact h9)
   have k0':W1.cell? ⟨gb,0,none⟩=some (.string ⟨#[99,108,97,117,115,101]⟩):=by rw [hq] at k0;exact k0
   have HID:=qH (fQ hq);have HQ:=qH hq;have HFM:=HFM2;rw [HNW.out] at HID;clear k0 HFM2 hq;by_cases hc:2≤nw
   case neg=>
    have hcI:(nw:Int) < 2:=by omega
    have HF:Hid (isD ws=false):=qH (by rw [HID.out];exact decide_eq_false hc);go_wp2_with fail;refine qR (HFM.out _) ?_;go_wp2_with fail;go_returns;exact ⟨by rw [HF.out];rfl,HZ1.out,ns,ts,A,Ao,An,At,n,c,no,co,kn,cn,kt,ct,by unfold doS;rw [if_neg (by rw [HF.out];simp)];exact HS1.out⟩
   have HF:Hid (isD ws=true):=qH (by rw [HID.out];exact decide_eq_true hc);have hcI:¬ (nw:Int) < 2:=by omega
   have HRW:=qH (wT w0 W1 g d O ns ts A Ao An At n c no co kn cn kt ct HS1.out ws (some ⟨gb,0,none⟩) nw cw HAW.out HBG HNW hn1 HWZ HJZ ⟨#[114]⟩ (by show 1≤4;omega) (by show 1 + 1≤nw;omega));unfold uw at HRW;have HBAD:=qH (fun h9=>vx (d:=d) HF.out (show yM ws (zV (zf ws 0)).data.toList 1=false by rw [HQ.out,vW];exact h9));have HRUN:=qH (fun h9=>vy (d:=d) HF.out (show yM ws (zV (zf ws 0)).data.toList 1=true by rw [HQ.out,vW];exact h9));rw [lH HQ.out] at HRUN;obtain ⟨bw,hbw⟩:=zN (yM ws (⟨#[114]⟩:ByteArray).data.toList 1);rw [←hbw] at HRW HBAD HRUN;clear hbw;go_wp2_with fail;refine qR (HFM.out _) ?_;go_wp2_with fail;refine HRW.out.mono ?_;rintro e W2 ⟨rfl,hz2,ns2,ts2,An2,At2,kn2,cn2,kt2,ct2,hs2,hw2,ha2⟩;have HS2:=qH hs2;cases bw
   · have HE:=qH (HBAD.out rfl);have HRP:=qH (yI w0 W2 g d O ns2 ts2 A Ao An2 At2 n c no co kn2 cn2 kt2 ct2 HS2.out (by omega) 7);clear hs2 hw2 ha2 HRUN HBAD;go_wp2_with fail;refine HRP.out.mono ?_;rintro e W3 ⟨rfl,hz3,hr3⟩;go_wp2_with fail;go_returns;have hz1:=HZ1.out;obtain ⟨A9,Ao9,An9,At9,n9,c9,no9,co9,kn9,cn9,kt9,ct9,hr3⟩:=hr3;exact ⟨by rw [HF.out];rfl,by omega,ns2,ts2,A9,Ao9,An9,At9,n9,c9,no9,co9,kn9,cn9,kt9,ct9,by unfold doS;rw [if_pos HF.out,HE.out];exact hr3⟩
   obtain ⟨ens,ets⟩:=hw2 rfl;have HM:=qH (eH w0 W2 g d O ns2 ts2 A Ao An2 At2 n c no co kn2 cn2 kt2 ct2 (yx ws) HS2.out hno HD.out (by rw [ets];rfl) (HJZ.out 1));have HR:=qH (HRUN.out rfl);have k2:W2.cell? ⟨gb,0,none⟩=some (.string ⟨#[99,108,97,117,115,101]⟩):=by
    have h9:=zW ha2 (wv (by rw [HNW.out];exact hn0));rw [HQ.out] at h9;exact h9
   clear hs2 hw2 ha2 HRUN HBAD ens ets k0';go_wp2_with fail;refine HM.out.mono ?_;rintro e W3 ⟨rfl,hz3,hr3⟩;go_wp2_with fail;go_returns;have hz1:=HZ1.out;obtain ⟨A9,Ao9,An9,At9,n9,c9,no9,co9,kn9,cn9,kt9,ct9,hr3⟩:=hr3;exact ⟨by rw [HF.out];rfl,by omega,ns2,ts2,A9,Ao9,An9,At9,n9,c9,no9,co9,kn9,cn9,kt9,ct9,by unfold doS;rw [if_pos HF.out,HR.out.1,HR.out.2];exact hr3⟩
 · have HFM2:=qH (show ∀ w,Calls Tryz.prog 97 #[.string ⟨#[108,97,115,116]⟩] w (RetQ (.string ⟨#[114]⟩) w) from fun w=>by
    have h9:=HFM w;rw [hq,uX] at h9;exact h9)
   have k0':W1.cell? ⟨gb,0,none⟩=some (.string ⟨#[108,97,115,116]⟩):=by rw [hq] at k0;exact k0
   have HID:=qH (aE hq);have HQ:=qH hq;have HFM:=HFM2;rw [HNW.out] at HID;clear k0 HFM2 hq;by_cases hc:2≤nw
   case neg=>
    have hcI:(nw:Int) < 2:=by omega
    have HF:Hid (isD ws=false):=qH (by rw [HID.out];exact decide_eq_false hc);go_wp2_with fail;refine qR (HFM.out _) ?_;go_wp2_with fail;go_returns;exact ⟨by rw [HF.out];rfl,HZ1.out,ns,ts,A,Ao,An,At,n,c,no,co,kn,cn,kt,ct,by unfold doS;rw [if_neg (by rw [HF.out];simp)];exact HS1.out⟩
   have HF:Hid (isD ws=true):=qH (by rw [HID.out];exact decide_eq_true hc);have hcI:¬ (nw:Int) < 2:=by omega
   have HRW:=qH (wT w0 W1 g d O ns ts A Ao An At n c no co kn cn kt ct HS1.out ws (some ⟨gb,0,none⟩) nw cw HAW.out HBG HNW hn1 HWZ HJZ ⟨#[114]⟩ (by show 1≤4;omega) (by show 1 + 1≤nw;omega));unfold uw at HRW;have HBAD:=qH (fun h9=>vx (d:=d) HF.out (show yM ws (zV (zf ws 0)).data.toList 1=false by rw [HQ.out,uX];exact h9));have HRUN:=qH (fun h9=>vy (d:=d) HF.out (show yM ws (zV (zf ws 0)).data.toList 1=true by rw [HQ.out,uX];exact h9));rw [jJ HQ.out] at HRUN;obtain ⟨bw,hbw⟩:=zN (yM ws (⟨#[114]⟩:ByteArray).data.toList 1);rw [←hbw] at HRW HBAD HRUN;clear hbw;go_wp2_with fail;refine qR (HFM.out _) ?_;go_wp2_with fail;refine HRW.out.mono ?_;rintro e W2 ⟨rfl,hz2,ns2,ts2,An2,At2,kn2,cn2,kt2,ct2,hs2,hw2,ha2⟩;have HS2:=qH hs2;cases bw
   · have HE:=qH (HBAD.out rfl);have HRP:=qH (yI w0 W2 g d O ns2 ts2 A Ao An2 At2 n c no co kn2 cn2 kt2 ct2 HS2.out (by omega) 7);clear hs2 hw2 ha2 HRUN HBAD;go_wp2_with fail;refine HRP.out.mono ?_;rintro e W3 ⟨rfl,hz3,hr3⟩;go_wp2_with fail;go_returns;have hz1:=HZ1.out;obtain ⟨A9,Ao9,An9,At9,n9,c9,no9,co9,kn9,cn9,kt9,ct9,hr3⟩:=hr3;exact ⟨by rw [HF.out];rfl,by omega,ns2,ts2,A9,Ao9,An9,At9,n9,c9,no9,co9,kn9,cn9,kt9,ct9,by unfold doS;rw [if_pos HF.out,HE.out];exact hr3⟩
   obtain ⟨ens,ets⟩:=hw2 rfl;have HM:=qH (zaO w0 W2 g d O ns2 ts2 A Ao An2 At2 n c no co kn2 cn2 kt2 ct2 (yx ws) HS2.out hno HD.out (by rw [ets];rfl) (by have:=HJZ.out 1;unfold yx;omega));have HR:=qH (HRUN.out rfl);have k2:W2.cell? ⟨gb,0,none⟩=some (.string ⟨#[108,97,115,116]⟩):=by
    have h9:=zW ha2 (wv (by rw [HNW.out];exact hn0));rw [HQ.out] at h9;exact h9
   clear hs2 hw2 ha2 HRUN HBAD ens ets k0';go_wp2_with fail;refine HM.out.mono ?_;rintro e W3 ⟨rfl,hz3,hr3⟩;go_wp2_with fail;go_returns;have hz1:=HZ1.out;obtain ⟨A9,Ao9,An9,At9,n9,c9,no9,co9,kn9,cn9,kt9,ct9,hr3⟩:=hr3;exact ⟨by rw [HF.out];rfl,by omega,ns2,ts2,A9,Ao9,An9,At9,n9,c9,no9,co9,kn9,cn9,kt9,ct9,by unfold doS;rw [if_pos HF.out,HR.out.1,HR.out.2];exact hr3⟩
 · have HFM2:=qH (show ∀ w,Calls Tryz.prog 97 #[.string ⟨#[115,116,121,108,101]⟩] w (RetQ (.string ⟨#[114]⟩) w) from fun w=>by
    have h9:=HFM w;rw [hq,ur] at h9;exact h9)
   have k0':W1.cell? ⟨gb,0,none⟩=some (.string ⟨#[115,116,121,108,101]⟩):=by rw [hq] at k0;exact k0
   have HID:=qH (dP hq);have HQ:=qH hq;have HFM:=HFM2;rw [HNW.out] at HID;clear k0 HFM2 hq;by_cases hc:2≤nw
   case neg=>
    have hcI:(nw:Int) < 2:=by omega
    have HF:Hid (isD ws=false):=qH (by rw [HID.out];exact decide_eq_false hc);go_wp2_with fail;refine qR (HFM.out _) ?_;go_wp2_with fail;go_returns;exact ⟨by rw [HF.out];rfl,HZ1.out,ns,ts,A,Ao,An,At,n,c,no,co,kn,cn,kt,ct,by unfold doS;rw [if_neg (by rw [HF.out];simp)];exact HS1.out⟩
   have HF:Hid (isD ws=true):=qH (by rw [HID.out];exact decide_eq_true hc);have hcI:¬ (nw:Int) < 2:=by omega
   have HRW:=qH (wT w0 W1 g d O ns ts A Ao An At n c no co kn cn kt ct HS1.out ws (some ⟨gb,0,none⟩) nw cw HAW.out HBG HNW hn1 HWZ HJZ ⟨#[114]⟩ (by show 1≤4;omega) (by show 1 + 1≤nw;omega));unfold uw at HRW;have HBAD:=qH (fun h9=>vx (d:=d) HF.out (show yM ws (zV (zf ws 0)).data.toList 1=false by rw [HQ.out,ur];exact h9));have HRUN:=qH (fun h9=>vy (d:=d) HF.out (show yM ws (zV (zf ws 0)).data.toList 1=true by rw [HQ.out,ur];exact h9));rw [ku HQ.out] at HRUN;obtain ⟨bw,hbw⟩:=zN (yM ws (⟨#[114]⟩:ByteArray).data.toList 1);rw [←hbw] at HRW HBAD HRUN;clear hbw;go_wp2_with fail;refine qR (HFM.out _) ?_;go_wp2_with fail;refine HRW.out.mono ?_;rintro e W2 ⟨rfl,hz2,ns2,ts2,An2,At2,kn2,cn2,kt2,ct2,hs2,hw2,ha2⟩;have HS2:=qH hs2;cases bw
   · have HE:=qH (HBAD.out rfl);have HRP:=qH (yI w0 W2 g d O ns2 ts2 A Ao An2 At2 n c no co kn2 cn2 kt2 ct2 HS2.out (by omega) 7);clear hs2 hw2 ha2 HRUN HBAD;go_wp2_with fail;refine HRP.out.mono ?_;rintro e W3 ⟨rfl,hz3,hr3⟩;go_wp2_with fail;go_returns;have hz1:=HZ1.out;obtain ⟨A9,Ao9,An9,At9,n9,c9,no9,co9,kn9,cn9,kt9,ct9,hr3⟩:=hr3;exact ⟨by rw [HF.out];rfl,by omega,ns2,ts2,A9,Ao9,An9,At9,n9,c9,no9,co9,kn9,cn9,kt9,ct9,by unfold doS;rw [if_pos HF.out,HE.out];exact hr3⟩
   obtain ⟨ens,ets⟩:=hw2 rfl;have HM:=qH (bC w0 W2 g d O ns2 ts2 A Ao An2 At2 n c no co kn2 cn2 kt2 ct2 (yx ws) HS2.out hno HD.out (by rw [ets];rfl) (HJZ.out 1));have HR:=qH (HRUN.out rfl);have k2:W2.cell? ⟨gb,0,none⟩=some (.string ⟨#[115,116,121,108,101]⟩):=by
    have h9:=zW ha2 (wv (by rw [HNW.out];exact hn0));rw [HQ.out] at h9;exact h9
   clear hs2 hw2 ha2 HRUN HBAD ens ets k0';go_wp2_with fail;refine HM.out.mono ?_;rintro e W3 ⟨rfl,hz3,hr3⟩;go_wp2_with fail;go_returns;have hz1:=HZ1.out;obtain ⟨A9,Ao9,An9,At9,n9,c9,no9,co9,kn9,cn9,kt9,ct9,hr3⟩:=hr3;exact ⟨by rw [HF.out];rfl,by omega,ns2,ts2,A9,Ao9,An9,At9,n9,c9,no9,co9,kn9,cn9,kt9,ct9,by unfold doS;rw [if_pos HF.out,HR.out.1,HR.out.2];exact hr3⟩
 · have HFM2:=qH (show ∀ w,Calls Tryz.prog 97 #[.string ⟨#[97,108,116,101,114]⟩] w (RetQ (.string ⟨#[120,120,120]⟩) w) from fun w=>by
    have h9:=HFM w;rw [hq,um] at h9;exact h9)
   have k0':W1.cell? ⟨gb,0,none⟩=some (.string ⟨#[97,108,116,101,114]⟩):=by rw [hq] at k0;exact k0
   have HID:=qH (dL hq);have HQ:=qH hq;have HFM:=HFM2;rw [HNW.out] at HID;clear k0 HFM2 hq;by_cases hc:4=nw
   case neg=>
    have hcI:((3:Int) != (nw:Int) - 1)=true:=by rw [bne_iff_ne];omega
    have HF:Hid (isD ws=false):=qH (by rw [HID.out];exact decide_eq_false hc);go_wp2_with fail;refine qR (HFM.out _) ?_;go_wp2_with fail;go_returns;exact ⟨by rw [HF.out];rfl,HZ1.out,ns,ts,A,Ao,An,At,n,c,no,co,kn,cn,kt,ct,by unfold doS;rw [if_neg (by rw [HF.out];simp)];exact HS1.out⟩
   have HF:Hid (isD ws=true):=qH (by rw [HID.out];exact decide_eq_true hc);have hcI:((3:Int) != (nw:Int) - 1)=false:=by
    rw [bne_eq_false_iff_eq];omega
   have HRW:=qH (wT w0 W1 g d O ns ts A Ao An At n c no co kn cn kt ct HS1.out ws (some ⟨gb,0,none⟩) nw cw HAW.out HBG HNW hn1 HWZ HJZ ⟨#[120,120,120]⟩ (by show 3≤4;omega) (by show 3 + 1≤nw;omega));unfold uw at HRW;have HBAD:=qH (fun h9=>vx (d:=d) HF.out (show yM ws (zV (zf ws 0)).data.toList 1=false by rw [HQ.out,um];exact h9));have HRUN:=qH (fun h9=>vy (d:=d) HF.out (show yM ws (zV (zf ws 0)).data.toList 1=true by rw [HQ.out,um];exact h9));rw [kp HQ.out] at HRUN;obtain ⟨bw,hbw⟩:=zN (yM ws (⟨#[120,120,120]⟩:ByteArray).data.toList 1);rw [←hbw] at HRW HBAD HRUN;clear hbw;go_wp2_with fail;refine qR (HFM.out _) ?_;go_wp2_with fail;refine HRW.out.mono ?_;rintro e W2 ⟨rfl,hz2,ns2,ts2,An2,At2,kn2,cn2,kt2,ct2,hs2,hw2,ha2⟩;have HS2:=qH hs2;cases bw
   · have HE:=qH (HBAD.out rfl);have HRP:=qH (yI w0 W2 g d O ns2 ts2 A Ao An2 At2 n c no co kn2 cn2 kt2 ct2 HS2.out (by omega) 7);clear hs2 hw2 ha2 HRUN HBAD;go_wp2_with fail;refine HRP.out.mono ?_;rintro e W3 ⟨rfl,hz3,hr3⟩;go_wp2_with fail;go_returns;have hz1:=HZ1.out;obtain ⟨A9,Ao9,An9,At9,n9,c9,no9,co9,kn9,cn9,kt9,ct9,hr3⟩:=hr3;exact ⟨by rw [HF.out];rfl,by omega,ns2,ts2,A9,Ao9,An9,At9,n9,c9,no9,co9,kn9,cn9,kt9,ct9,by unfold doS;rw [if_pos HF.out,HE.out];exact hr3⟩
   obtain ⟨ens,ets⟩:=hw2 rfl;have HM:=qH (bx w0 W2 g d O ns2 ts2 A Ao An2 At2 n c no co kn2 cn2 kt2 ct2 (zf ws 1) (zf ws 2) (zf ws 3) HS2.out hno HD.out (by rw [ets];rfl) (HWZ.out _ (uF (by rw [HNW.out];omega))) (HWZ.out _ (uF (by rw [HNW.out];omega))) (HWZ.out _ (uF (by rw [HNW.out];omega))));have HR:=qH (HRUN.out rfl);have k2:W2.cell? ⟨gb,0,none⟩=some (.string ⟨#[97,108,116,101,114]⟩):=by
    have h9:=zW ha2 (wv (by rw [HNW.out];exact hn0));rw [HQ.out] at h9;exact h9
   clear hs2 hw2 ha2 HRUN HBAD ens ets k0';go_wp2_with fail;refine HM.out.mono ?_;rintro e W3 ⟨rfl,hz3,hr3⟩;go_wp2_with fail;go_returns;have hz1:=HZ1.out;obtain ⟨A9,Ao9,An9,At9,n9,c9,no9,co9,kn9,cn9,kt9,ct9,hr3⟩:=hr3;exact ⟨by rw [HF.out];rfl,by omega,ns2,ts2,A9,Ao9,An9,At9,n9,c9,no9,co9,kn9,cn9,kt9,ct9,by unfold doS;rw [if_pos HF.out,HR.out.1,HR.out.2];exact hr3⟩
 · have HFM2:=qH (show ∀ w,Calls Tryz.prog 97 #[.string ⟨#[102,105,116]⟩] w (RetQ (.string ⟨#[110,110,110]⟩) w) from fun w=>by
    have h9:=HFM w;rw [hq,tS] at h9;exact h9)
   have k0':W1.cell? ⟨gb,0,none⟩=some (.string ⟨#[102,105,116]⟩):=by rw [hq] at k0;exact k0
   have HID:=qH (zbc hq);have HQ:=qH hq;have HFM:=HFM2;rw [HNW.out] at HID;clear k0 HFM2 hq;by_cases hc:4=nw
   case neg=>
    have hcI:((3:Int) != (nw:Int) - 1)=true:=by rw [bne_iff_ne];omega
    have HF:Hid (isD ws=false):=qH (by rw [HID.out];exact decide_eq_false hc);go_wp2_with fail;refine qR (HFM.out _) ?_;go_wp2_with fail;go_returns;exact ⟨by rw [HF.out];rfl,HZ1.out,ns,ts,A,Ao,An,At,n,c,no,co,kn,cn,kt,ct,by unfold doS;rw [if_neg (by rw [HF.out];simp)];exact HS1.out⟩
   have HF:Hid (isD ws=true):=qH (by rw [HID.out];exact decide_eq_true hc);have hcI:((3:Int) != (nw:Int) - 1)=false:=by
    rw [bne_eq_false_iff_eq];omega
   have HRW:=qH (wT w0 W1 g d O ns ts A Ao An At n c no co kn cn kt ct HS1.out ws (some ⟨gb,0,none⟩) nw cw HAW.out HBG HNW hn1 HWZ HJZ ⟨#[110,110,110]⟩ (by show 3≤4;omega) (by show 3 + 1≤nw;omega));unfold uw at HRW;have HBAD:=qH (fun h9=>vx (d:=d) HF.out (show yM ws (zV (zf ws 0)).data.toList 1=false by rw [HQ.out,tS];exact h9));have HRUN:=qH (fun h9=>vy (d:=d) HF.out (show yM ws (zV (zf ws 0)).data.toList 1=true by rw [HQ.out,tS];exact h9));rw [fG HQ.out] at HRUN;obtain ⟨bw,hbw⟩:=zN (yM ws (⟨#[110,110,110]⟩:ByteArray).data.toList 1);rw [←hbw] at HRW HBAD HRUN;clear hbw;go_wp2_with fail;refine qR (HFM.out _) ?_;go_wp2_with fail;refine HRW.out.mono ?_;rintro e W2 ⟨rfl,hz2,ns2,ts2,An2,At2,kn2,cn2,kt2,ct2,hs2,hw2,ha2⟩;have HS2:=qH hs2;cases bw
   · have HE:=qH (HBAD.out rfl);have HRP:=qH (yI w0 W2 g d O ns2 ts2 A Ao An2 At2 n c no co kn2 cn2 kt2 ct2 HS2.out (by omega) 7);clear hs2 hw2 ha2 HRUN HBAD;go_wp2_with fail;refine HRP.out.mono ?_;rintro e W3 ⟨rfl,hz3,hr3⟩;go_wp2_with fail;go_returns;have hz1:=HZ1.out;obtain ⟨A9,Ao9,An9,At9,n9,c9,no9,co9,kn9,cn9,kt9,ct9,hr3⟩:=hr3;exact ⟨by rw [HF.out];rfl,by omega,ns2,ts2,A9,Ao9,An9,At9,n9,c9,no9,co9,kn9,cn9,kt9,ct9,by unfold doS;rw [if_pos HF.out,HE.out];exact hr3⟩
   obtain ⟨ens,ets⟩:=hw2 rfl;have HM:=qH (zbF w0 W2 g d O ns2 ts2 A Ao An2 At2 n c no co kn2 cn2 kt2 ct2 (zq (zf ws 1)) (zq (zf ws 2)) (zq (zf ws 3)) HS2.out hno HD.out (by rw [ens];rfl));have HR:=qH (HRUN.out rfl);have k2:W2.cell? ⟨gb,0,none⟩=some (.string ⟨#[102,105,116]⟩):=by
    have h9:=zW ha2 (wv (by rw [HNW.out];exact hn0));rw [HQ.out] at h9;exact h9
   clear hs2 hw2 ha2 HRUN HBAD ens ets k0';go_wp2_with fail;refine HM.out.mono ?_;rintro e W3 ⟨rfl,hz3,hr3⟩;go_wp2_with fail;go_returns;have hz1:=HZ1.out;obtain ⟨A9,Ao9,An9,At9,n9,c9,no9,co9,kn9,cn9,kt9,ct9,hr3⟩:=hr3;exact ⟨by rw [HF.out];rfl,by omega,ns2,ts2,A9,Ao9,An9,At9,n9,c9,no9,co9,kn9,cn9,kt9,ct9,by unfold doS;rw [if_pos HF.out,HR.out.1,HR.out.2];exact hr3⟩
 · have HFM2:=qH (show ∀ w,Calls Tryz.prog 97 #[.string ⟨#[114,97,105,115,101]⟩] w (RetQ (.string ⟨#[110,110,110,110]⟩) w) from fun w=>by
    have h9:=HFM w;rw [hq,uq] at h9;exact h9)
   have k0':W1.cell? ⟨gb,0,none⟩=some (.string ⟨#[114,97,105,115,101]⟩):=by rw [hq] at k0;exact k0
   have HID:=qH (dO hq);have HQ:=qH hq;have HFM:=HFM2;rw [HNW.out] at HID;clear k0 HFM2 hq;by_cases hc:5=nw
   case neg=>
    have hcI:((4:Int) != (nw:Int) - 1)=true:=by rw [bne_iff_ne];omega
    have HF:Hid (isD ws=false):=qH (by rw [HID.out];exact decide_eq_false hc);go_wp2_with fail;refine qR (HFM.out _) ?_;go_wp2_with fail;go_returns;exact ⟨by rw [HF.out];rfl,HZ1.out,ns,ts,A,Ao,An,At,n,c,no,co,kn,cn,kt,ct,by unfold doS;rw [if_neg (by rw [HF.out];simp)];exact HS1.out⟩
   have HF:Hid (isD ws=true):=qH (by rw [HID.out];exact decide_eq_true hc);have hcI:((4:Int) != (nw:Int) - 1)=false:=by
    rw [bne_eq_false_iff_eq];omega
   have HRW:=qH (wT w0 W1 g d O ns ts A Ao An At n c no co kn cn kt ct HS1.out ws (some ⟨gb,0,none⟩) nw cw HAW.out HBG HNW hn1 HWZ HJZ ⟨#[110,110,110,110]⟩ (by show 4≤4;omega) (by show 4 + 1≤nw;omega));unfold uw at HRW;have HBAD:=qH (fun h9=>vx (d:=d) HF.out (show yM ws (zV (zf ws 0)).data.toList 1=false by rw [HQ.out,uq];exact h9));have HRUN:=qH (fun h9=>vy (d:=d) HF.out (show yM ws (zV (zf ws 0)).data.toList 1=true by rw [HQ.out,uq];exact h9));rw [ks HQ.out] at HRUN;obtain ⟨bw,hbw⟩:=zN (yM ws (⟨#[110,110,110,110]⟩:ByteArray).data.toList 1);rw [←hbw] at HRW HBAD HRUN;clear hbw;go_wp2_with fail;refine qR (HFM.out _) ?_;go_wp2_with fail;refine HRW.out.mono ?_;rintro e W2 ⟨rfl,hz2,ns2,ts2,An2,At2,kn2,cn2,kt2,ct2,hs2,hw2,ha2⟩;have HS2:=qH hs2;cases bw
   · have HE:=qH (HBAD.out rfl);have HRP:=qH (yI w0 W2 g d O ns2 ts2 A Ao An2 At2 n c no co kn2 cn2 kt2 ct2 HS2.out (by omega) 7);clear hs2 hw2 ha2 HRUN HBAD;go_wp2_with fail;refine HRP.out.mono ?_;rintro e W3 ⟨rfl,hz3,hr3⟩;go_wp2_with fail;go_returns;have hz1:=HZ1.out;obtain ⟨A9,Ao9,An9,At9,n9,c9,no9,co9,kn9,cn9,kt9,ct9,hr3⟩:=hr3;exact ⟨by rw [HF.out];rfl,by omega,ns2,ts2,A9,Ao9,An9,At9,n9,c9,no9,co9,kn9,cn9,kt9,ct9,by unfold doS;rw [if_pos HF.out,HE.out];exact hr3⟩
   obtain ⟨ens,ets⟩:=hw2 rfl;have HM:=qH (bB w0 W2 g d O ns2 ts2 A Ao An2 At2 n c no co kn2 cn2 kt2 ct2 (zq (zf ws 1)) (zq (zf ws 2)) (zq (zf ws 3)) (zq (zf ws 4)) HS2.out hno (by rw [ens];rfl));have HR:=qH (HRUN.out rfl);have k2:W2.cell? ⟨gb,0,none⟩=some (.string ⟨#[114,97,105,115,101]⟩):=by
    have h9:=zW ha2 (wv (by rw [HNW.out];exact hn0));rw [HQ.out] at h9;exact h9
   clear hs2 hw2 ha2 HRUN HBAD ens ets k0';go_wp2_with fail;refine HM.out.mono ?_;rintro e W3 ⟨rfl,hz3,hr3⟩;go_wp2_with fail;go_returns;have hz1:=HZ1.out;obtain ⟨A9,Ao9,An9,At9,n9,c9,no9,co9,kn9,cn9,kt9,ct9,hr3⟩:=hr3;exact ⟨by rw [HF.out];rfl,by omega,ns2,ts2,A9,Ao9,An9,At9,n9,c9,no9,co9,kn9,cn9,kt9,ct9,by unfold doS;rw [if_pos HF.out,HR.out.1,HR.out.2];exact hr3⟩
 · have HFM2:=qH (show ∀ w,Calls Tryz.prog 97 #[.string ⟨#[101,110,116,101,114]⟩] w (RetQ (.string ⟨#[110,120,110]⟩) w) from fun w=>by
    have h9:=HFM w;rw [hq,un] at h9;exact h9)
   have k0':W1.cell? ⟨gb,0,none⟩=some (.string ⟨#[101,110,116,101,114]⟩):=by rw [hq] at k0;exact k0
   have HID:=qH (dM hq);have HQ:=qH hq;have HFM:=HFM2;rw [HNW.out] at HID;clear k0 HFM2 hq;by_cases hc:4=nw
   case neg=>
    have hcI:((3:Int) != (nw:Int) - 1)=true:=by rw [bne_iff_ne];omega
    have HF:Hid (isD ws=false):=qH (by rw [HID.out];exact decide_eq_false hc);go_wp2_with fail;refine qR (HFM.out _) ?_;go_wp2_with fail;go_returns;exact ⟨by rw [HF.out];rfl,HZ1.out,ns,ts,A,Ao,An,At,n,c,no,co,kn,cn,kt,ct,by unfold doS;rw [if_neg (by rw [HF.out];simp)];exact HS1.out⟩
   have HF:Hid (isD ws=true):=qH (by rw [HID.out];exact decide_eq_true hc);have hcI:((3:Int) != (nw:Int) - 1)=false:=by
    rw [bne_eq_false_iff_eq];omega
   have HRW:=qH (wT w0 W1 g d O ns ts A Ao An At n c no co kn cn kt ct HS1.out ws (some ⟨gb,0,none⟩) nw cw HAW.out HBG HNW hn1 HWZ HJZ ⟨#[110,120,110]⟩ (by show 3≤4;omega) (by show 3 + 1≤nw;omega));unfold uw at HRW;have HBAD:=qH (fun h9=>vx (d:=d) HF.out (show yM ws (zV (zf ws 0)).data.toList 1=false by rw [HQ.out,un];exact h9));have HRUN:=qH (fun h9=>vy (d:=d) HF.out (show yM ws (zV (zf ws 0)).data.toList 1=true by rw [HQ.out,un];exact h9));rw [kq HQ.out] at HRUN;obtain ⟨bw,hbw⟩:=zN (yM ws (⟨#[110,120,110]⟩:ByteArray).data.toList 1);rw [←hbw] at HRW HBAD HRUN;clear hbw;go_wp2_with fail;refine qR (HFM.out _) ?_;go_wp2_with fail;refine HRW.out.mono ?_;rintro e W2 ⟨rfl,hz2,ns2,ts2,An2,At2,kn2,cn2,kt2,ct2,hs2,hw2,ha2⟩;have HS2:=qH hs2;cases bw
   · have HE:=qH (HBAD.out rfl);have HRP:=qH (yI w0 W2 g d O ns2 ts2 A Ao An2 At2 n c no co kn2 cn2 kt2 ct2 HS2.out (by omega) 7);clear hs2 hw2 ha2 HRUN HBAD;go_wp2_with fail;refine HRP.out.mono ?_;rintro e W3 ⟨rfl,hz3,hr3⟩;go_wp2_with fail;go_returns;have hz1:=HZ1.out;obtain ⟨A9,Ao9,An9,At9,n9,c9,no9,co9,kn9,cn9,kt9,ct9,hr3⟩:=hr3;exact ⟨by rw [HF.out];rfl,by omega,ns2,ts2,A9,Ao9,An9,At9,n9,c9,no9,co9,kn9,cn9,kt9,ct9,by unfold doS;rw [if_pos HF.out,HE.out];exact hr3⟩
   obtain ⟨ens,ets⟩:=hw2 rfl;have HM:=qH (bz w0 W2 g d O ns2 ts2 A Ao An2 At2 n c no co kn2 cn2 kt2 ct2 (zq (zf ws 1)) (zq (zf ws 3)) (zf ws 2) HS2.out hno HD.out (by rw [ens];rfl) (by rw [ets];rfl) (HWZ.out _ (uF (by rw [HNW.out];omega))));have HR:=qH (HRUN.out rfl);have k2:W2.cell? ⟨gb,0,none⟩=some (.string ⟨#[101,110,116,101,114]⟩):=by
    have h9:=zW ha2 (wv (by rw [HNW.out];exact hn0));rw [HQ.out] at h9;exact h9
   clear hs2 hw2 ha2 HRUN HBAD ens ets k0';go_wp2_with fail;refine HM.out.mono ?_;rintro e W3 ⟨rfl,hz3,hr3⟩;go_wp2_with fail;go_returns;have hz1:=HZ1.out;obtain ⟨A9,Ao9,An9,At9,n9,c9,no9,co9,kn9,cn9,kt9,ct9,hr3⟩:=hr3;exact ⟨by rw [HF.out];rfl,by omega,ns2,ts2,A9,Ao9,An9,At9,n9,c9,no9,co9,kn9,cn9,kt9,ct9,by unfold doS;rw [if_pos HF.out,HR.out.1,HR.out.2];exact hr3⟩
 · have HFM2:=qH (show ∀ w,Calls Tryz.prog 97 #[.string ⟨#[108,97,115,116,115]⟩] w (RetQ (.string ⟨#[]⟩) w) from fun w=>by
    have h9:=HFM w;rw [hq,uo] at h9;exact h9)
   have k0':W1.cell? ⟨gb,0,none⟩=some (.string ⟨#[108,97,115,116,115]⟩):=by rw [hq] at k0;exact k0
   have HID:=qH (dN hq);have HQ:=qH hq;have HFM:=HFM2;rw [HNW.out] at HID;clear k0 HFM2 hq;by_cases hc:1=nw
   case neg=>
    have hcI:((0:Int) != (nw:Int) - 1)=true:=by rw [bne_iff_ne];omega
    have HF:Hid (isD ws=false):=qH (by rw [HID.out];exact decide_eq_false hc);go_wp2_with fail;refine qR (HFM.out _) ?_;go_wp2_with fail;go_returns;exact ⟨by rw [HF.out];rfl,HZ1.out,ns,ts,A,Ao,An,At,n,c,no,co,kn,cn,kt,ct,by unfold doS;rw [if_neg (by rw [HF.out];simp)];exact HS1.out⟩
   have HF:Hid (isD ws=true):=qH (by rw [HID.out];exact decide_eq_true hc);have hcI:((0:Int) != (nw:Int) - 1)=false:=by
    rw [bne_eq_false_iff_eq];omega
   have HRW:=qH (wT w0 W1 g d O ns ts A Ao An At n c no co kn cn kt ct HS1.out ws (some ⟨gb,0,none⟩) nw cw HAW.out HBG HNW hn1 HWZ HJZ ⟨#[]⟩ (by show 0≤4;omega) (by show 0 + 1≤nw;omega));unfold uw at HRW;have HBAD:=qH (fun h9=>vx (d:=d) HF.out (show yM ws (zV (zf ws 0)).data.toList 1=false by rw [HQ.out,uo];exact h9));have HRUN:=qH (fun h9=>vy (d:=d) HF.out (show yM ws (zV (zf ws 0)).data.toList 1=true by rw [HQ.out,uo];exact h9));rw [kr HQ.out] at HRUN;obtain ⟨bw,hbw⟩:=zN (yM ws (⟨#[]⟩:ByteArray).data.toList 1);rw [←hbw] at HRW HBAD HRUN;clear hbw;go_wp2_with fail;refine qR (HFM.out _) ?_;go_wp2_with fail;refine HRW.out.mono ?_;rintro e W2 ⟨rfl,hz2,ns2,ts2,An2,At2,kn2,cn2,kt2,ct2,hs2,hw2,ha2⟩;have HS2:=qH hs2;cases bw
   · have HE:=qH (HBAD.out rfl);have HRP:=qH (yI w0 W2 g d O ns2 ts2 A Ao An2 At2 n c no co kn2 cn2 kt2 ct2 HS2.out (by omega) 7);clear hs2 hw2 ha2 HRUN HBAD;go_wp2_with fail;refine HRP.out.mono ?_;rintro e W3 ⟨rfl,hz3,hr3⟩;go_wp2_with fail;go_returns;have hz1:=HZ1.out;obtain ⟨A9,Ao9,An9,At9,n9,c9,no9,co9,kn9,cn9,kt9,ct9,hr3⟩:=hr3;exact ⟨by rw [HF.out];rfl,by omega,ns2,ts2,A9,Ao9,An9,At9,n9,c9,no9,co9,kn9,cn9,kt9,ct9,by unfold doS;rw [if_pos HF.out,HE.out];exact hr3⟩
   obtain ⟨ens,ets⟩:=hw2 rfl;have HM:=qH (bA w0 W2 g d O ns2 ts2 A Ao An2 At2 n c no co kn2 cn2 kt2 ct2 HS2.out hno HD.out);have HR:=qH (HRUN.out rfl);have k2:W2.cell? ⟨gb,0,none⟩=some (.string ⟨#[108,97,115,116,115]⟩):=by
    have h9:=zW ha2 (wv (by rw [HNW.out];exact hn0));rw [HQ.out] at h9;exact h9
   clear hs2 hw2 ha2 HRUN HBAD ens ets k0';go_wp2_with fail;refine HM.out.mono ?_;rintro e W3 ⟨rfl,hz3,hr3⟩;go_wp2_with fail;go_returns;have hz1:=HZ1.out;obtain ⟨A9,Ao9,An9,At9,n9,c9,no9,co9,kn9,cn9,kt9,ct9,hr3⟩:=hr3;exact ⟨by rw [HF.out];rfl,by omega,ns2,ts2,A9,Ao9,An9,At9,n9,c9,no9,co9,kn9,cn9,kt9,ct9,by unfold doS;rw [if_pos HF.out,HR.out.1,HR.out.2];exact hr3⟩
 · have HFM2:=qH (show ∀ w,Calls Tryz.prog 97 #[.string ⟨#[108,111,103]⟩] w (RetQ (.string ⟨#[]⟩) w) from fun w=>by
    have h9:=HFM w;rw [hq,tT] at h9;exact h9)
   have k0':W1.cell? ⟨gb,0,none⟩=some (.string ⟨#[108,111,103]⟩):=by rw [hq] at k0;exact k0
   have HID:=qH (zbd hq);have HQ:=qH hq;have HFM:=HFM2;rw [HNW.out] at HID;clear k0 HFM2 hq;by_cases hc:1=nw
   case neg=>
    have hcI:((0:Int) != (nw:Int) - 1)=true:=by rw [bne_iff_ne];omega
    have HF:Hid (isD ws=false):=qH (by rw [HID.out];exact decide_eq_false hc);go_wp2_with fail;refine qR (HFM.out _) ?_;go_wp2_with fail;go_returns;exact ⟨by rw [HF.out];rfl,HZ1.out,ns,ts,A,Ao,An,At,n,c,no,co,kn,cn,kt,ct,by unfold doS;rw [if_neg (by rw [HF.out];simp)];exact HS1.out⟩
   have HF:Hid (isD ws=true):=qH (by rw [HID.out];exact decide_eq_true hc);have hcI:((0:Int) != (nw:Int) - 1)=false:=by
    rw [bne_eq_false_iff_eq];omega
   have HRW:=qH (wT w0 W1 g d O ns ts A Ao An At n c no co kn cn kt ct HS1.out ws (some ⟨gb,0,none⟩) nw cw HAW.out HBG HNW hn1 HWZ HJZ ⟨#[]⟩ (by show 0≤4;omega) (by show 0 + 1≤nw;omega));unfold uw at HRW;have HBAD:=qH (fun h9=>vx (d:=d) HF.out (show yM ws (zV (zf ws 0)).data.toList 1=false by rw [HQ.out,tT];exact h9));have HRUN:=qH (fun h9=>vy (d:=d) HF.out (show yM ws (zV (zf ws 0)).data.toList 1=true by rw [HQ.out,tT];exact h9));rw [fH HQ.out] at HRUN;obtain ⟨bw,hbw⟩:=zN (yM ws (⟨#[]⟩:ByteArray).data.toList 1);rw [←hbw] at HRW HBAD HRUN;clear hbw;go_wp2_with fail;refine qR (HFM.out _) ?_;go_wp2_with fail;refine HRW.out.mono ?_;rintro e W2 ⟨rfl,hz2,ns2,ts2,An2,At2,kn2,cn2,kt2,ct2,hs2,hw2,ha2⟩;have HS2:=qH hs2;cases bw
   · have HE:=qH (HBAD.out rfl);have HRP:=qH (yI w0 W2 g d O ns2 ts2 A Ao An2 At2 n c no co kn2 cn2 kt2 ct2 HS2.out (by omega) 7);clear hs2 hw2 ha2 HRUN HBAD;go_wp2_with fail;refine HRP.out.mono ?_;rintro e W3 ⟨rfl,hz3,hr3⟩;go_wp2_with fail;go_returns;have hz1:=HZ1.out;obtain ⟨A9,Ao9,An9,At9,n9,c9,no9,co9,kn9,cn9,kt9,ct9,hr3⟩:=hr3;exact ⟨by rw [HF.out];rfl,by omega,ns2,ts2,A9,Ao9,An9,At9,n9,c9,no9,co9,kn9,cn9,kt9,ct9,by unfold doS;rw [if_pos HF.out,HE.out];exact hr3⟩
   obtain ⟨ens,ets⟩:=hw2 rfl;have HM:=qH (zbG w0 W2 g d O ns2 ts2 A Ao An2 At2 n c no co kn2 cn2 kt2 ct2 HS2.out hno HD.out);have HR:=qH (HRUN.out rfl);have k2:W2.cell? ⟨gb,0,none⟩=some (.string ⟨#[108,111,103]⟩):=by
    have h9:=zW ha2 (wv (by rw [HNW.out];exact hn0));rw [HQ.out] at h9;exact h9
   clear hs2 hw2 ha2 HRUN HBAD ens ets k0';go_wp2_with fail;refine HM.out.mono ?_;rintro e W3 ⟨rfl,hz3,hr3⟩;go_wp2_with fail;go_returns;have hz1:=HZ1.out;obtain ⟨A9,Ao9,An9,At9,n9,c9,no9,co9,kn9,cn9,kt9,ct9,hr3⟩:=hr3;exact ⟨by rw [HF.out];rfl,by omega,ns2,ts2,A9,Ao9,An9,At9,n9,c9,no9,co9,kn9,cn9,kt9,ct9,by unfold doS;rw [if_pos HF.out,HR.out.1,HR.out.2];exact hr3⟩
 have HFM2:=qH (show ∀ w,Calls Tryz.prog 97 #[.string (zf ws 0)] w (RetQ (.string ⟨#[45]⟩) w) from fun w=>by
  have h9:=HFM w;rw [hq] at h9;exact h9)
 have HFM:=HFM2;clear HFM2 hq;have HF:Hid (isD ws=false):=qH (by unfold isD;rw [hq2,Bool.false_and]);go_wp2_with fail;refine qR (HFM.out _) ?_;go_wp2_with fail;go_returns;exact ⟨by rw [HF.out];rfl,HZ1.out,ns,ts,A,Ao,An,At,n,c,no,co,kn,cn,kt,ct,by unfold doS;rw [if_neg (by rw [HF.out];simp)];exact HS1.out⟩
end Go.Proofs.YtpiehlfffjhoaaaGreatDoor
