/- Lemmas for the law on the console: the parts LogI,StyG. -/
import Derived.Test.YtpiehlfffjhoaaaGreatDoorQ1
import Derived.Test.YtpiehlfffjhoaaaGreatDoorQ0
import Derived.Test.YtpiehlfffjhoaaaGreatDoorQ17
import Derived.Test.YtpiehlfffjhoaaaGreatDoorQ9
import Derived.Test.YtpiehlfffjhoaaaGreatDoorQ16
namespace Go.Proofs.YtpiehlfffjhoaaaGreatDoor
open Go.RowKit
set_option maxRecDepth 100000
set_option maxHeartbeats 8000000
def wJ (t:ByteArray) (es:List Entry):List Int:=(es.filter fun x=>x.what.toList == t.toList).map (·.value)
def uI (s t:ByteArray):List Int:=if cdW s t=0 then wJ t (rdL s).1 else []
theorem mA {s t:ByteArray} (h:cdW s t=0):uI s t=wJ t (rdL s).1:=by unfold uI;rw [if_pos h]
theorem oh {s t:ByteArray} (h:¬ cdW s t=0):uI s t=[]:=by unfold uI;rw [if_neg h]
theorem zax (t:ByteArray) (es:List Entry):(wJ t es).length≤es.length:=by
 unfold wJ;rw [List.length_map];exact List.length_filter_le _ _
theorem bQ {s t:ByteArray} (h:cdW s t=0):cdL s=0:=by
 unfold cdW at h;split at h
 · assumption
 · exact h
theorem lz {t:ByteArray} {es:List Entry} {k:Nat} {x:Entry} (h:es[k]?=some x):wJ t (es.take (k + 1))=wJ t (es.take k) ++ if (x.what.toList == t.toList)=true then [x.value] else []:=by
 rw [yD h];unfold wJ;rw [List.filter_append,List.map_append];cases hq:(x.what.toList == t.toList) <;> simp [hq]
theorem gj:(Tryz.prog.info? 2).map (fun i=>(i.zero,i.size,i.bytes))=some (some (.int .i64 0),1,8):=by kernel_rfl
theorem jC (s t:ByteArray) (hs:s.size≤1048576) (ht:t.size≤9223372036854775807) (w:World):Calls Tryz.prog 164 #[.string s,.string t] w (OutL 2 1 (uI s t).length (zd zp (uI s t)) (cdW s t) w):=by
 obtain ⟨i0,hi0,hz0,hz1,hz2⟩:=info_parts (P:=Tryz.prog) (e:=2) (z:=.int .i64 0) (size:=1) (bytes:=8) gj;go_enter Tryz.func164,Tryz.ntmps164;go_wp2_with fail;refine (ce s t hs ht _).mono ?_;rintro e W ⟨g,rfl,hg,hRS,hb⟩;by_cases h0:cdW s t=0
 case neg=>
  have HC:=qH (oh h0);have hne2:(cdW s t != 0)=true:=by rw [bne_iff_ne];exact h0
  clear hRS;generalize cdW s t=C at *;clear h0;go_wp2_with fail;go_returns;rw [HC.out];exact OutL.nil hb
 obtain ⟨hz,A,c,hB,hown,_⟩:=hRS h0;have hG:=vH s;have hfew:(rdL s).1.length≤4000:=Nat.le_trans (sN s) (wP hz);have HC:=qH (mA h0);have HZ:=qH h0;rw [h0];clear hRS h0 hz;have hent:=qH hG.ent;clear hG;generalize (rdL s).1=es at *;generalize (rdL s).2.1=st at *;generalize (rdL s).2.2=n at *;obtain ⟨m,hm0⟩:=zN es.length;rw [←hm0] at hB hown hfew;have hm:=qH hm0.symm;clear hm0;have hAr:=Arr.own hown;clear hown;go_wp2_with fail;have hR:=qH (show (wJ t (es.take 0)).length=0 from rfl)
 go_loopw [8,9] (fun ov i wr=>∃ (k r:Nat) (A':Option Addr) (c':Nat),k≤m∧r≤k∧i=.int .i64 k∧ov=.slice A' r c'∧Hid ((wJ t (es.take k)).length=r)∧wr.ownsRow W.heap.size 2 1 (.slice A' r c') r (zd zp (wJ t (es.take k)))∧Below W.heap.size W wr) (fun _ i _=>m - (intOf i).toNat)
 case atStart=>exact ⟨0,0,_,_,by omega,by omega,rfl,rfl,hR,zG W W.heap.size 2 1 (Nat.le_refl _),zc (Below.refl _ _) _⟩
 case round=>
  clear hR;obtain ⟨k,r,A',c',hk,hrk,rfl,rfl,hR,hownV,hv⟩:=hrel;have k3:wr.cell? ⟨g,3,none⟩=some (.slice A m c):=(hB.below hv).cell 3;by_cases hlt:k < m
  · obtain ⟨x,hx⟩:=zx (xs:=es) (k:=k) (by rw [hm.out];exact hlt);obtain ⟨ad,rfl,hab,c0,c1,c2⟩:=Entry.at_ (hAr.below hv) hx;obtain ⟨v0,v1,_,_,_⟩:=jY hent.out hx;have hj0:(0:Int)≤(k:Int):=by omega
    have hj1:(k:Int) < (m:Int):=by omega
    have hst:=lz (t:=t) hx;clear hx;have HO:=qH hownV;cases hq1:(x.what.toList == t.toList)
    · have HST:=qH (hst.trans (by rw [hq1];simp:_=wJ t (es.take k)));clear hst;go_wp2_with fail;exact ⟨⟨k + 1,r,A',c',by omega,by omega,by go_num,rfl,qH (by rw [HST.out];exact hR.out),by rw [HST.out];exact hownV,hv⟩,by simp [intOf];omega⟩
    · have HST:=qH (hst.trans (by rw [hq1];simp:_=wJ t (es.take k) ++ [x.value]));clear hst;go_wp2_with (at_builtin;refine qf _ _ rfl _ _ 58 2 rfl i0 _ 1 8 Tryz.underlying58 hi0 hz0 hz1 hz2 rfl (by omega) W.heap.size (.slice A' r c') r (zd zp (wJ t (es.take k))) rfl _ rfl rfl HO.out rfl (by simp [Value.oneCell']) (by unfold maxLen;omega) (by omega) hv.size ?_;intro A2 c2 w2 hown2 hg2)
      refine ⟨⟨k + 1,r + 1,A2,c2,by omega,by omega,by go_num,rfl,qH (by rw [HST.out,List.length_append,hR.out];rfl),by rw [HST.out,zX];exact hown2,zh hv hg2 (zl HO.out)⟩,by simp [intOf];omega⟩
  · have HV:=qH (show wJ t es=wJ t (es.take k) by rw [List.take_of_length_le (by rw [hm.out];omega)]);go_wp2_with fail;go_returns;exact OutL.mk (yT hownV hb.size) (by rw [HC.out,HV.out];exact hR.out.symm) (by rw [HC.out,HV.out]) (by first | rfl | exact HZ.out.symm) (za hb hv)
theorem fk (s t:ByteArray) (hs:s.size≤1048576) (ht:t.size≤9223372036854775807) (w:World) (hT:Tabs w):Calls Tryz.prog 86 #[.string s,.string t] w (OutL 2 1 (uI s t).length (zd zp (uI s t)) (cdW s t) w):=by
 obtain ⟨i0,hi0,hz0,hz1,hz2⟩:=info_parts (P:=Tryz.prog) (e:=2) (z:=.int .i64 0) (size:=1) (bytes:=8) gj;have HT:=qH hT;clear hT;go_enter Tryz.func86,Tryz.ntmps86;go_wp2_with fail;refine (py s hs _ HT.out).mono ?_;rintro e W ⟨A,c,m,es,st,n,rfl,hG,hm0,hown,hok,hno,hb0⟩;obtain ⟨WB,hWB⟩:=zN (W.alloc (Obj.cells #[.slice A m c,.int .i64 st,.int .i64 n] 146));have hb:Below w.heap.size w WB:=by rw [hWB];exact zc hb0 _
 have hAr:Arr WB A (zd Entry.cells es):=by rw [hWB];exact (Arr.own hown).alloc _
 have hX:Blk WB W.heap.size 146 #[.slice A m c,.int .i64 st,.int .i64 n]:=by rw [hWB];exact Blk.new _ _ _
 have HWB:=qH hWB;clear hWB hown hb0;by_cases h0:cdL s=0
 case neg=>
  have HW:=qH (eR (t:=t) h0);have HC:=qH (oh (s:=s) (t:=t) (by rw [HW.out];exact h0));have hne:(cdL s == 0)=false:=by rw [beq_eq_false_iff_ne];exact h0
  have hne2:(cdL s != 0)=true:=by rw [bne_iff_ne];exact h0
  clear hok hno hX hAr;generalize cdL s=C at *;clear h0;go_wp2_with fail;rw [←HWB.out];go_returns;rw [HC.out,HW.out];exact OutL.nil hb
 have HRD:=qH (hok h0);have hfew:m≤4000:=by rw [←hm0];have:=sN s;rw [HRD.out] at this;exact Nat.le_trans this (wP h0)
 have H0:=qH h0;rw [h0];have hent:=qH hG.ent;have hm:=qH hm0;clear hok hno h0 hG hm0;cases hn:zo t
 · have HW:=qH (kg (t:=t) H0.out hn);have HC:=qH (oh (s:=s) (t:=t) (by rw [HW.out];decide));go_wp2_with (go_at_call 118;refine (xD t ht _).mono ?_;rintro e w' ⟨rfl,hq⟩;rw [hq];clear hq w';rw [hn])
   rw [←HWB.out];go_returns;rw [HC.out,HW.out];exact OutL.nil hb
 have HW:=qH (kh (t:=t) H0.out hn);have HZ:=HW;have HC:=qH ((mA HW.out).trans (by rw [HRD.out]:_=wJ t es));go_wp2_with (go_at_call 118;refine (xD t ht _).mono ?_;rintro e w' ⟨rfl,hq⟩;rw [hq];clear hq w';rw [hn])
 rw [←HWB.out,show W.heap.size + 1=WB.heap.size from by rw [HWB.out,World.size_alloc]];clear hn;have hR:=qH (show (wJ t (es.take 0)).length=0 from rfl)
 go_loopw [8,30] (fun ov i wr=>∃ (k r:Nat) (A':Option Addr) (c':Nat),k≤m∧r≤k∧i=.int .i64 k∧ov=.slice A' r c'∧Hid ((wJ t (es.take k)).length=r)∧wr.ownsRow WB.heap.size 2 1 (.slice A' r c') r (zd zp (wJ t (es.take k)))∧Below WB.heap.size WB wr) (fun _ i _=>m - (intOf i).toNat)
 case atStart=>exact ⟨0,0,_,_,by omega,by omega,rfl,rfl,hR,zG WB WB.heap.size 2 1 (Nat.le_refl _),zc (Below.refl _ _) _⟩
 case round=>
  clear hR;obtain ⟨k,r,A',c',hk,hrk,rfl,rfl,hR,hownV,hv⟩:=hrel;by_cases hlt:k < m
  · obtain ⟨x,hx⟩:=zx (xs:=es) (k:=k) (by rw [hm.out];exact hlt);obtain ⟨ad,rfl,hab,c0,c1,c2⟩:=Entry.at_ (hAr.below hv) hx;obtain ⟨v0,v1,_,_,_⟩:=jY hent.out hx;have hj0:(0:Int)≤(k:Int):=by omega
    have hj1:(k:Int) < (m:Int):=by omega
    have hst:=lz (t:=t) hx;clear hx;have HO:=qH hownV;cases hq1:(x.what.toList == t.toList)
    · have HST:=qH (hst.trans (by rw [hq1];simp:_=wJ t (es.take k)));clear hst;go_wp2_with fail;exact ⟨⟨k + 1,r,A',c',by omega,by omega,by go_num,rfl,qH (by rw [HST.out];exact hR.out),by rw [HST.out];exact hownV.alloc _,zc hv _⟩,by simp [intOf];omega⟩
    · have HST:=qH (hst.trans (by rw [hq1];simp:_=wJ t (es.take k) ++ [x.value]));clear hst;go_wp2_with (at_builtin;refine qf _ _ rfl _ _ 58 2 rfl i0 _ 1 8 Tryz.underlying58 hi0 hz0 hz1 hz2 rfl (by omega) WB.heap.size (.slice A' r c') r (zd zp (wJ t (es.take k))) rfl _ (World.size_alloc _ _).symm rfl (HO.out.alloc _) rfl (by simp [Value.oneCell']) (by unfold maxLen;omega) (by omega) (Nat.le_trans hv.size (by simp)) ?_;intro A2 c2 w2 hown2 hg2)
      refine ⟨⟨k + 1,r + 1,A2,c2,by omega,by omega,by go_num,rfl,qH (by rw [HST.out,List.length_append,hR.out];rfl),by rw [HST.out,zX];exact hown2,zh (zc hv _) hg2 (zl HO.out)⟩,by simp [intOf];omega⟩
  · have HV:=qH (show wJ t es=wJ t (es.take k) by rw [List.take_of_length_le (by rw [hm.out];omega)]);go_wp2_with fail;go_returns;exact OutL.mk (yT hownV hb.size) (by rw [HC.out,HV.out];exact hR.out.symm) (by rw [HC.out,HV.out]) (by first | rfl | exact HZ.out.symm) (za hb hv)
def TroubleP.cells (t:TroubleP):List Value:=[.int .i64 t.clause,.int .i64 t.code]
theorem dF:(Tryz.prog.info? 235).map (fun i=>(i.zero,i.size,i.bytes))=some (some (.agg #[.int .i64 0,.int .i64 0]),2,16):=by kernel_rfl
theorem az:(Tryz.prog.info? 9).map (fun i=>(i.zero,i.size,i.bytes))=some (some (.string ByteArray.empty),1,16):=by kernel_rfl
def lL (s:ByteArray) (w:World) (e:Ending) (w':World):Prop:=∃ (A:Option Addr) (m c:Nat),e=.returned (.tuple #[.slice A m c,.bool (xG s)])∧(xG s=true→(zi 59 s).length=m∧Arr w' A (zd zn (zi 59 s)))∧Below w.heap.size w w'
theorem jE (s:ByteArray) (hs:s.size≤1048576) (w:World) (hT:Tabs w):Calls Tryz.prog 137 #[.string s] w (lL s w):=by
 by_cases h3:300 < s.size
 · have hk:xG s=false:=by unfold xG;rw [decide_eq_false (by omega),Bool.false_and]
   have HK:=qH hk;have h4:(300:Int) < (s.size:Int):=by omega
   have h5:decide ((300:Int) < (s.size:Int))=true:=decide_eq_true h4;clear hk hT;go_enter Tryz.func137,Tryz.ntmps137;go_wp2_with fail;go_returns;exact ⟨none,0,0,by rw [HK.out];rfl,(fun h=>by rw [HK.out] at h;cases h),Below.refl _ _⟩
 · have HSP:=sP 59 s (by omega) w hT;have hk:xG s=decide ((zi 59 s).length≤12):=by unfold xG;rw [decide_eq_true (by omega),Bool.true_and]
   have h4:¬ (300:Int) < (s.size:Int):=by omega
   have h5:decide ((300:Int) < (s.size:Int))=false:=decide_eq_false h4;obtain ⟨L,hL⟩:=zN (zi 59 s);obtain ⟨m,hm⟩:=zN L.length;rw [←hL] at HSP hk;rw [←hm] at HSP hk;replace HSP:=qH HSP;have HK:=qH hk;have HL:=qH hL.symm;have HM:=qH hm.symm;clear hk hT hL hm;go_enter Tryz.func137,Tryz.ntmps137;go_wp2_with fail;refine qS HSP.out fun W hq=>?_;have HB:Hid (Blk W w.heap.size 9 (L.map Value.string).toArray):=qH (by rw [hq];exact Blk.new _ _ _);have hv:Below w.heap.size w W:=by rw [hq];exact zc (Below.refl _ _) _
   clear hq;go_wp2_with fail;go_returns;refine ⟨some ⟨w.heap.size,0,none⟩,m,m,?_,fun _=>⟨by rw [HL.out];exact HM.out,?_⟩,hv⟩
   · rw [HK.out]
     congr 3
     simp;omega
   · rw [HL.out,yH];intro _;refine ⟨_,rfl,HB.out.lt,fun j u hu=>?_⟩;have hadd:(⟨w.heap.size,0,none⟩:Addr).add j=⟨w.heap.size,j,none⟩:=by unfold Addr.add;split <;> simp_all
     rw [hadd,HB.out.cell j];simpa using hu
theorem pA (g j c base:Nat) (L:List ByteArray) (x:ByteArray) (hj:Hid (L.length=j)) (hz:j≤1048576) (w:World) (HO:w.ownsRow base 9 1 (.slice (some ⟨g,0,none⟩) j c) j (zd zn L)) :
 Calls Tryz.prog 30 #[.slice (some ⟨g,0,none⟩) j c,.string x] w (RetQ (.bool (xa x L)) w):=by
 have he:Lib.containsS L x=xa x L:=by rw [Bool.eq_iff_iff,Lib.containsS_iff,memB_iff]
 by_cases h0:j=0
 · subst h0;have hl:L=[]:=List.eq_nil_of_length_eq_zero hj.out;subst hl;exact Tryz.slices_Contains_string_empty _ _ _ _
 · have h2:=Tryz.slices_Contains_string g 0 j c L x w (by rw [hj.out];exact Nat.le_refl _) (by omega) (by
    intro i hi;have h0:=HO.cellAt i (by rw [Nat.mul_one,←hj.out];exact hi);have h1:=qj (f:=zn) (s:=1) (fun _=>rfl) L i 0 L[i] (List.getElem?_eq_getElem hi) (by omega);rw [Nat.mul_one,Nat.add_zero] at h1;rw [Nat.zero_add,h0,h1,List.getD_eq_getElem?_getD,List.getElem?_eq_getElem hi];rfl)
   rw [List.take_of_length_le (by rw [hj.out];exact Nat.le_refl _),he] at h2;exact h2
def zce (cl:List ByteArray) (w:World) (e:Ending) (w':World):Prop:=∃ (g k c:Nat),e=.returned (.slice (some ⟨g,0,none⟩) k c)∧k=(tro cl).length∧Arr w' (some ⟨g,0,none⟩) (zd TroubleP.cells (tro cl))∧Below w.heap.size w w'
theorem nY {cl seen:List ByteArray} {j:Nat} {t:ByteArray} (h:cl[j]?=some t):xA (cl.drop j) seen j=(if ud t seen=0 then [] else [⟨j,ud t seen⟩]) ++ xA (cl.drop (j + 1)) (seen ++ [hdW t]) (j + 1):=by
 rw [yY h];rfl
theorem eD (A:Option Addr) (cl:List ByteArray) (m c:Nat) (hn:Hid (cl.length=m)) (hm:m≤1000) (hz:Hid (∀ t ∈ cl,t.size≤4194304)) (w:World) (hA:Arr w A (zd zn cl)) (hT:Tabs w) :
 Calls Tryz.prog 138 #[.slice A m c] w (zce cl w):=by
 obtain ⟨i1,hi1,hq0,hq1,hq2⟩:=info_parts (P:=Tryz.prog) (e:=235) (z:=.agg #[.int .i64 0,.int .i64 0]) (size:=2) (bytes:=16) dF;obtain ⟨i0,hi0,hz0,hz1,hz2⟩:=info_parts (P:=Tryz.prog) (e:=9) (z:=.string ByteArray.empty) (size:=1) (bytes:=16) az;have HA:=qH hA;have HT:=qH hT;clear hA hT;go_enter Tryz.func138,Tryz.ntmps138;go_wp2_with fail;have HO1:=qH ((zG w w.heap.size 235 2 (Nat.le_refl _)).alloc (.cells #[] 9));have HO2:Hid (World.ownsRow ((w.alloc (.cells #[] 235)).alloc (.cells #[] 9)) w.heap.size 9 1 (.slice (some ⟨w.heap.size + 1,0,none⟩) 0 0) 0 []):=qH (by
  have h:=zG (w.alloc (.cells #[] 235)) w.heap.size 9 1 (by rw [World.size_alloc];omega);rw [World.size_alloc] at h;exact h)
 have hv:=zc (zc (Below.refl w.heap.size w) (.cells #[] 235)) (.cells #[] 9);have HG:=qH (show xA cl [] 0=[] ++ xA (cl.drop 0) ((cl.take 0).map hdW) 0 from rfl)
 go_loopw [3,4,13] (fun ov v i wr=>∃ (j k g1 c1 g2 c2:Nat) (ou:List TroubleP),j≤m∧i=.int .i64 j∧ov=.slice (some ⟨g1,0,none⟩) k c1∧v=.slice (some ⟨g2,0,none⟩) j c2∧g1≠g2∧k≤j∧Hid (ou.length=k)∧Hid (wr.ownsRow w.heap.size 235 2 (.slice (some ⟨g1,0,none⟩) k c1) k (zd TroubleP.cells ou))∧Hid (wr.ownsRow w.heap.size 9 1 (.slice (some ⟨g2,0,none⟩) j c2) j (zd zn ((cl.take j).map hdW)))∧Hid (xA cl [] 0=ou ++ xA (cl.drop j) ((cl.take j).map hdW) j)∧Below w.heap.size w wr) (fun _ _ i _=>m - (intOf i).toNat)
 case atStart=>exact ⟨0,0,w.heap.size,0,w.heap.size + 1,0,[],by omega,rfl,rfl,by first | rfl | simp,by omega,by omega,qH rfl,HO1,HO2,HG,hv⟩
 case round=>
 clear HO1 HO2 HG hv;obtain ⟨j,k,g1,c1,g2,c2,ou,hj,rfl,rfl,rfl,hne,hkj,HU,HO1,HO2,HG,hv⟩:=hrel;have hj0:(0:Int)≤(j:Int):=by omega
 by_cases hlt:j < m
 case neg=>
  have hjm:j=m:=by omega
  subst hjm;have hj1:¬ (j:Int) < (j:Int):=by omega
  have htk:cl.take j=cl:=List.take_of_length_le (by rw [hn.out];exact Nat.le_refl _);rw [htk] at HO2;have HOU:=qH (show xA cl [] 0=ou by
   have h:=HG.out;rw [List.drop_eq_nil_of_le (by rw [hn.out];exact Nat.le_refl _)] at h;simpa [xA] using h)
  obtain ⟨SE,hSE⟩:=zN (cl.map hdW);have hln:SE.length=j:=by rw [hSE,List.length_map];exact hn.out
  rw [←hSE] at HO2;have HTR:=qH (show tro cl=ou ++ (if xa wUpper SE=true∧xa wSole SE=true then [] else [⟨(j:Int),6⟩]) by
   unfold tro nE;rw [HOU.out,←hSE,hn.out])
  have M1:=pA g2 j c2 w.heap.size SE wUpper (qH hln) (by omega) wr HO2.out;have M2:=pA g2 j c2 w.heap.size SE wSole (qH hln) (by omega) wr HO2.out;obtain ⟨b1,e1⟩:=zN (xa wUpper SE);obtain ⟨b2,e2⟩:=zN (xa wSole SE);rw [←e1,←e2] at HTR;rw [←e1] at M1;rw [←e2] at M2;unfold wUpper at M1;unfold wSole at M2;replace M1:=qH M1;replace M2:=qH M2;clear hSE hln e1 e2 HG htk HOU HO2;cases b1
  · skip
    go_wp2_with fail;refine qS M1.out fun w9 hq9=>?_;rw [hq9];clear hq9 w9;go_wp2_with (at_builtin;refine yq wr #[.int .i64 j,.int .i64 6] rfl _ _ 191 235 rfl i1 _ 2 16 Tryz.underlying191 hi1 hq0 hq1 hq2 rfl (by omega) w.heap.size (some ⟨g1,0,none⟩) k c1 _ rfl _ rfl rfl HO1.out rfl (by simp [Value.oneCell']) (by unfold maxLen;omega) (by omega) hv.size ?_;intro g3 c3 W3 hown3 hg3 hf3)
    go_returns;exact ⟨g3,k + 1,c3,rfl,by rw [HTR.out,List.length_append,HU.out];rfl,by rw [HTR.out,zX];exact Arr.own hown3,zh hv hg3 (fun k e=>by simp at e;have:=zl HO1.out g1 rfl;omega)⟩
  · cases b2
    · skip
      go_wp2_with fail;refine qS M1.out fun w9 hq9=>?_;rw [hq9];clear hq9 w9;go_wp2_with fail;refine qS M2.out fun w9 hq9=>?_;rw [hq9];clear hq9 w9;go_wp2_with (at_builtin;refine yq wr #[.int .i64 j,.int .i64 6] rfl _ _ 191 235 rfl i1 _ 2 16 Tryz.underlying191 hi1 hq0 hq1 hq2 rfl (by omega) w.heap.size (some ⟨g1,0,none⟩) k c1 _ rfl _ rfl rfl HO1.out rfl (by simp [Value.oneCell']) (by unfold maxLen;omega) (by omega) hv.size ?_;intro g3 c3 W3 hown3 hg3 hf3)
      go_returns;exact ⟨g3,k + 1,c3,rfl,by rw [HTR.out,List.length_append,HU.out];rfl,by rw [HTR.out,zX];exact Arr.own hown3,zh hv hg3 (fun k e=>by simp at e;have:=zl HO1.out g1 rfl;omega)⟩
    · skip
      go_wp2_with fail;refine qS M1.out fun w9 hq9=>?_;rw [hq9];clear hq9 w9;go_wp2_with fail;refine qS M2.out fun w9 hq9=>?_;rw [hq9];clear hq9 w9;go_wp2_with fail;go_returns;exact ⟨g1,k,c1,rfl,by rw [HTR.out,List.length_append,HU.out];rfl,by rw [HTR.out];simpa using Arr.own HO1.out,hv⟩
 case pos=>
 have hj1:(j:Int) < (m:Int):=by omega
 obtain ⟨t,ht⟩:=zx (xs:=cl) (k:=j) (by rw [hn.out];exact hlt);obtain ⟨ad,rfl,_,c0⟩:=zj (HA.out.below hv) ht;have hts:=hz.out t (List.mem_of_getElem? ht);have HCP:=qH (fun w h=>ro t hts w h);have HCW:=fun w h=>pj t hts w h;have hg2:=HG.out.trans (by rw [nY ht]);have hcd:ud t ((cl.take j).map hdW)=if zE (zO t)=0∧xa (hdW t) ((cl.take j).map hdW)=true then 5 else zE (zO t):=rfl
 have htk:(cl.take (j + 1)).map hdW=(cl.take j).map hdW ++ [hdW t]:=by rw [yD ht,List.map_append];rfl
 rw [←htk] at hg2;have hbd:=gP (zO t);have hln:((cl.take j).map hdW).length=j:=by rw [List.length_map,List.length_take,hn.out];omega
 obtain ⟨P,hP⟩:=zN (zE (zO t));obtain ⟨hd,hh⟩:=zN (hdW t);obtain ⟨SE,hSE⟩:=zN ((cl.take j).map hdW);obtain ⟨SN,hSN⟩:=zN ((cl.take (j + 1)).map hdW);obtain ⟨CT,hCT⟩:=zN (ud t SE);rw [←hP] at HCP hcd hbd;rw [←hh] at HCW hcd htk;rw [←hSE] at HO2 hcd htk hln hg2;rw [←hSN] at htk hg2;rw [←hCT] at hcd hg2;replace HCW:=qH HCW;have HG2:=qH hg2;have HCD:=qH hcd;have HTK:=qH htk;have HLN:=qH hln;have HSN:=qH hSN.symm;clear ht hts hg2 hcd htk hP hh hSE hSN hCT hln HG;go_wp2_with fail;refine qS (HCP.out _ (HT.out.below hv)) fun W1 hb=>?_;clear c0 HCP;replace HO1:=qH (ze HO1.out hb);replace HO2:=qH (ze HO2.out hb);replace hv:=za hv hb;clear hb;go_wp2_with fail;refine qS (HCW.out _ (HT.out.below hv)) fun W2 hb=>?_;clear HCW;replace HO1:=qH (ze HO1.out hb);replace HO2:=qH (ze HO2.out hb);replace hv:=za hv hb;clear hb;by_cases hP0:P=0
 · subst hP0;have HMB:=pA g2 j c2 w.heap.size SE hd HLN (by omega) W2 HO2.out;obtain ⟨mb,hmb⟩:=zN (xa hd SE);rw [←hmb] at HMB;have HCD2:=qH (HCD.out.trans (by rw [←hmb]));replace HMB:=qH HMB;clear hmb HCD hbd;cases mb
   · have HG3:=qH (HG2.out.trans (by rw [HCD2.out];simp:_=ou ++ xA (cl.drop (j + 1)) SN (j + 1)));clear HG2 HCD2;go_wp2_with fail;refine qS HMB.out fun w9 hq9=>?_;rw [hq9];clear HMB hq9 w9;go_wp2_with (at_builtin;refine yq W2 #[.string hd] rfl _ _ 24 9 rfl i0 _ 1 16 Tryz.underlying24 hi0 hz0 hz1 hz2 rfl (by omega) w.heap.size (some ⟨g2,0,none⟩) j c2 _ rfl _ rfl rfl HO2.out rfl (by simp [Value.oneCell']) (by unfold maxLen;omega) (by omega) hv.size ?_;intro g4 c4 W4 hown4 hg4 hf4)
     have hl3:=yw HO1.out g1 rfl;have hne4:g1≠g4:=by
      rcases hf4 with e | e
      · simp only [Option.some.injEq,Addr.mk.injEq,and_true] at e;omega
      · omega
     have HO1':=HO1.out.kept hg4 (.inr (fun e=>by simp [Value.ownBlock] at e;omega));have hv4:=zh hv hg4 (fun k e=>by simp at e;have:=zl HO2.out g2 rfl;omega);exact ⟨⟨j + 1,k,g1,c1,g4,c4,ou,by omega,by go_num,rfl,rfl,hne4,by omega,HU,qH HO1',qH (by rw [HSN.out,HTK.out,zX,wb];exact hown4),qH (by rw [HSN.out];exact HG3.out),hv4⟩,by simp [intOf];omega⟩
   · have HG3:=qH (HG2.out.trans (by rw [HCD2.out];simp:_=ou ++ ([(⟨j,5⟩:TroubleP)] ++ xA (cl.drop (j + 1)) SN (j + 1))));clear HG2 HCD2;go_wp2_with fail;refine qS HMB.out fun w9 hq9=>?_;rw [hq9];clear HMB hq9 w9;go_wp2_with (at_builtin;first | (refine yq W2 #[.int .i64 j,.int .i64 5] rfl _ _ 191 235 rfl i1 _ 2 16 Tryz.underlying191 hi1 hq0 hq1 hq2 rfl (by omega) w.heap.size (some ⟨g1,0,none⟩) k c1 _ rfl _ rfl rfl HO1.out rfl (by simp [Value.oneCell']) (by unfold maxLen;omega) (by omega) hv.size ?_;intro g3 c3 W3 hown3 hg3 hf3;have hl2:=yw HO2.out g2 rfl;have HO2':=HO2.out.kept hg3 (.inr (fun e=>by simp [Value.ownBlock] at e;omega));have hne3:g3≠g2:=(by rcases hf3 with e | e;(simp only [Option.some.injEq,Addr.mk.injEq,and_true] at e;omega);omega);have hv3:=zh hv hg3 (fun k e=>by simp at e;have:=zl HO1.out g1 rfl;omega)) | (refine yq W3 #[.string hd] rfl _ _ 24 9 rfl i0 _ 1 16 Tryz.underlying24 hi0 hz0 hz1 hz2 rfl (by omega) w.heap.size (some ⟨g2,0,none⟩) j c2 _ rfl _ rfl rfl HO2' rfl (by simp [Value.oneCell']) (by unfold maxLen;omega) (by omega) hv3.size ?_;intro g4 c4 W4 hown4 hg4 hf4))
     have hl3:=yw hown3 g3 rfl;have hne4:g3≠g4:=by
      rcases hf4 with e | e
      · simp only [Option.some.injEq,Addr.mk.injEq,and_true] at e;omega
      · omega
     have HO1':=hown3.kept hg4 (.inr (fun e=>by simp [Value.ownBlock] at e;omega));have hv4:=zh hv3 hg4 (fun k e=>by simp at e;have:=zl HO2' g2 rfl;omega);exact ⟨⟨j + 1,k + 1,g3,c3,g4,c4,ou ++ [⟨j,5⟩],by omega,by go_num,rfl,rfl,hne4,by omega,qH (by rw [List.length_append,HU.out];rfl),qH (by rw [zX,wb];exact HO1'),qH (by rw [HSN.out,HTK.out,zX,wb];exact hown4),qH (by rw [HSN.out,HG3.out,List.append_assoc]),hv4⟩,by simp [intOf];omega⟩
 · have hq:(P == 0)=false:=by rw [beq_eq_false_iff_ne];exact hP0
   have hqne:(P != 0)=true:=by rw [bne_iff_ne];exact hP0
   have hCT:CT=P:=HCD.out.trans (if_neg (fun h=>hP0 h.1));have HG3:=qH (HG2.out.trans (by rw [hCT,if_neg hP0]:_=ou ++ ([(⟨j,P⟩:TroubleP)] ++ xA (cl.drop (j + 1)) SN (j + 1))));clear HG2 HCD hP0 hCT;go_wp2_with (at_builtin;first | (refine yq W2 #[.int .i64 j,.int .i64 P] rfl _ _ 191 235 rfl i1 _ 2 16 Tryz.underlying191 hi1 hq0 hq1 hq2 rfl (by omega) w.heap.size (some ⟨g1,0,none⟩) k c1 _ rfl _ rfl rfl HO1.out rfl (by simp [Value.oneCell']) (by unfold maxLen;omega) (by omega) hv.size ?_;intro g3 c3 W3 hown3 hg3 hf3;have hl2:=yw HO2.out g2 rfl;have HO2':=HO2.out.kept hg3 (.inr (fun e=>by simp [Value.ownBlock] at e;omega));have hne3:g3≠g2:=(by rcases hf3 with e | e;(simp only [Option.some.injEq,Addr.mk.injEq,and_true] at e;omega);omega);have hv3:=zh hv hg3 (fun k e=>by simp at e;have:=zl HO1.out g1 rfl;omega)) | (refine yq W3 #[.string hd] rfl _ _ 24 9 rfl i0 _ 1 16 Tryz.underlying24 hi0 hz0 hz1 hz2 rfl (by omega) w.heap.size (some ⟨g2,0,none⟩) j c2 _ rfl _ rfl rfl HO2' rfl (by simp [Value.oneCell']) (by unfold maxLen;omega) (by omega) hv3.size ?_;intro g4 c4 W4 hown4 hg4 hf4))
   have hl3:=yw hown3 g3 rfl;have hne4:g3≠g4:=by
    rcases hf4 with e | e
    · simp only [Option.some.injEq,Addr.mk.injEq,and_true] at e;omega
    · omega
   have HO1':=hown3.kept hg4 (.inr (fun e=>by simp [Value.ownBlock] at e;omega));have hv4:=zh hv3 hg4 (fun k e=>by simp at e;have:=zl HO2' g2 rfl;omega);exact ⟨⟨j + 1,k + 1,g3,c3,g4,c4,ou ++ [⟨j,P⟩],by omega,by go_num,rfl,rfl,hne4,by omega,qH (by rw [List.length_append,HU.out];rfl),qH (by rw [zX,wb];exact HO1'),qH (by rw [HSN.out,HTK.out,zX,wb];exact hown4),qH (by rw [HSN.out,HG3.out,List.append_assoc]),hv4⟩,by simp [intOf];omega⟩
end Go.Proofs.YtpiehlfffjhoaaaGreatDoor
