/- Lemmas for the law on the console: the parts DkT,CnP. -/
import Derived.Test.YtpiehlfffjhoaaaGreatDoorQ1
import Derived.Test.YtpiehlfffjhoaaaGreatDoorQ0
import Derived.Test.YtpiehlfffjhoaaaGreatDoorQ11
import Derived.Laws.Concat
import Derived.Test.YtpiehlfffjhoaaaGreatDoorQ2
import Derived.Test.YtpiehlfffjhoaaaGreatDoorQ7
import Derived.Test.YtpiehlfffjhoaaaGreatDoorQ5
import Derived.Test.YtpiehlfffjhoaaaGreatDoorQ4
namespace Go.Proofs.YtpiehlfffjhoaaaGreatDoor
open Go.RowKit
set_option maxRecDepth 100000
set_option maxHeartbeats 8000000
def yA (sep:ByteArray) (L:List ByteArray):ByteArray:=⟨(Lib.join (L.map (·.data.toList)) sep.data.toList).toArray⟩
theorem qr (sep:ByteArray) (hs:sep.size≤4) (L:List ByteArray) (h:∀ y ∈ L,y.size≤21):(Lib.join (L.map (·.data.toList)) sep.data.toList).length≤25 * L.length:=by
 cases L with
 | nil=>simp [Lib.join_nil]
 | cons x r=>
   have es:sep.data.toList.length=sep.size:=zv sep;rw [List.map_cons,Lib.join_cons,List.length_append];have key:∀ r:List ByteArray,(∀ y ∈ r,y.size≤21)→(Lib.joinTail sep.data.toList (r.map (·.data.toList))).length≤25 * r.length:=by
    intro r
    induction r with
    | nil=>intro _;simp [Lib.joinTail]
    | cons y t ih=>
      intro hr;have h1:=ih (fun z hz=>hr z (by simp [hz]));have h2:=hr y (by simp);have e:y.data.toList.length=y.size:=zv y;simp only [Lib.joinTail,List.map_cons,List.flatten_cons,List.length_append,List.length_cons] at h1 ⊢;omega
   have h1:=key r (fun y hy=>h y (by simp [hy]));have h2:=h x (by simp);have e:x.data.toList.length=x.size:=zv x;rw [List.length_cons];omega
theorem vq:(Tryz.prog.info? 9).map (fun i=>(i.zero,i.size,i.bytes))=some (some (.string ByteArray.empty),1,16):=by kernel_rfl
def xL (ps:List Int):List ByteArray:=ps.map zm
theorem za1 {ps:List Int} {j:Nat} {k:Int} (h:ps[j]?=some k):(xL ps)[j]?=some (zm k):=by unfold xL;rw [List.getElem?_map,h];rfl
theorem su (sp:ByteArray) (hsp:sp.size≤4) (B:Option Addr) (ps:List Int) (m d:Nat) (hp:Hid (ps.length=m)) (hm0:0 < m) (hm':m≤1000) (hb:Hid (∀ k ∈ ps,-1000000000≤k∧k≤1000000000)) (w:World) (hB:Arr w B (zd zp ps)) (hT:Tabs w) :
 Calls Tryz.prog 77 #[.string sp,.slice B m d] w (Ret (.string (yA sp (xL ps))) w):=by
 obtain ⟨i0,hi0',hz0,hz1,hz2⟩:=info_parts (P:=Tryz.prog) (e:=9) (z:=.string ByteArray.empty) (size:=1) (bytes:=16) vq;have HT:=qH hT;have HBB:=qH hB;have HNL:=qH (show (xL ps).length=m by unfold xL;rw [List.length_map];exact hp.out);have HSZ:=qH (show ∀ y ∈ xL ps,y.size≤21 by
  intro y hy;unfold xL at hy;obtain ⟨k,hk,rfl⟩:=List.mem_map.1 hy;have:=hb.out k hk;exact xd (by omega) (by omega))
 clear hT hB;go_enter Tryz.func77,Tryz.ntmps77;go_wp2_with fail;have hO0:=zG w w.heap.size 9 1 (Nat.le_refl _);have hv1:=zc (Below.refl w.heap.size w) (.cells #[] 9)
 go_loopw [5,11] (fun v i wr=>∃ (j:Nat) (A':Option Addr) (c':Nat),i=.int .i64 j∧v=.slice A' j c'∧j≤m∧Hid (wr.ownsRow w.heap.size 9 1 (.slice A' j c') j (zd zn ((xL ps).take j)))∧Below w.heap.size w wr) (fun _ i _=>m - (intOf i).toNat)
 case atStart=>exact ⟨0,_,_,rfl,rfl,by omega,qH hO0,hv1⟩
 case round=>
  clear hO0 hv1;obtain ⟨j,A',c',rfl,rfl,hj,HO,hv⟩:=hrel;have hi0:(0:Int)≤(j:Int):=by omega
  by_cases hlt:j < m
  · obtain ⟨k,hkj⟩:=zx (xs:=ps) (k:=j) (by rw [hp.out];exact hlt);obtain ⟨bd,hbd,hbb,d0⟩:=yn (HBB.out.below hv) hkj;subst hbd;obtain ⟨hk0,hk1⟩:=hb.out k (List.mem_of_getElem? hkj);have HNM:=qH (za1 hkj);have HDC:=fun w h=>xo k (by omega) (by omega) w h;obtain ⟨t,ht⟩:=zN (zm k);rw [←ht] at HDC HNM;replace HDC:=qH HDC;have hi1:(j:Int) < (m:Int):=by omega
    clear hkj ht;go_wp2_with fail;refine qS (HDC.out _ (HT.out.pow.below hv)) fun W2 hb9=>?_;replace hv:=za hv hb9;replace HO:=qH (ze HO.out hb9);clear hb9 HDC d0;go_wp2_with (at_builtin;refine xp W2 #[.string t] rfl _ _ 24 9 rfl i0 _ 1 16 Tryz.underlying24 hi0' hz0 hz1 hz2 rfl (by omega) w.heap.size (.slice A' j c') j _ rfl rfl HO.out rfl (by simp [Value.oneCell']) (by unfold maxLen;omega) (by omega) hv.size ?_;intro A2 c2 w2 hown2 hg3)
    have hr:=zl HO.out;have e9:zd zn ((xL ps).take (j + 1))=zd zn ((xL ps).take j) ++ #[Value.string t].toList:=by rw [yD HNM.out];simp [zd,zn]
    exact ⟨⟨j + 1,A2,c2,by go_num,rfl,by omega,qH (by rw [e9];exact hown2),zh hv hg3 hr⟩,by simp [intOf];omega⟩
  · have hjm:j=m:=by omega
    subst hjm;have hi1:¬ (j:Int) < (j:Int):=by omega
    obtain ⟨gO,rfl⟩:=xj HO.out hm0;have hgl:=yw HO.out gO rfl;have htk:(xL ps).take j=xL ps:=List.take_of_length_le (by rw [HNL.out];exact Nat.le_refl _);rw [htk] at HO;have hcap:j≤c':=by obtain ⟨_,_,e,h,_⟩:=xT HO.out;injection e with _ _ e3;omega
    have hjn:=Tryz.strings_Join gO 0 c' (xL ps) sp wr (fun i y hy=>by
     have hi:i < (xL ps).length:=(List.getElem?_eq_some_iff.1 hy).1;have h0:=HO.out.cellAt i (by rw [Nat.mul_one,←HNL.out];exact hi);rw [Nat.zero_add,h0];have:=qj (f:=zn) (s:=1) (fun _=>rfl) (xL ps) i 0 y hy (by omega);rw [Nat.mul_one,Nat.add_zero] at this;exact this) hgl (by rw [HNL.out];omega) (by rw [HNL.out];exact hcap) (by have:=qr sp hsp _ HSZ.out;rw [HNL.out] at this;exact Nat.le_trans this (by omega))
    rw [HNL.out] at hjn;have HJ:=qH hjn;clear hjn htk;go_wp2_with fail;refine qS HJ.out fun W3 hb3=>?_;go_wp2_with fail;go_returns;exact Ret.mk rfl (za hv hb3)
def yZ (f:Foot):ByteArray:=(((((zm f.length ++ ⟨#[47]⟩) ++ zm f.b) ++ ⟨#[47]⟩) ++ zm f.i) ++ ⟨#[47]⟩) ++ zm f.h
theorem dx (f:Foot):yA ⟨#[47]⟩ (xL [f.length,f.b,f.i,f.h])=yZ f:=by
 apply ByteArray.ext;apply Array.ext';unfold yA yZ xL;simp only [List.map_cons,List.map_nil,Lib.join_cons,Lib.joinTail,rl,List.flatten_cons,List.flatten_nil];simp
theorem wE {f:Foot} (h:yo f=true):(500≤f.length∧f.length≤5000)∧(500≤f.b∧f.b≤5000)∧(500≤f.i∧f.i≤5000)∧(500≤f.h∧f.h≤5000):=by
 unfold yo at h;simp only [Bool.and_eq_true,inB_iff] at h;exact ⟨h.1.1.1,h.1.1.2,h.1.2,h.2⟩
theorem vD {f:Foot} (h:yo f=true):(yZ f).size≤87:=by
 obtain ⟨h1,h2,h3,h4⟩:=wE h;have e1:=xd (v:=f.length) (by omega) (by omega);have e2:=xd (v:=f.b) (by omega) (by omega);have e3:=xd (v:=f.i) (by omega) (by omega);have e4:=xd (v:=f.h) (by omega) (by omega);have l:(⟨#[47]⟩:ByteArray).size=1:=rfl;unfold yZ;simp only [zu];omega
theorem rY (f:Foot) (hf:Hid (yo f=true)) (w:World) (hT:Tabs w):Calls Tryz.prog 37 #[.agg #[.int .i64 f.length,.int .i64 f.b,.int .i64 f.i,.int .i64 f.h]] w (Ret (.string (yZ f)) w):=by
 have HT:=qH hT;clear hT;have HV:=fun w=>uk f w;rw [hf.out] at HV;replace HV:=qH HV;have HNT:=qH (fun g w h t=>su ⟨#[47]⟩ (by decide) (some ⟨g,0,none⟩) [f.length,f.b,f.i,f.h] 4 4 (qH rfl) (by omega) (by omega) (qH (by
  obtain ⟨h1,h2,h3,h4⟩:=wE hf.out;intro k hk;simp only [List.mem_cons,List.not_mem_nil,or_false] at hk;rcases hk with rfl | rfl | rfl | rfl <;> omega)) w h t)
 have HJ:=qH (dx f);obtain ⟨W,hW⟩:=zN (w.alloc (Obj.cells (cF f) 27));obtain ⟨g,hg⟩:=zN w.heap.size;have hv:Below w.heap.size w W:=by rw [hW];exact zc (Below.refl _ _) _
 have hB:Hid (Blk W g 27 (cF f)):=qH (by rw [hW,hg];exact Blk.new _ _ _);have HW:=qH hW;have HG:=qH hg;clear hW hg;obtain ⟨k0,k1,k2,k3⟩:=qC4 hB.out;go_enter Tryz.func37,Tryz.ntmps37;go_upto_region 1 with fail;rw [←HW.out,←HG.out];clear HW HG;go_wp2_with fail;refine qS (HV.out _) fun W1 hb=>?_;replace hv:=za hv hb;replace hB:=qH (hB.out.below hb);clear hb HV;clear k0 k1 k2 k3;obtain ⟨k0,k1,k2,k3⟩:=qC4 hB.out;go_wp2_with fail;refine (sF f _).mono ?_;rintro e W2 ⟨gm,rfl,hM,hb⟩;replace hv:=za hv hb;clear hb;go_wp2_with fail;refine qS (HNT.out gm _ (vR hM) (HT.out.below hv)) fun W3 hb=>?_;replace hv:=za hv hb;go_wp2_with fail;go_returns;exact Ret.mk (vs HJ.out) hv
theorem pq (f:Foot) (hf:Hid (yo f=true)) (w:World):Calls Tryz.prog 169 #[.agg #[.int .i64 f.length,.int .i64 f.b,.int .i64 f.i,.int .i64 f.h]] w (Ret (.string (yZ f)) w):=by
 obtain ⟨h1,h2,h3,h4⟩:=wE hf.out;have hP:yZ f=(((((zm f.length ++ ⟨#[47]⟩) ++ zm f.b) ++ ⟨#[47]⟩) ++ zm f.i) ++ ⟨#[47]⟩) ++ zm f.h:=rfl;have l:(⟨#[47]⟩:ByteArray).size=1:=rfl;have D1:=fun w=>xf f.length (by omega) (by omega) w;have y1:=xd (v:=f.length) (by omega) (by omega);obtain ⟨d1,e1⟩:=zN (zm f.length);rw [←e1] at D1 y1 hP;replace D1:=qH D1;clear e1;have D2:=fun w=>xf f.b (by omega) (by omega) w;have y2:=xd (v:=f.b) (by omega) (by omega);obtain ⟨d2,e2⟩:=zN (zm f.b);rw [←e2] at D2 y2 hP;replace D2:=qH D2;clear e2;have D3:=fun w=>xf f.i (by omega) (by omega) w;have y3:=xd (v:=f.i) (by omega) (by omega);obtain ⟨d3,e3⟩:=zN (zm f.i);rw [←e3] at D3 y3 hP;replace D3:=qH D3;clear e3;have D4:=fun w=>xf f.h (by omega) (by omega) w;have y4:=xd (v:=f.h) (by omega) (by omega);obtain ⟨d4,e4⟩:=zN (zm f.h);rw [←e4] at D4 y4 hP;replace D4:=qH D4;clear e4;have HP:=qH hP;clear hP h1 h2 h3 h4 hf;have a0:=fun (w:World)=>run_string_add_sum (P:=Tryz.prog) w d1 (⟨#[47]⟩:ByteArray) (by (try simp only [zu]);omega);have a1:=fun (w:World)=>run_string_add_sum (P:=Tryz.prog) w (d1 ++ (⟨#[47]⟩:ByteArray)) d2 (by (try simp only [zu]);omega);have a2:=fun (w:World)=>run_string_add_sum (P:=Tryz.prog) w ((d1 ++ (⟨#[47]⟩:ByteArray)) ++ d2) (⟨#[47]⟩:ByteArray) (by (try simp only [zu]);omega);have a3:=fun (w:World)=>run_string_add_sum (P:=Tryz.prog) w (((d1 ++ (⟨#[47]⟩:ByteArray)) ++ d2) ++ (⟨#[47]⟩:ByteArray)) d3 (by (try simp only [zu]);omega);have a4:=fun (w:World)=>run_string_add_sum (P:=Tryz.prog) w ((((d1 ++ (⟨#[47]⟩:ByteArray)) ++ d2) ++ (⟨#[47]⟩:ByteArray)) ++ d3) (⟨#[47]⟩:ByteArray) (by (try simp only [zu]);omega);have a5:=fun (w:World)=>run_string_add_sum (P:=Tryz.prog) w (((((d1 ++ (⟨#[47]⟩:ByteArray)) ++ d2) ++ (⟨#[47]⟩:ByteArray)) ++ d3) ++ (⟨#[47]⟩:ByteArray)) d4 (by (try simp only [zu]);omega);obtain ⟨W,hW⟩:=zN (w.alloc (Obj.cells (cF f) 27));obtain ⟨g,hg⟩:=zN w.heap.size;have hv:Below w.heap.size w W:=by rw [hW];exact zc (Below.refl _ _) _
 have hB:Blk W g 27 (cF f):=by rw [hW,hg];exact Blk.new _ _ _
 have HW:=qH hW;have HG:=qH hg;clear hW hg;obtain ⟨k0,k1,k2,k3⟩:=qC4 hB;clear hB;go_enter Tryz.func169,Tryz.ntmps169;go_upto_region 1 with fail;rw [←HW.out,←HG.out];clear HW HG y1 y2 y3 y4 l;refine zH (fun w'=>Below W.heap.size W w'∧True) ?_ (fun hHeld=>?_)
 · exact ⟨(Below.refl _ _).drew,trivial⟩
 have hd9:=hHeld.1;refine zU 0 3 ?_;refine zT 1 4 rfl (fun w hSw=>by
  have x_k0:=zb hSw.1 k0;go_simp;try with_reducible rfl) ?_
 refine zU 4 7 ?_;refine zT 5 8 rfl (fun w hSw=>by
  have x_k1:=zb hSw.1 k1;go_simp;try with_reducible rfl) ?_
 refine zU 9 12 ?_;refine zT 10 13 rfl (fun w hSw=>by
  have x_k2:=zb hSw.1 k2;go_simp;try with_reducible rfl) ?_
 refine zU 14 17 ?_;refine zT 15 18 rfl (fun w hSw=>by
  have x_k3:=zb hSw.1 k3;go_simp;try with_reducible rfl) ?_
 refine zR 2 (some 5) rfl (fun K hK=>?_);go_simp;go_split_ands;refine qS (D1.out _) fun V1 hb9=>?_;replace hd9:=za hd9 hb9;clear hb9;go_wp2_with fail;refine zK hK ⟨hd9,trivial⟩ (fun hHeld=>?_);clear hK K;refine zU 3 6 ?_;refine zR 6 (some 9) rfl (fun K hK=>?_);go_simp;go_split_ands;refine qS (D2.out _) fun V2 hb9=>?_;replace hd9:=za hd9 hb9;clear hb9;go_wp2_with fail;refine zK hK ⟨hd9,trivial⟩ (fun hHeld=>?_);clear hK K;refine zU 7 10 ?_;refine zU 8 11 ?_;refine zR 11 (some 14) rfl (fun K hK=>?_);go_simp;go_split_ands;refine qS (D3.out _) fun V3 hb9=>?_;replace hd9:=za hd9 hb9;clear hb9;go_wp2_with fail;refine zK hK ⟨hd9,trivial⟩ (fun hHeld=>?_);clear hK K;refine zU 12 15 ?_;refine zU 13 16 ?_;refine zR 16 (some 19) rfl (fun K hK=>?_);go_simp;go_split_ands;refine qS (D4.out _) fun V4 hb9=>?_;replace hd9:=za hd9 hb9;clear hb9;go_wp2_with fail;refine zK hK ⟨hd9,trivial⟩ (fun hHeld=>?_);clear hK K;refine zU 17 20 ?_;refine zU 18 2 ?_;refine zD ?_;clear hHeld;replace hv:=za hv hd9;go_wp2_with fail;go_returns;exact Ret.mk (vs HP.out.symm) hv
def uW (f:Foot) (n:Nat):ByteArray:=((yZ f ++ ⟨#[32]⟩) ++ zm n) ++ ⟨#[32,108,97,115,116,115]⟩
def qi (f:Foot) (xs:List Last) (s:Style) (lg:ByteArray) (n:Nat):ByteArray:=if tL f xs s lg=true then uW f n else ⟨#[]⟩
theorem eZ {f:Foot} {xs:List Last} {s:Style} {lg:ByteArray} (h:tL f xs s lg=true):yo f=true:=by
 unfold tL at h;simp only [Bool.and_eq_true] at h;exact h.1.1.1
theorem fW (f:Foot) (A:Option Addr) (n c:Nat) (hf:Hid (yo f=true)) (hm:(n:Int)≤1048576) (g:Nat) (w:World) (k0:w.cell? ⟨g,0,none⟩=some (.int .i64 f.length)) (k1:w.cell? ⟨g,1,none⟩=some (.int .i64 f.b)) (k2:w.cell? ⟨g,2,none⟩=some (.int .i64 f.i)) (k3:w.cell? ⟨g,3,none⟩=some (.int .i64 f.h)) (k4:w.cell? ⟨g,4,none⟩=some (.slice A n c)):Calls Tryz.prog 172 #[.pointer (some ⟨g,0,none⟩)] w (Ret (.string (uW f n)) w):=by
 have D1:=fun w=>pq f hf w;have D2:=fun w=>xf (n:Int) (by omega) (by omega) w;have hP:uW f n=((yZ f ++ ⟨#[32]⟩) ++ zm n) ++ ⟨#[32,108,97,115,116,115]⟩:=rfl;have l1:(⟨#[32]⟩:ByteArray).size=1:=rfl;have l2:(⟨#[32,108,97,115,116,115]⟩:ByteArray).size=6:=rfl;have y1:=vD hf.out;have y2:=xd (v:=(n:Int)) (by omega) (by omega);obtain ⟨d1,e1⟩:=zN (yZ f);obtain ⟨d2,e2⟩:=zN (zm (n:Int));rw [←e1] at D1 y1 hP;rw [←e2] at D2 y2 hP;replace D1:=qH D1;replace D2:=qH D2;have a0:=fun (w:World)=>run_string_add_sum (P:=Tryz.prog) w d1 (⟨#[32]⟩:ByteArray) (by omega);have a1:=fun (w:World)=>run_string_add_sum (P:=Tryz.prog) w (d1 ++ (⟨#[32]⟩:ByteArray)) d2 (by simp only [zu];omega);have a2:=fun (w:World)=>run_string_add_sum (P:=Tryz.prog) w ((d1 ++ (⟨#[32]⟩:ByteArray)) ++ d2) (⟨#[32,108,97,115,116,115]⟩:ByteArray) (by simp only [zu];omega);have HP:=qH hP;clear hP e1 e2 y1 y2 l1 l2 hf;go_enter Tryz.func172,Tryz.ntmps172;go_upto_region 1 with fail;refine zH (fun w'=>Below w.heap.size w w'∧True) ?_ (fun hHeld=>?_)
 · exact ⟨(Below.refl _ _).drew,trivial⟩
 have hd9:=hHeld.1;refine zU 0 3 ?_;refine zU 1 4 ?_;refine zU 2 5 ?_;refine zT 3 6 rfl (fun w hSw=>by
  have x_k0:=zb hSw.1 k0;have x_k1:=zb hSw.1 k1;have x_k2:=zb hSw.1 k2;have x_k3:=zb hSw.1 k3;go_simp;try with_reducible rfl) ?_
 refine zU 6 9 ?_;refine zU 7 10 ?_;refine zU 8 11 ?_;refine zT 9 12 rfl (fun w hSw=>by
  have x_k4:=zb hSw.1 k4;go_simp;try with_reducible rfl) ?_
 refine zU 10 13 ?_;refine zR 4 (some 7) rfl (fun K hK=>?_);go_simp;go_split_ands;refine qS (D1.out _) fun V1 hb9=>?_;replace hd9:=za hd9 hb9;clear hb9;go_wp2_with fail;refine zK hK ⟨hd9,trivial⟩ (fun hHeld=>?_);clear hK K;refine zU 5 8 ?_;refine zR 11 (some 14) rfl (fun K hK=>?_);go_simp;go_split_ands;refine qS (D2.out _) fun V2 hb9=>?_;replace hd9:=za hd9 hb9;clear hb9;go_wp2_with fail;refine zK hK ⟨hd9,trivial⟩ (fun hHeld=>?_);clear hK K;refine zU 12 15 ?_;refine zU 13 16 ?_;refine zU 14 2 ?_;refine zD ?_;clear hHeld;go_wp2_with fail;go_returns;exact Ret.mk (vs HP.out.symm) hd9
theorem fa (f:Foot) (s:Style) (lg:ByteArray) (A:Option Addr) (xs:List Last) (n c:Nat) (hn:Hid (xs.length=n)) (hm:(n:Int)≤1048576) (hs:Hid (∀ x ∈ xs,x.name.size≤9223372036854775807)) (hx:Hid s.fits) (hl:lg.size≤1048576) (w:World) (hA:Arr w A (zd Last.cells xs)) (hT:Tabs w):Calls Tryz.prog 11 #[Value.agg #[.int .i64 f.length,.int .i64 f.b,.int .i64 f.i,.int .i64 f.h,.slice A n c,.string s.u,.string s.c,.string s.l,.string s.s,.int .i64 s.t,.int .i64 s.h,.int .i64 s.e,.int .i64 s.d,.bool s.q,.string lg]] w (Ret (.string (qi f xs s lg n)) w):=by
 have HT:=qH hT;have HA:=qH hA;clear hT hA;obtain ⟨W,hW⟩:=zN (w.alloc (Obj.cells (cD f A n c s lg) 32));obtain ⟨g,hg⟩:=zN w.heap.size;have hv:Below w.heap.size w W:=by rw [hW];exact zc (Below.refl _ _) _
 have hB:Hid (Blk W g 32 (cD f A n c s lg)):=qH (by rw [hW,hg];exact Blk.new _ _ _);have HW:=qH hW;have HG:=qH hg;clear hW hg;have HOK:=fun w h t=>ow f s lg A xs n c hn hm hs hx hl w h t;obtain ⟨b,hb⟩:=zN (tL f xs s lg);rw [←hb] at HOK;replace HOK:=qH HOK;have HBE:=qH hb.symm;clear hb hn hs hx hl;go_enter Tryz.func11,Tryz.ntmps11;go_upto_region 1 with fail;rw [←HW.out,←HG.out];clear HW HG;go_wp2_with (refine yL g hB.out Tryz.underlying32 ?_)
 refine qS (HOK.out _ (HA.out.below hv) (HT.out.below hv)) fun W1 hb=>?_;replace hv:=za hv hb;replace hB:=qH (hB.out.below hb);clear hb HOK;cases b
 · have HE:=qH (show qi f xs s lg n=⟨#[]⟩ by unfold qi;rw [HBE.out];rfl);go_wp2_with fail;go_returns;exact Ret.mk (vs HE.out.symm) hv
 have HE:=qH (show qi f xs s lg n=uW f n by unfold qi;rw [HBE.out];rfl);have hf:=qH (eZ HBE.out);clear HBE;have HT1:=qH (HT.out.below hv);have D1:=fun w h=>rY f hf w h;have D2:=fun w h=>xo (n:Int) (by omega) (by omega) w h;have hP:uW f n=((yZ f ++ ⟨#[32]⟩) ++ zm n) ++ ⟨#[32,108,97,115,116,115]⟩:=rfl;have l1:(⟨#[32]⟩:ByteArray).size=1:=rfl;have l2:(⟨#[32,108,97,115,116,115]⟩:ByteArray).size=6:=rfl;have y1:=vD hf.out;have y2:=xd (v:=(n:Int)) (by omega) (by omega);obtain ⟨d1,e1⟩:=zN (yZ f);obtain ⟨d2,e2⟩:=zN (zm (n:Int));rw [←e1] at D1 y1 hP;rw [←e2] at D2 y2 hP;replace D1:=qH D1;replace D2:=qH D2;have a0:=fun (w:World)=>run_string_add_sum (P:=Tryz.prog) w d1 (⟨#[32]⟩:ByteArray) (by omega);have a1:=fun (w:World)=>run_string_add_sum (P:=Tryz.prog) w (d1 ++ (⟨#[32]⟩:ByteArray)) d2 (by simp only [zu];omega);have a2:=fun (w:World)=>run_string_add_sum (P:=Tryz.prog) w ((d1 ++ (⟨#[32]⟩:ByteArray)) ++ d2) (⟨#[32,108,97,115,116,115]⟩:ByteArray) (by simp only [zu];omega);have HP:=qH hP;clear hP e1 e2 y1 y2 l1 l2 hf;obtain ⟨k0,k1,k2,k3,k4,k5,k6,k7,k8,k9,k10,k11,k12,k13,k14⟩:=vG hB.out;go_upto_region 3 with fail;refine zH (fun w'=>Below W1.heap.size W1 w'∧True) ?_ (fun hHeld=>?_)
 · exact ⟨(Below.refl _ _).drew,trivial⟩
 have hd9:=hHeld.1;refine zU 0 6 ?_;refine zT 1 7 rfl (fun w hSw=>by
  have x_k0:=zb hSw.1 k0;have x_k1:=zb hSw.1 k1;have x_k2:=zb hSw.1 k2;have x_k3:=zb hSw.1 k3;go_simp;try with_reducible rfl) ?_
 refine zU 4 10 ?_;refine zT 5 11 rfl (fun w hSw=>by
  have x_k4:=zb hSw.1 k4;go_simp;try with_reducible rfl) ?_
 refine zU 6 12 ?_;refine zR 2 (some 8) rfl (fun K hK=>?_);go_simp;go_split_ands;refine qS (D1.out _ (HT1.out.below hd9)) fun V1 hb9=>?_;replace hd9:=za hd9 hb9;clear hb9;go_wp2_with fail;refine zK hK ⟨hd9,trivial⟩ (fun hHeld=>?_);clear hK K;refine zU 3 9 ?_;refine zR 7 (some 13) rfl (fun K hK=>?_);go_simp;go_split_ands;refine qS (D2.out _ (HT1.out.below hd9).pow) fun V2 hb9=>?_;replace hd9:=za hd9 hb9;clear hb9;go_wp2_with fail;refine zK hK ⟨hd9,trivial⟩ (fun hHeld=>?_);clear hK K;refine zU 8 14 ?_;refine zU 9 15 ?_;refine zU 10 2 ?_;refine zD ?_;clear hHeld;replace hv:=za hv hd9;go_wp2_with fail;go_returns;exact Ret.mk (vs (HE.out.trans HP.out).symm) hv
def okB (p:ByteArray):Bool:=okN p.data.toList
theorem aG (v:Int):∀ b ∈ Lib.itoa v,b=45∨yF b=true:=by
 have h:=xr v;have hd:=(uL v.natAbs).1;intro b hm;rw [←h.1] at hd;cases hv:Lib.itoa v with
 | nil=>rw [hv] at hm;cases hm
 | cons c r=>
   rw [hv] at hm hd;simp only [yp] at hd;split at hd
   · rename_i hc;rcases List.mem_cons.1 hm with h1 | h1
     · exact .inl (h1.trans hc)
     · exact .inr (List.all_eq_true.1 hd _ h1)
   · exact .inr (List.all_eq_true.1 hd _ hm)
theorem gu {c:UInt8} (hc:yF c=false) (h45:c≠45) (v:Int):c ∉ Lib.itoa v:=by
 intro hm;rcases aG v c hm with h | h
 · exact h45 h
 · rw [hc] at h;cases h
theorem tD (v:Int):(zm v).data.toList=Lib.itoa v:=by unfold zm;simp
theorem zak {c:UInt8} {s:ByteArray} {L:List ByteArray} (h:zi c s=L):spl c s.data.toList=L.map (·.data.toList):=by
 rw [←h];unfold zi;rw [List.map_map]
 conv=>lhs;rw [←List.map_id (spl c s.data.toList)]
 exact List.map_congr_left fun x _=>by simp
theorem qM {c:UInt8} {s:ByteArray} {L:List ByteArray} (h:zi c s=L):s.data.toList=[c].intercalate (L.map (·.data.toList)):=by
 rw [←zak h];exact jn c _
theorem qU {c:UInt8} {s:ByteArray} {L:List ByteArray} (hne:L≠[]) (hf:∀ p ∈ L,c ∉ p.data.toList) (h:s.data.toList=[c].intercalate (L.map (·.data.toList))):zi c s=L:=by
 unfold zi;rw [h,rE _ (by simpa using hne) (by
  intro p hp;obtain ⟨q,hq,rfl⟩:=List.mem_map.1 hp;exact hf q hq),List.map_map]
 conv=>rhs;rw [←List.map_id L]
 exact List.map_congr_left fun x _=>by simp
theorem nk {s t:ByteArray} (h:s.data.toList=t.data.toList):s=t:=by rw [←vB s,h,vB]
def mkF (a b c d:ByteArray):Foot:=⟨zq a,zq b,zq c,zq d⟩
def ftB (f:Foot):ByteArray:=if yo f=true then yZ f else ⟨#[]⟩
theorem hZ {f:Foot} (h:yo f=true):ftB f=yZ f:=by unfold ftB;rw [if_pos h]
theorem dB {f:Foot} (h:yo f=false):ftB f=⟨#[]⟩:=by unfold ftB;rw [if_neg (by simp [h])]
theorem nx (f:Foot):(yZ f).data.toList=[47].intercalate [Lib.itoa f.length,Lib.itoa f.b,Lib.itoa f.i,Lib.itoa f.h]:=by
 unfold yZ;simp only [vT,tD];simp [List.intercalate]
theorem aw {c:UInt8} (hc:yF c=false) (h45:c≠45) (h47:c≠47) (f:Foot):c ∉ (yZ f).data.toList:=by
 rw [nx];simp only [List.intercalate,List.intersperse,List.flatten_cons,List.flatten_nil,List.append_nil,List.mem_append,List.mem_singleton,not_or];have h:=fun v=>gu hc h45 v;simp [h,h47]
def xk (s:ByteArray):Option Foot:=match zi 47 s with
 | [a,b,c,d]=>if (okB a && okB b && okB c && okB d && yo (mkF a b c d))=true then some (mkF a b c d) else none
 | _=>none
theorem nN {s:ByteArray} (h:(zi 47 s).length≠4):xk s=none:=by
 unfold xk;split
 · rename_i hs;rw [hs] at h;exact absurd rfl h
 · rfl
theorem pH {s a b c d:ByteArray} (h:zi 47 s=[a,b,c,d]):xk s=if (okB a && okB b && okB c && okB d && yo (mkF a b c d))=true then some (mkF a b c d) else none:=by
 unfold xk;rw [h]
theorem jm (c:UInt8):zi c ⟨#[]⟩=[⟨#[]⟩]:=rfl
theorem kC {s a b c d:ByteArray} (h:zi 47 s=[a,b,c,d]) (ha:okB a=true) (hb:okB b=true) (hc:okB c=true) (hd:okB d=true):yZ (mkF a b c d)=s:=by
 apply nk;have h1:=(okN_iff.1 ha).2.2.2;have h2:=(okN_iff.1 hb).2.2.2;have h3:=(okN_iff.1 hc).2.2.2;have h4:=(okN_iff.1 hd).2.2.2;rw [qM h,nx];simp only [mkF,xc ha,xc hb,xc hc,xc hd,h1,h2,h3,h4,List.map_cons,List.map_nil]
theorem zbS {s a b c d:ByteArray} (h:zi 47 s=[a,b,c,d]) (ha:okB a=true) (hb:okB b=true) (hc:okB c=true) (hd:okB d=true):decide (ftB (mkF a b c d)=s)=yo (mkF a b c d):=by
 cases hf:yo (mkF a b c d)
 · rw [dB hf];apply decide_eq_false;intro e;rw [←e,jm] at h;cases h
 · rw [hZ hf];exact decide_eq_true (kC h ha hb hc hd)
theorem se {s:ByteArray} {f:Foot} (h:xk s=some f):yZ f=s∧yo f=true:=by
 unfold xk at h;split at h
 · rename_i a b c d hs;split at h
   · rename_i hc;simp only [Bool.and_eq_true] at hc;obtain ⟨⟨⟨⟨h1,h2⟩,h3⟩,h4⟩,h5⟩:=hc;injection h with h;subst h;exact ⟨kC hs h1 h2 h3 h4,h5⟩
   · cases h
 · cases h
def wPitch:ByteArray:=⟨#[112,105,116,99,104]⟩
def xS (x:Last):ByteArray:=((((x.name ++ ⟨#[32]⟩) ++ yZ x.foot) ++ ⟨#[32,112,105,116,99,104,32]⟩) ++ zm x.p)
def ltB (x:Last):ByteArray:=if zy x=true then xS x else ⟨#[]⟩
theorem rQ {x:Last} (h:zy x=true):ltB x=xS x:=by unfold ltB;rw [if_pos h]
theorem cx {x:Last} (h:zy x=false):ltB x=⟨#[]⟩:=by unfold ltB;rw [if_neg (by simp [h])]
theorem yP {x:Last} (h:zy x=true):zo x.name=true∧yo x.foot=true∧0≤x.p∧x.p≤1000:=by
 unfold zy at h;simp only [Bool.and_eq_true,inB_iff] at h;exact ⟨h.1.1,h.1.2,h.2⟩
theorem mW (x:Last):(xS x).data.toList=[32].intercalate [x.name.data.toList,(yZ x.foot).data.toList,wPitch.data.toList,Lib.itoa x.p]:=by
 unfold xS;simp only [vT,tD];simp [List.intercalate,wPitch]
theorem cW {x:Last} (h:zy x=true):zi 32 (xS x)=[x.name,yZ x.foot,wPitch,zm x.p]:=by
 obtain ⟨hn,_,_,_⟩:=yP h;refine qU (by simp) ?_ ?_
 · intro p hp;simp only [List.mem_cons,List.not_mem_nil,or_false] at hp;rcases hp with rfl | rfl | rfl | rfl
   · exact pC hn
   · exact aw (by decide) (by decide) (by decide) _
   · decide
   · rw [tD];exact gu (by decide) (by decide) _
 · rw [mW];simp [tD]
def mkL (n:ByteArray) (f:Foot) (p:ByteArray):Last:=⟨n,f.length,f.b,f.i,f.h,zq p⟩
theorem aR (n:ByteArray) (f:Foot) (p:ByteArray):(mkL n f p).foot=f:=rfl
def wc (s:ByteArray):Option Last:=match zi 32 s with
 | [n,ft,q,p]=>(match xk ft with
   | some f=>if (decide (q=wPitch) && okB p && zy (mkL n f p))=true then some (mkL n f p) else none
   | none=>none)
 | _=>none
theorem nO {s:ByteArray} (h:(zi 32 s).length≠4):wc s=none:=by
 unfold wc;split
 · rename_i hs;rw [hs] at h;exact absurd rfl h
 · rfl
theorem oC {s n ft q p:ByteArray} (h:zi 32 s=[n,ft,q,p]) (hf:xk ft=none):wc s=none:=by
 unfold wc;rw [h];simp only [hf]
theorem lm {s n ft q p:ByteArray} {f:Foot} (h:zi 32 s=[n,ft,q,p]) (hf:xk ft=some f):wc s=if (decide (q=wPitch) && okB p && zy (mkL n f p))=true then some (mkL n f p) else none:=by
 unfold wc;rw [h];simp only [hf]
theorem gC {s n ft p:ByteArray} {f:Foot} (h:zi 32 s=[n,ft,wPitch,p]) (hf:xk ft=some f) (hp:okB p=true):xS (mkL n f p)=s:=by
 apply nk;have h4:=(okN_iff.1 hp).2.2.2;rw [qM h,mW,aR,(se hf).1];simp only [mkL,xc hp,h4,List.map_cons,List.map_nil]
theorem cu {s n ft q p:ByteArray} {f:Foot} (h:zi 32 s=[n,ft,q,p]) (hf:xk ft=some f) (hp:okB p=true):decide (ltB (mkL n f p)=s)=(decide (q=wPitch) && zy (mkL n f p)):=by
 cases hl:zy (mkL n f p)
 · rw [cx hl,Bool.and_false];apply decide_eq_false;intro e;rw [←e,jm] at h;cases h
 · rw [rQ hl,Bool.and_true];by_cases hq:q=wPitch
   · subst hq;rw [decide_eq_true rfl];exact decide_eq_true (gC h hf hp)
   · rw [decide_eq_false hq];apply decide_eq_false;intro e;have h2:=cW hl;rw [e,h] at h2;injection h2 with _ h2;injection h2 with _ h2;injection h2 with h3 _;exact hq h3
theorem lp {s:ByteArray} {x:Last} (h:wc s=some x):xS x=s∧zy x=true:=by
 unfold wc at h;split at h
 · rename_i n ft q p hs;split at h
   · rename_i f hf;split at h
     · rename_i hc;simp only [Bool.and_eq_true,decide_eq_true_eq] at hc;obtain ⟨⟨h1,h2⟩,h3⟩:=hc;subst h1;injection h with h;subst h;exact ⟨gC hs hf h2,h3⟩
     · cases h
   · cases h
 · cases h
def chW (k:Int):ByteArray:=if k=1 then ⟨#[108,101,110,103,116,104]⟩ else if k=2 then ⟨#[98,97,108,108]⟩ else if k=3 then ⟨#[105,110,115,116,101,112]⟩ else if k=4 then ⟨#[104,101,101,108]⟩ else if k=5 then ⟨#[112,105,116,99,104]⟩ else ⟨#[]⟩
def chK (p:ByteArray):Int:=if p=chW 1 then 1 else if p=chW 2 then 2 else if p=chW 3 then 3 else if p=chW 4 then 4 else if p=chW 5 then 5 else 0
def wF (k:Int):Int:=if k=1 then 200 else if k=2∨k=3∨k=4 then 300 else if k=5 then 150 else 0
def xg (k a:Int):Bool:=decide (0 < wF k) && (decide (a≠0) && inB a (-wF k) (wF k))
theorem uK {k a:Int} (h:xg k a=true):1≤k∧k≤5∧a≠0∧-300≤a∧a≤300:=by
 unfold xg wF at h;simp only [Bool.and_eq_true,decide_eq_true_eq,inB_iff] at h;obtain ⟨h0,h1,h2,h3⟩:=h
 repeat' split at h0
 all_goals (repeat' split at h2)
 all_goals (repeat' split at h3)
 all_goals omega
theorem bR {k:Int} (h1:1≤k) (h5:k≤5):chK (chW k)=k:=by
 rcases (show k=1∨k=2∨k=3∨k=4∨k=5 by omega) with rfl | rfl | rfl | rfl | rfl <;> decide
theorem bT {p:ByteArray} (h:1≤chK p):chW (chK p)=p:=by
 unfold chK at h ⊢
 repeat' split
 all_goals first | (rename_i e;exact e.symm) | (simp_all;done) | omega
theorem ki (k:Int):(32:UInt8) ∉ (chW k).data.toList:=by
 unfold chW
 repeat' split
 all_goals decide
def chT (k a:Int):ByteArray:=if xg k a=true then (if 0 < a then ((chW k ++ ⟨#[32,43]⟩) ++ zm a) else ((chW k ++ ⟨#[32]⟩) ++ zm a)) else ⟨#[]⟩
def chN (c:UInt8) (r:List UInt8):Int:=if c=45 then -(xi r) else xi r
def wn (s:ByteArray):Option (Int × Int):=match zi 32 s with
 | [p,q]=>(match q.data.toList with
   | c :: r=>if (decide (c=43∨c=45) && okN r && inB (xi r) 1 300 && xg (chK p) (chN c r))=true then some (chK p,chN c r) else none
   | []=>none)
 | _=>none
theorem ep {s:ByteArray} (h:(zi 32 s).length≠2):wn s=none:=by
 unfold wn;split
 · rename_i hs;rw [hs] at h;exact absurd rfl h
 · rfl
theorem mR {n:Int} (h:0≤n):Lib.itoa (-n)=if n=0 then Lib.itoa 0 else 45 :: Lib.itoa n:=by
 by_cases h0:n=0
 · subst h0;rfl
 · rw [if_neg h0];unfold Lib.itoa;rw [if_pos (by omega),if_neg (by omega)]
   congr 2
   omega
theorem oK {k a:Int} (h:xg k a=true):(chT k a).data.toList=[32].intercalate [(chW k).data.toList,(if 0 < a then 43 else 45) :: Lib.itoa a.natAbs]:=by
 obtain ⟨_,_,h0,_,_⟩:=uK h;unfold chT;rw [if_pos h];by_cases hp:0 < a
 · rw [if_pos hp,if_pos hp];have:((a.natAbs:Nat):Int)=a:=by omega
   simp only [vT,tD,this];simp [List.intercalate]
 · rw [if_neg hp,if_neg hp];have e:a = -((a.natAbs:Nat):Int):=by omega
   have h2:=mR (n:=((a.natAbs:Nat):Int)) (by omega);rw [if_neg (by omega),←e] at h2;simp only [vT,tD,h2];simp [List.intercalate]
theorem cK {k a:Int} (h:xg k a=true):wn (chT k a)=some (k,a):=by
 obtain ⟨h1,h5,h0,hl,hu⟩:=uK h;have hs:zi 32 (chT k a)=[chW k,⟨((if 0 < a then 43 else 45) :: Lib.itoa a.natAbs).toArray⟩]:=by
  refine qU (by simp) ?_ ?_
  · intro p hp;simp only [List.mem_cons,List.not_mem_nil,or_false] at hp;rcases hp with rfl | rfl
    · exact ki k
    · simp only [List.mem_cons,not_or];exact ⟨by split <;> decide,tU _⟩
  · rw [oK h];rfl
 unfold wn;rw [hs];simp only [];have e1:xi (Lib.itoa ((a.natAbs:Nat):Int))=(a.natAbs:Nat):=(xr _).2;have e2:okN (Lib.itoa ((a.natAbs:Nat):Int))=true:=vX (by omega) (by omega);rw [bR h1 h5,e1,e2];by_cases hp:0 < a
 · have ea:chN 43 (Lib.itoa ((a.natAbs:Nat):Int))=a:=by unfold chN;rw [if_neg (by decide),e1];omega
   rw [if_pos hp,ea,h,oO (by omega) (by omega)];rfl
 · have ea:chN 45 (Lib.itoa ((a.natAbs:Nat):Int))=a:=by unfold chN;rw [if_pos rfl,e1];omega
   rw [if_neg hp,ea,h,oO (by omega) (by omega)];rfl
theorem ll {s:ByteArray} {k a:Int} (h:wn s=some (k,a)):chT k a=s∧xg k a=true:=by
 unfold wn at h;split at h
 · rename_i p q hs;split at h
   · rename_i c r hq;split at h
     · rename_i hc;simp only [Bool.and_eq_true,decide_eq_true_eq,inB_iff] at hc;obtain ⟨⟨⟨h1,h2⟩,h3,h4⟩,h5⟩:=hc;injection h with h;injection h with hk ha;subst hk;rw [ha] at h5;unfold chN at ha;refine ⟨?_,h5⟩;have h6:=(okN_iff.1 h2).2.2.2;obtain ⟨k1,_,_⟩:=uK h5;apply nk;rw [oK h5,qM hs,bT k1];simp only [List.map_cons,List.map_nil,hq]
       congr 3
       rcases h1 with rfl | rfl
       · rw [if_neg (by decide)] at ha;have e:((a.natAbs:Nat):Int)=xi r:=by omega
         rw [if_pos (by omega),e,h6]
       · rw [if_pos rfl] at ha;have e:((a.natAbs:Nat):Int)=xi r:=by omega
         rw [if_neg (by omega),e,h6]
     · cases h
   · cases h
 · cases h
end Go.Proofs.YtpiehlfffjhoaaaGreatDoor
