/- Lemmas for the law on the console: the parts CoC,CnF,CnW,CnC. -/
import Derived.Test.YtpiehlfffjhoaaaGreatDoorQ1
import Derived.Test.YtpiehlfffjhoaaaGreatDoorQ0
import Derived.Test.YtpiehlfffjhoaaaGreatDoorQ22
import Derived.Test.YtpiehlfffjhoaaaGreatDoorQ23
import Derived.Test.YtpiehlfffjhoaaaGreatDoorQ13
import Derived.Test.YtpiehlfffjhoaaaGreatDoorQ14
import Derived.Deep.RegionHeld3
namespace Go.Proofs.YtpiehlfffjhoaaaGreatDoor
open Go.RowKit
set_option maxRecDepth 100000
set_option maxHeartbeats 4000000
def nmV (xs:List Last) (nm:ByteArray):Last × Int × Int:=if (yv xs nm).2=0 then ((xs[(yv xs nm).1.toNat]?).getD ug,(yv xs nm).1,0) else (ug,0,(yv xs nm).2)
theorem kY {xs:List Last} {nm:ByteArray} (h:¬ (yv xs nm).2=0):nmV xs nm=(ug,0,(yv xs nm).2):=by unfold nmV;rw [if_neg h]
theorem mu {xs:List Last} {nm:ByteArray} (h:(yv xs nm).2=0):∃ (k:Nat) (x:Last),(yv xs nm).1=(k:Int)∧xs[k]?=some x∧nmV xs nm=(x,(k:Int),0):=by
 obtain ⟨h1,⟨x,hx,_⟩,_⟩:=lc h;refine ⟨lbN nm xs,x,h1,hx,?_⟩;unfold nmV;rw [if_pos h,h1,Int.toNat_natCast,hx];rfl
def nK (p:Last × Int × Int):Array Value:=#[.agg #[.string p.1.name,.int .i64 p.1.length,.int .i64 p.1.b,.int .i64 p.1.i,.int .i64 p.1.h,.int .i64 p.1.p],.int .i64 p.2.1,.int .i64 p.2.2]
theorem oA (gd:Nat) (A:Option Addr) (xs:List Last) (n c:Nat) (nm:ByteArray) (hn:Hid (xs.length=n)) (hm:(n:Int)≤1048576) (hs:Hid (∀ x ∈ xs,x.name.size≤9223372036854775807)) (hz:nm.size≤9223372036854775807) (w:World) (hA:Arr w A (zd Last.cells xs)) (h4:w.cell? ⟨gd,4,none⟩=some (.slice A n c)) :
 Calls Tryz.prog 76 #[.pointer (some ⟨gd,0,none⟩),.string nm] w (RetT (nK (nmV xs nm)) w):=by
 obtain ⟨W,hW⟩:=zN (w.alloc (Obj.cells cM 100));obtain ⟨g,hg⟩:=zN w.heap.size;have hv:Below w.heap.size w W:=by rw [hW];exact zc (Below.refl _ _) _
 have HB:Hid (Blk W g 100 cM):=qH (by rw [hW,hg];exact Blk.new _ _ _);have hgw:w.heap.size≤g:=by omega
 have HA:=qH (hA.below hv);have k4:=zb hv h4;have H4:=qH k4;have HP:=fun w h=>js A xs n c nm hn hm hs hz w h;have HNO:=qH (@kY xs nm);have HYES:=qH (@mu xs nm);obtain ⟨co,hco⟩:=zN ((yv xs nm).2);obtain ⟨pl,hpl⟩:=zN ((yv xs nm).1);rw [←hco] at HNO HYES;rw [←hpl] at HYES;rw [←hco,←hpl] at HP;replace HP:=qH HP;have HW:=qH hW;have HG:=qH hg;clear hW hg hA h4 hco hpl;go_enter Tryz.func76,Tryz.ntmps76;go_upto_region 1 with fail;rw [←HW.out,←HG.out];clear HW HG;go_wp2_with fail;refine qS (HP.out _ HA.out) fun W1 hb=>?_;replace HA:=qH (HA.out.below hb);replace HB:=qH (HB.out.below hb);replace H4:=qH (zb hb H4.out);replace hv:=za hv hb;clear hb HP k4;by_cases hc:co=0
 case neg=>
  have HR:=qH (HNO.out hc);clear HNO HYES HA H4;go_wp2_with (refine yS g cM HB.out ?_)
  have hF:Blk (World.setRow W1 g cM) g 100 cM:=setRow_heap _ _ _ _ _ _ HB.out;have hbF:=zF hv hgw cM;obtain ⟨WF,hWF⟩:=zN (World.setRow W1 g cM);rw [←hWF] at hF hbF ⊢;clear hWF;obtain ⟨m0,m1,m2,m3,m4,m5⟩:=qC6 hF;go_wp2_with fail;try simp only [Exit.inBlock,Exit.then]
  refine bodyPost_ret (v:=.tuple #[.agg #[.string ⟨#[]⟩,.int .i64 0,.int .i64 0,.int .i64 0,.int .i64 0,.int .i64 0],.int .i64 0,.int .i64 co]) (by simp [results,Tryz.results76,go_sem,m0,m1,m2,m3,m4,m5]) rfl ?_;exact RetT.mk (by rw [HR.out];rfl) hbF
 case pos=>
 subst hc;obtain ⟨k,x,hk,hx,hR⟩:=HYES.out rfl;subst hk;obtain ⟨ad,had,hab,c0,c1,c2,c3,c4,c5⟩:=Last.at_ HA.out hx;subst had;have k4:=H4.out;have HR:=qH hR;have hkn:k < n:=by rw [←hn.out];exact (List.getElem?_eq_some_iff.1 hx).1
 have hk0:(0:Int)≤(k:Int):=by omega
 have hk1:(k:Int) < (n:Int):=by omega
 clear HNO HYES HA H4 hx hR hkn;go_wp2_with (refine yS g (cL x) HB.out ?_)
 have hF:Blk (World.setRow W1 g (cL x)) g 100 (cL x):=setRow_heap _ _ _ _ _ _ HB.out;have hbF:=zF hv hgw (cL x);obtain ⟨WF,hWF⟩:=zN (World.setRow W1 g (cL x));rw [←hWF] at hF hbF ⊢;clear hWF;obtain ⟨m0,m1,m2,m3,m4,m5⟩:=qC6 hF;go_wp2_with fail;try simp only [Exit.inBlock,Exit.then]
 refine bodyPost_ret (v:=.tuple #[.agg #[.string x.name,.int .i64 x.length,.int .i64 x.b,.int .i64 x.i,.int .i64 x.h,.int .i64 x.p],.int .i64 (k:Int),.int .i64 0]) (by simp [results,Tryz.results76,go_sem,m0,m1,m2,m3,m4,m5]) rfl ?_;exact RetT.mk (by rw [HR.out];rfl) hbF
def zb7 (f:Foot) (xs:List Last) (n:Nat) (s:Style) (lg:ByteArray) (w:World) (e:Ending) (w':World):Prop:=∃ (A2:Option Addr) (c2:Nat),e=.returned (.agg #[.int .i64 f.length,.int .i64 f.b,.int .i64 f.i,.int .i64 f.h,.slice A2 n c2,.string s.u,.string s.c,.string s.l,.string s.s,.int .i64 s.t,.int .i64 s.h,.int .i64 s.e,.int .i64 s.d,.bool s.q,.string lg])∧w'.ownsRow w.heap.size 100 6 (.slice A2 n c2) n (zd Last.cells xs)∧Below w.heap.size w w'
theorem nl (f:Foot) (s:Style) (lg:ByteArray) (A:Option Addr) (xs:List Last) (n c:Nat) (hn:Hid (xs.length=n)) (hm:(n:Int)≤1048576) (w:World) (hA:Arr w A (zd Last.cells xs)) :
 Calls Tryz.prog 32 #[.agg #[.int .i64 f.length,.int .i64 f.b,.int .i64 f.i,.int .i64 f.h,.slice A n c,.string s.u,.string s.c,.string s.l,.string s.s,.int .i64 s.t,.int .i64 s.h,.int .i64 s.e,.int .i64 s.d,.bool s.q,.string lg]] w (zb7 f xs n s lg w):=by
 obtain ⟨W,hW⟩:=zN ((w.alloc (Obj.cells (cD f A n c s lg) 32)).alloc (Obj.cells cE 32));obtain ⟨g0,hg0⟩:=zN w.heap.size;obtain ⟨g1,hg1⟩:=zN (w.heap.size + 1);have hv:Below w.heap.size w W:=by rw [hW];exact zc (zc (Below.refl _ _) _) _
 have H0:Hid (Blk W g0 32 (cD f A n c s lg)):=qH (by rw [hW,hg0];exact (Blk.new _ _ _).alloc _);have H1:Hid (Blk W g1 32 cE):=qH (by rw [hW,hg1];have h:=Blk.new (w.alloc (Obj.cells (cD f A n c s lg) 32)) 32 cE;rw [World.size_alloc] at h;exact h);have HCL:=qH (sX A xs n c hn hm W (hA.below hv));have hge0:w.heap.size≤g0:=by omega
 have hge:w.heap.size≤g1:=by omega
 have hne:g0≠g1:=by omega
 have hgW:Hid (g0 < W.heap.size∧g1 < W.heap.size∧w.heap.size≤W.heap.size):=qH ⟨H0.out.lt,H1.out.lt,hv.size⟩;have k4:W.cell? ⟨g0,4,none⟩=some (.slice A n c):=H0.out.cell 4;have HW:=qH hW;have G0:=qH hg0;have G1:=qH hg1;clear hW hg0 hg1 hA;go_enter Tryz.func32,Tryz.ntmps32;go_upto_region 1 with fail;rw [←HW.out,←G1.out,←G0.out];clear HW G0 G1;go_wp2_with fail;refine HCL.out.mono ?_;rintro e W2 ⟨A2,c2,rfl,hown,hb⟩;replace H0:=qH (H0.out.below hb);replace H1:=qH (H1.out.below hb);have HOW:=qH hown;have hsz:=hv.size;replace hv:=za hv hb;clear hb HCL k4 hown;have hl0:=H0.out.lt;have fz:W2.frozen? ⟨g0,4,none⟩=false:=H0.out.frozen 4;have k4:W2.cell? ⟨g0,4,none⟩=some (.slice A n c):=H0.out.cell 4;have z1:W2.frozen? ⟨g1,0,none⟩=false:=H1.out.frozen 0;have hcp:=HOW.out;go_upto_region 2 with fail;clear fz k4 z1 hcp;have h0:Blk (W2.setCell ⟨g0,4,none⟩ (.slice A2 n c2)) g0 32 (cD f A2 n c2 s lg):=H0.out.set_ 4 _;have h1:Blk (W2.setCell ⟨g0,4,none⟩ (.slice A2 n c2)) g1 32 cE:=H1.out.far (fun e=>hne e.symm) _;have ho:=xm HOW.out (p:=⟨g0,4,none⟩) (fun k e=>by have:=zl HOW.out k e;have:=hgW.out;dsimp only;omega) (.slice A2 n c2);have hv3:=zt hv (p:=⟨g0,4,none⟩) hge0 (.slice A2 n c2);obtain ⟨W3,hW3⟩:=zN (W2.setCell ⟨g0,4,none⟩ (.slice A2 n c2));rw [←hW3] at h0 h1 ho hv3 ⊢;clear hW3 H0 H1 HOW hv;have H0:=qH h0;have H1:=qH h1;have HOW:=qH ho;clear h0 h1 ho;go_wp2_with (first | (refine yL g0 H0.out Tryz.underlying32 ?_) | (refine yS g1 (cD f A2 n c2 s lg) H1.out ?_))
 refine bodyPost_ret (results_cell_row (P:=Tryz.prog) rfl _ _ g1 32 (cD f A2 n c2 s lg) (0,0) _ rfl ?_ Tryz.underlying32 rfl (by kernel_rfl)) rfl ?_
 · exact setRow_heap _ _ _ _ _ _ H1.out
 · exact ⟨A2,c2,rfl,yT (wS HOW.out (fun k e=>by have:=zl HOW.out k e;have:=hgW.out;omega) _) (by have:=hgW.out;omega),zg hv3 hge _⟩
def fd (L:List Int) (c:Int) (w:World) (e:Ending) (w':World):Prop:=∃ (A:Option Addr) (m k:Nat),e=.returned (.tuple #[.slice A m k,.int .i64 c])∧L.length=m∧Arr w' A (zd zp L)∧Below w.heap.size w w'
def fb (L:List Int) (w:World) (e:Ending) (w':World):Prop:=∃ (A:Option Addr) (m k:Nat),e=.returned (.slice A m k)∧L.length=m∧Arr w' A (zd zp L)∧Below w.heap.size w w'
theorem gQ {s i k o:Int} (h:(shB s && (shB i && (shB k && shB o)))=false):xy s i k o=([],2):=by unfold xy;rw [if_neg (by rw [h];simp)]
theorem nM {s i k o:Int} (h:(shB s && (shB i && (shB k && shB o)))=true) {a b c:Int} (ha:a=min s i) (hb:b=min (s - a) k) (hc:c=min (s - a - b) o) (ht:a + b + c < s):xy s i k o=([],10):=by
 unfold xy;rw [if_pos h,←ha,←hb,←hc,if_pos ht]
theorem gT {s i k o:Int} (h:(shB s && (shB i && (shB k && shB o)))=true) {a b c:Int} (ha:a=min s i) (hb:b=min (s - a) k) (hc:c=min (s - a - b) o) (ht:¬ a + b + c < s):xy s i k o=([a,b + c,c],0):=by
 unfold xy;rw [if_pos h,←ha,←hb,←hc,if_neg ht]
theorem vf (w:World) (t:TypeId) (C:Array Value):Arr (w.alloc (.cells C t)) (some ⟨w.heap.size,0,none⟩) C.toList:=vR (Blk.new w t C)
theorem fe (s i k o:Int) (w:World):Calls Tryz.prog 84 #[.int .i64 s,.int .i64 i,.int .i64 k,.int .i64 o] w (fd (xy s i k o).1 (xy s i k o).2 w):=by
 have H0:=@gQ s i k o;have H1:=fun h a b c=>@nM s i k o h a b c;have H2:=fun h a b c=>@gT s i k o h a b c;obtain ⟨R,hR⟩:=zN (xy s i k o);rw [←hR] at H0 H1 H2 ⊢;clear hR;replace H0:=qH H0;replace H1:=qH H1;replace H2:=qH H2;have HO:=qH (fun g w h=>pG (some ⟨g,0,none⟩) [s,i,k,o] 4 4 0 400 (qH rfl) (by omega) w h);have hall:([s,i,k,o].all fun k=>inB k 0 400)=(shB s && (shB i && (shB k && shB o))):=by simp [shB]
 rw [hall] at HO;obtain ⟨B,hB⟩:=zN (shB s && (shB i && (shB k && shB o)));rw [←hB] at HO H0;have HB:=qH hB.symm;clear hB hall;obtain ⟨g,hg⟩:=zN w.heap.size;have hv:=zc (Below.refl w.heap.size w) (.cells #[Value.int .i64 s,Value.int .i64 i,Value.int .i64 k,Value.int .i64 o] 2);go_enter Tryz.func84,Tryz.ntmps84;go_wp2_with fail;refine qS (HO.out _ _ (vf w 2 #[Value.int .i64 s,Value.int .i64 i,Value.int .i64 k,Value.int .i64 o])) fun W hb1=>?_;replace hv:=za hv hb1;clear hb1 HO hg g;cases B
 · have HR:=qH (H0.out rfl);go_wp2_with fail;go_returns;exact ⟨none,0,0,by rw [HR.out];rfl,by rw [HR.out];rfl,by rw [HR.out];exact Arr.nil _ _,hv⟩
 have hbd:(0≤s∧s≤400)∧(0≤i∧i≤400)∧(0≤k∧k≤400)∧(0≤o∧o≤400):=by
  have h:=HB.out;simp [shB,inB] at h;omega
 obtain ⟨⟨s0,s1⟩,⟨i0,i1⟩,⟨k0,k1⟩,⟨o0,o1⟩⟩:=hbd;obtain ⟨a,ha⟩:=zN (min s i);obtain ⟨b,hb⟩:=zN (min (s - a) k);obtain ⟨c,hc⟩:=zN (min (s - a - b) o);have a0:0≤a:=by omega
 have a1:a≤400:=by omega
 have b0:0≤b:=by omega
 have b1:b≤400:=by omega
 have c0:0≤c:=by omega
 have c1:c≤400:=by omega
 have as0:a≤s:=by omega
 have abs0:a + b≤s:=by omega
 have HA:=qH ha;have HBB:=qH hb;have HC:=qH hc;have ha':min s i=a:=ha.symm;have hb':min (s - a) k=b:=hb.symm;have hc':min (s - a - b) o=c:=hc.symm;clear ha hb hc;by_cases ht:a + b + c < s
 · have HR:=qH (H1.out HB.out _ _ _ HA.out HBB.out HC.out (by omega));clear HA HBB HC;go_wp2_with fail;go_returns;exact ⟨none,0,0,by rw [HR.out];rfl,by rw [HR.out];rfl,by rw [HR.out];exact Arr.nil _ _,hv⟩
 · have HR:=qH (H2.out HB.out _ _ _ HA.out HBB.out HC.out (by omega));clear HA HBB HC;go_wp2_with fail;go_returns;exact ⟨_,3,3,by rw [HR.out];rfl,by rw [HR.out];rfl,by rw [HR.out];exact vf _ _ _,zc hv _⟩
theorem sD (n:Int) (w:World):Calls Tryz.prog 238 #[.int .i64 n] w (RetQ (.bool (shB n)) w):=by
 go_enter Tryz.func238,Tryz.ntmps238;go_wp2_with fail;refine (xJ _ _ _ _).mono ?_;rintro e w' ⟨rfl,rfl⟩;go_wp2_with fail;go_returns;exact RetQ.mk rfl
theorem jA (s i k o:Int) (w:World):Calls Tryz.prog 177 #[.int .i64 s,.int .i64 i,.int .i64 k,.int .i64 o] w (fd (xy s i k o).1 (xy s i k o).2 w):=by
 have H0:=@gQ s i k o;have H1:=fun h a b c=>@nM s i k o h a b c;have H2:=fun h a b c=>@gT s i k o h a b c;obtain ⟨R,hR⟩:=zN (xy s i k o);rw [←hR] at H0 H1 H2 ⊢;clear hR;replace H0:=qH H0;replace H1:=qH H1;replace H2:=qH H2;have HS0:=qH (fun w=>sD s w);have HS1:=qH (fun w=>sD i w);have HS2:=qH (fun w=>sD k w);have HS3:=qH (fun w=>sD o w);have HM1:=qH (fun x y w=>qy x y w);have HB0:=qH (show (shB s && (shB i && (shB k && shB o)))=(shB s && (shB i && (shB k && shB o))) from rfl);obtain ⟨q0,hq0⟩:=zN (shB s);obtain ⟨q1,hq1⟩:=zN (shB i);obtain ⟨q2,hq2⟩:=zN (shB k);obtain ⟨q3,hq3⟩:=zN (shB o);rw [←hq0] at HS0;rw [←hq1] at HS1;rw [←hq2] at HS2;rw [←hq3] at HS3;have HB1:=qH (show (shB s && (shB i && (shB k && shB o)))=(q0 && (q1 && (q2 && q3))) by rw [hq0,hq1,hq2,hq3]);clear hq0 hq1 hq2 hq3 HB0;go_enter Tryz.func177,Tryz.ntmps177;cases q0
 case false=>
  have HR:=qH (H0.out HB1.out);go_wp2_with fail;refine qR (HS0.out _) ?_;go_wp2_with fail;go_returns;exact ⟨none,0,0,by rw [HR.out];rfl,by rw [HR.out];rfl,by rw [HR.out];exact Arr.nil _ _,Below.refl _ _⟩
 cases q1
 case false=>
  have HR:=qH (H0.out HB1.out);go_wp2_with fail;refine qR (HS0.out _) ?_;go_wp2_with fail;refine qR (HS1.out _) ?_;go_wp2_with fail;go_returns;exact ⟨none,0,0,by rw [HR.out];rfl,by rw [HR.out];rfl,by rw [HR.out];exact Arr.nil _ _,Below.refl _ _⟩
 cases q2
 case false=>
  have HR:=qH (H0.out HB1.out);go_wp2_with fail;refine qR (HS0.out _) ?_;go_wp2_with fail;refine qR (HS1.out _) ?_;go_wp2_with fail;refine qR (HS2.out _) ?_;go_wp2_with fail;go_returns;exact ⟨none,0,0,by rw [HR.out];rfl,by rw [HR.out];rfl,by rw [HR.out];exact Arr.nil _ _,Below.refl _ _⟩
 cases q3
 case false=>
  have HR:=qH (H0.out HB1.out);go_wp2_with fail;refine qR (HS0.out _) ?_;go_wp2_with fail;refine qR (HS1.out _) ?_;go_wp2_with fail;refine qR (HS2.out _) ?_;go_wp2_with fail;refine qR (HS3.out _) ?_;go_wp2_with fail;go_returns;exact ⟨none,0,0,by rw [HR.out];rfl,by rw [HR.out];rfl,by rw [HR.out];exact Arr.nil _ _,Below.refl _ _⟩
 have HB:=qH (HB1.out:(shB s && (shB i && (shB k && shB o)))=true);have hbd:(0≤s∧s≤400)∧(0≤i∧i≤400)∧(0≤k∧k≤400)∧(0≤o∧o≤400):=by
  have h:=HB.out;simp [shB,inB] at h;omega
 obtain ⟨⟨s0,s1⟩,⟨i0,i1⟩,⟨k0,k1⟩,⟨o0,o1⟩⟩:=hbd;obtain ⟨a,ha⟩:=zN (min s i);obtain ⟨b,hb⟩:=zN (min (s - a) k);obtain ⟨c,hc⟩:=zN (min (s - a - b) o);have a0:0≤a:=by omega
 have a1:a≤400:=by omega
 have b0:0≤b:=by omega
 have b1:b≤400:=by omega
 have c0:0≤c:=by omega
 have c1:c≤400:=by omega
 have as0:a≤s:=by omega
 have abs0:a + b≤s:=by omega
 have HA:=qH ha;have HBB:=qH hb;have HC:=qH hc;have HM:=qH (fun w=>qy s i w);have HN:=qH (fun w=>qy (s - a) k w);have HP:=qH (fun w=>qy (s - a - b) o w);rw [←ha] at HM;rw [←hb] at HN;rw [←hc] at HP;clear ha hb hc;go_wp2_with fail;refine qR (HS0.out _) ?_;go_wp2_with fail;refine qR (HS1.out _) ?_;go_wp2_with fail;refine qR (HS2.out _) ?_;go_wp2_with fail;refine qR (HS3.out _) ?_;go_wp2_with fail;refine qR (HM.out _) ?_;go_wp2_with fail;refine qR (HN.out _) ?_;go_wp2_with fail;refine qR (HP.out _) ?_;by_cases ht:a + b + c < s
 · have HR:=qH (H1.out HB.out _ _ _ HA.out HBB.out HC.out (by omega));clear HA HBB HC;go_wp2_with fail;go_returns;exact ⟨none,0,0,by rw [HR.out];rfl,by rw [HR.out];rfl,by rw [HR.out];exact Arr.nil _ _,(Below.refl _ _)⟩
 · have HR:=qH (H2.out HB.out _ _ _ HA.out HBB.out HC.out (by omega));clear HA HBB HC;go_wp2_with fail;go_returns;exact ⟨_,3,3,by rw [HR.out];rfl,by rw [HR.out];rfl,by rw [HR.out];exact vf _ _ _,zc (Below.refl _ _) _⟩
theorem aU (x:Last) (f:Foot) (HX:Hid (zy x=true)) (HF:Hid (yo f=true)) (w:World):Calls Tryz.prog 78 #[.agg #[.string x.name,.int .i64 x.length,.int .i64 x.b,.int .i64 x.i,.int .i64 x.h,.int .i64 x.p],.agg #[.int .i64 f.length,.int .i64 f.b,.int .i64 f.i,.int .i64 f.h]] w (fb (wG x f) w):=by
 obtain ⟨_,hf,p0,p1⟩:=yP HX.out;obtain ⟨⟨a1,a2⟩,⟨b1,b2⟩,⟨c1,c2⟩,⟨d1,d2⟩⟩:=wE hf;obtain ⟨⟨e1,e2⟩,⟨g1,g2⟩,⟨h1,h2⟩,⟨i1,i2⟩⟩:=wE HF.out;unfold Last.foot at *;dsimp only at *;obtain ⟨gx,hgx⟩:=zN w.heap.size;obtain ⟨gf,hgf⟩:=zN (w.heap.size + 1);obtain ⟨W,hW⟩:=zN ((w.alloc (Obj.cells (cL x) 100)).alloc (Obj.cells (cF f) 27));have hv:Below w.heap.size w W:=by rw [hW];exact zc (zc (Below.refl _ _) _) _
 have HX1:Blk W gx 100 (cL x):=by rw [hW,hgx];exact (Blk.new w _ _).alloc _
 have HF1:Blk W gf 27 (cF f):=by
  have h:=Blk.new (w.alloc (Obj.cells (cL x) 100)) 27 (cF f);rw [World.size_alloc] at h;rw [hW,hgf];exact h
 have k2:W.cell? ⟨gx,2,none⟩=some (.int .i64 x.b):=HX1.cell 2;have k3:W.cell? ⟨gx,3,none⟩=some (.int .i64 x.i):=HX1.cell 3;have k4:W.cell? ⟨gx,4,none⟩=some (.int .i64 x.h):=HX1.cell 4;have q1:W.cell? ⟨gf,1,none⟩=some (.int .i64 f.b):=HF1.cell 1;have q2:W.cell? ⟨gf,2,none⟩=some (.int .i64 f.i):=HF1.cell 2;have q3:W.cell? ⟨gf,3,none⟩=some (.int .i64 f.h):=HF1.cell 3;have r1:IntKind.i64.wrap (f.b - x.b)=f.b - x.b:=IntWalk.i64_in _ (by omega);have r2:IntKind.i64.wrap (f.i - x.i)=f.i - x.i:=IntWalk.i64_in _ (by omega);have r3:IntKind.i64.wrap (f.h - x.h)=f.h - x.h:=IntWalk.i64_in _ (by omega);have hN:=qH (show wG x f=[max (f.b - x.b) 0,max (f.i - x.i) 0,max (f.h - x.h) 0] from rfl);obtain ⟨n1,hn1⟩:=zN (max (f.b - x.b) 0);obtain ⟨n2,hn2⟩:=zN (max (f.i - x.i) 0);obtain ⟨n3,hn3⟩:=zN (max (f.h - x.h) 0);rw [←hn1,←hn2,←hn3] at hN;have s1:max (f.b - x.b) 0=n1:=hn1.symm;have s2:max (f.i - x.i) 0=n2:=hn2.symm;have s3:max (f.h - x.h) 0=n3:=hn3.symm;have HW:=qH hW;have G1:=qH hgx;have G2:=qH hgf;clear hW hgx hgf HX1 HF1 hn1 hn2 hn3;go_enter Tryz.func78,Tryz.ntmps78;go_upto_region 1 with fail;rw [←HW.out,←G2.out,←G1.out];clear HW G1 G2;go_wp2_with fail;go_returns;exact ⟨_,3,3,rfl,by rw [hN.out];rfl,by rw [hN.out];exact vf _ _ _,zc hv _⟩
def ChgN (w:World):Prop:=∀ k:Nat,k≤5→w.cell? ⟨1,k,none⟩=some (.string (chW k))
theorem ChgN.below {w w':World} (h:ChgN w) (hb:Below w.heap.size w w'):ChgN w':=fun k hk=>zb hb (h k hk)
theorem bU (k:Int):(chW k).size≤6:=by
 unfold chW
 repeat' split
 all_goals decide
theorem lR (k a:Int) (w:World) (hT:Pow10 w) (hN:ChgN w):Calls Tryz.prog 134 #[.agg #[.int .i64 k,.int .i64 a]] w (Ret (.string (chT k a)) w):=by
 have HT:=qH hT;have HN:=qH hN;have HV:=fun w=>qV k a w;have HTX:Hid (chT k a=if xg k a=true then (if 0 < a then ((chW k ++ ⟨#[32,43]⟩) ++ zm a) else ((chW k ++ ⟨#[32]⟩) ++ zm a)) else ⟨#[]⟩):=qH rfl;have hbd:=fun h=>uK (k:=k) (a:=a) h;obtain ⟨b,hb⟩:=zN (xg k a);rw [←hb] at HV HTX hbd;have HVV:=qH HV;have HBD:=qH hbd;clear hb HV hT hN hbd;obtain ⟨W,hW⟩:=zN (w.alloc (Obj.cells #[.int .i64 k,.int .i64 a] 126));obtain ⟨g,hg⟩:=zN w.heap.size;have hv:Below w.heap.size w W:=by rw [hW];exact zc (Below.refl _ _) _
 have HB:Hid (Blk W g 126 #[.int .i64 k,.int .i64 a]):=qH (by rw [hW,hg];exact Blk.new _ _ _);have HW:=qH hW;have HG:=qH hg;clear hW hg;go_enter Tryz.func134,Tryz.ntmps134;go_upto_region 1 with fail;rw [←HW.out,←HG.out];clear HW HG;go_wp2_with (refine yL g HB.out Tryz.underlying126 ?_)
 refine qS (HVV.out _) fun W1 hb=>?_;replace HB:=qH (HB.out.below hb);replace hv:=za hv hb;clear hb HVV;cases b
 · go_wp2_with fail;go_returns;exact Ret.mk (vs (by rw [HTX.out];rfl)) hv
 obtain ⟨h1,h5,h0,ha,hb⟩:=HBD.out rfl;obtain ⟨j,hj⟩:∃ j:Nat,k=(j:Int):=⟨k.toNat,by omega⟩
 have hj0:(0:Int)≤(j:Int):=by omega
 have hj6:(j:Int) < 6:=by omega
 have k0:W1.cell? ⟨g,0,none⟩=some (.int .i64 (j:Int)):=by rw [←hj];exact HB.out.cell 0
 have k1:W1.cell? ⟨g,1,none⟩=some (.int .i64 a):=HB.out.cell 1;have n0:W1.cell? ⟨1,j,none⟩=some (.string (chW k)):=by rw [hj];exact (HN.out.below hv) j (by omega)
 have HT1:=qH (HT.out.below hv);have D1:=qH (fun w h=>xo a (by omega) (by omega) w h);have z1:=bU k;have z2:=xd (v:=a) (by omega) (by omega);obtain ⟨d,hd⟩:=zN (zm a);obtain ⟨nm,hnm⟩:=zN (chW k);rw [←hd] at D1 HTX z2;rw [←hnm] at n0 HTX z1;have l1:(⟨#[32,43]⟩:ByteArray).size=2:=rfl;have l2:(⟨#[32]⟩:ByteArray).size=1:=rfl;have s1:=fun (w:World)=>run_string_add_sum (P:=Tryz.prog) w nm ⟨#[32,43]⟩ (by omega);have s2:=fun (w:World)=>run_string_add_sum (P:=Tryz.prog) w nm ⟨#[32]⟩ (by omega);have s3:=fun (w:World)=>run_string_add_sum (P:=Tryz.prog) w (nm ++ ⟨#[32,43]⟩) d (by simp only [zu];omega);have s4:=fun (w:World)=>run_string_add_sum (P:=Tryz.prog) w (nm ++ ⟨#[32]⟩) d (by simp only [zu];omega);clear hd hnm z1 z2 l1 l2 HB hj HBD h1 h5 ha hb;by_cases hp:0 < a
 · skip
   have HE:=qH (show chT k a=(nm ++ ⟨#[32,43]⟩) ++ d by rw [HTX.out];simp [hp]);go_upto_region 4 with fail;refine zH (fun w'=>Below W1.heap.size W1 w'∧True) ?_ (fun hHeld=>?_)
   · exact ⟨(Below.refl _ _).drew,trivial⟩
   have hd9:=hHeld.1;refine zU 0 11 ?_;refine zT 1 12 rfl (fun w hSw=>by
    have x_k0:=zb hSw.1 k0;go_simp;try with_reducible rfl) ?_
   refine zU 2 13 ?_;refine zT 3 14 rfl (fun w hSw=>by
    have x_n0:=zb hSw.1 n0;go_simp;try with_reducible rfl) ?_
   refine zU 4 15 ?_;refine zU 5 16 ?_;refine zT 6 17 rfl (fun w hSw=>by
    have x_k1:=zb hSw.1 k1;go_simp;try with_reducible rfl) ?_
   refine zR 7 (some 18) rfl (fun K hK=>?_);go_simp;go_split_ands;refine qS (D1.out _ (HT1.out.below hd9)) fun V1 hb9=>?_;replace hd9:=za hd9 hb9;clear hb9;go_wp2_with fail;refine zK hK ⟨hd9,trivial⟩ (fun hHeld=>?_);clear hK K;refine zU 8 19 ?_;refine zU 9 2 ?_;refine zD ?_;clear hHeld;replace hv:=za hv hd9;go_wp2_with fail;go_returns;exact Ret.mk (vs HE.out.symm) hv
 · skip
   have HE:=qH (show chT k a=(nm ++ ⟨#[32]⟩) ++ d by rw [HTX.out];simp [hp]);go_upto_region 5 with fail;refine zH (fun w'=>Below W1.heap.size W1 w'∧True) ?_ (fun hHeld=>?_)
   · exact ⟨(Below.refl _ _).drew,trivial⟩
   have hd9:=hHeld.1;refine zU 0 20 ?_;refine zT 1 21 rfl (fun w hSw=>by
    have x_k0:=zb hSw.1 k0;go_simp;try with_reducible rfl) ?_
   refine zU 2 22 ?_;refine zT 3 23 rfl (fun w hSw=>by
    have x_n0:=zb hSw.1 n0;go_simp;try with_reducible rfl) ?_
   refine zU 4 24 ?_;refine zU 5 25 ?_;refine zT 6 26 rfl (fun w hSw=>by
    have x_k1:=zb hSw.1 k1;go_simp;try with_reducible rfl) ?_
   refine zR 7 (some 27) rfl (fun K hK=>?_);go_simp;go_split_ands;refine qS (D1.out _ (HT1.out.below hd9)) fun V1 hb9=>?_;replace hd9:=za hd9 hb9;clear hb9;go_wp2_with fail;refine zK hK ⟨hd9,trivial⟩ (fun hHeld=>?_);clear hK K;refine zU 8 28 ?_;refine zU 9 2 ?_;refine zD ?_;clear hHeld;replace hv:=za hv hd9;go_wp2_with fail;go_returns;exact Ret.mk (vs HE.out.symm) hv
theorem tf {s:ByteArray} (h:xk s=none):tP (xk s)=#[.agg #[.int .i64 0,.int .i64 0,.int .i64 0,.int .i64 0],.bool false]:=by rw [h];rfl
theorem nJ {s:ByteArray} {f:Foot} (h:xk s=some f):tP (xk s)=#[.agg #[.int .i64 f.length,.int .i64 f.b,.int .i64 f.i,.int .i64 f.h],.bool true]:=by rw [h];rfl
theorem ra {L:List ByteArray} (h:L.length=4):∃ a b c d,L=[a,b,c,d]:=by
 match L,h with
 | [a,b,c,d],_=>exact ⟨a,b,c,d,rfl⟩
theorem nb (s:ByteArray) (hs:s.size≤4194304) (w:World) (hT:Tabs w):Calls Tryz.prog 70 #[.string s] w (RetT (tP (xk s)) w):=by
 have HT:=qH hT;have HRN:=qH (fun w h=>lI s hs w h);clear hT;obtain ⟨W,hW⟩:=zN (w.alloc (Obj.cells cG 27));obtain ⟨g,hg⟩:=zN w.heap.size;have hv:Below w.heap.size w W:=by rw [hW];exact zc (Below.refl _ _) _
 have HB:Hid (Blk W g 27 cG):=qH (by rw [hW,hg];exact Blk.new _ _ _);have hgw:w.heap.size≤g:=by omega
 have HW:=qH hW;have HG:=qH hg;clear hW hg;go_enter Tryz.func70,Tryz.ntmps70;go_upto_region 1 with fail;rw [←HW.out,←HG.out];clear HW HG;go_wp2_with fail;refine (HRN.out _ (HT.out.below hv)).mono ?_;rintro e W1 ⟨A,m,c,ok,rfl,hok,hA,hb⟩;replace HB:=qH (HB.out.below hb);replace hv:=za hv hb;clear hb;have HA:=qH hA;clear hA HRN;cases ok
 case false=>
  have HR:=qH (tf (s:=s) (by
   by_cases h4:(zi 47 s).length=4
   · obtain ⟨a,b,c',d,hL⟩:=ra h4;rw [h4,decide_eq_true rfl,Bool.true_and,hL] at hok;have h2:(okB a && okB b && okB c' && okB d)=false:=by rw [hok];simp [ui,Bool.and_assoc]
     rw [pH hL,h2];rfl
   · exact nN h4))
  clear hok HA;go_wp2_with (refine yS g cG HB.out ?_)
  have hF:Blk (World.setRow W1 g cG) g 27 cG:=setRow_heap _ _ _ _ _ _ HB.out;have hbF:=zF hv hgw cG;obtain ⟨WF,hWF⟩:=zN (World.setRow W1 g cG);rw [←hWF] at hF hbF ⊢;clear hWF;obtain ⟨m0,m1,m2,m3⟩:=qC4 hF;go_wp2_with fail;try simp only [Exit.inBlock,Exit.then]
  refine bodyPost_ret (v:=.tuple #[.agg #[.int .i64 0,.int .i64 0,.int .i64 0,.int .i64 0],.bool false]) (by simp [results,Tryz.results70,go_sem,m0,m1,m2,m3]) rfl ?_;exact RetT.mk (HR.out).symm hbF
 case true=>
 have h4:(zi 47 s).length=4∧ui (zi 47 s)=true:=by
  have h:=hok.symm;rw [Bool.and_eq_true,decide_eq_true_eq] at h;exact h
 obtain ⟨rfl,hA4⟩:=HA.out rfl;obtain ⟨a,b,c',d,hL⟩:=ra h4.1;have hall:=h4.2;rw [hL] at hall hA4;have hk:okB a=true∧okB b=true∧okB c'=true∧okB d=true:=by
  simp [ui] at hall;exact hall
 obtain ⟨ka,kb,kc,kd⟩:=hk;have HE:=qH (zbS hL ka kb kc kd);have HR4:=qH (pH hL);have HKK:=qH (show (okB a && okB b && okB c' && okB d)=true by rw [ka,kb,kc,kd];rfl);have HA4:Hid (Arr W1 A (zd zp [zq a,zq b,zq c',zq d])):=qH hA4;obtain ⟨f,hf⟩:=zN (mkF a b c' d);have HOF:=qH (fun w h=>au A (zq a) (zq b) (zq c') (zq d) c w h);have HOF2:Hid (∀ w,Arr w A (zd zp [zq a,zq b,zq c',zq d])→Calls Tryz.prog 26 #[.slice A 4 c] w (Ret (.agg #[.int .i64 f.length,.int .i64 f.b,.int .i64 f.i,.int .i64 f.h]) w)):=qH (by rw [hf];exact HOF.out);rw [←hf] at HE HR4;have HFT:=qH (fun w h=>om f w h);obtain ⟨u,hu⟩:=zN (ftB f);rw [←hu] at HE HFT;have hbb:(u.toList == s.toList)=yo f:=by rw [yJ];exact HE.out
 clear HOF HA hok h4 hL hall hA4 ka kb kc kd hf hu HE;go_wp2_with fail;refine qS (HOF2.out _ HA4.out) fun W2 hb=>?_;replace HA4:=qH (HA4.out.below hb);replace HB:=qH (HB.out.below hb);replace hv:=za hv hb;clear hb;go_wp2_with fail;refine qS (HFT.out _ (HT.out.below hv)) fun W3 hb=>?_;replace HA4:=qH (HA4.out.below hb);replace HB:=qH (HB.out.below hb);replace hv:=za hv hb;clear hb;cases hq:yo f
 · have HR:=qH (tf (s:=s) (by rw [HR4.out,HKK.out,hq];rfl));rw [hq] at hbb;clear hq;go_wp2_with (refine yS g cG HB.out ?_)
   have hF:Blk (World.setRow W3 g cG) g 27 cG:=setRow_heap _ _ _ _ _ _ HB.out;have hbF:=zF hv hgw cG;obtain ⟨WF,hWF⟩:=zN (World.setRow W3 g cG);rw [←hWF] at hF hbF ⊢;clear hWF;obtain ⟨m0,m1,m2,m3⟩:=qC4 hF;go_wp2_with fail;(try simp only [Exit.inBlock,Exit.then]);refine bodyPost_ret (v:=.tuple #[.agg #[.int .i64 0,.int .i64 0,.int .i64 0,.int .i64 0],.bool false]) (by simp [results,Tryz.results70,go_sem,m0,m1,m2,m3]) rfl ?_;exact RetT.mk (HR.out).symm hbF
 have HR:=qH (nJ (s:=s) (f:=f) (by rw [HR4.out,HKK.out,hq];rfl));rw [hq] at hbb;clear hq;go_wp2_with fail;refine qS (HOF2.out _ HA4.out) fun W4 hb=>?_;replace HB:=qH (HB.out.below hb);replace hv:=za hv hb;clear hb;go_wp2_with (refine yS g (cF f) HB.out ?_)
 have hF:Blk (World.setRow W4 g (cF f)) g 27 (cF f):=setRow_heap _ _ _ _ _ _ HB.out;have hbF:=zF hv hgw (cF f);obtain ⟨WF,hWF⟩:=zN (World.setRow W4 g (cF f));rw [←hWF] at hF hbF ⊢;clear hWF;obtain ⟨m0,m1,m2,m3⟩:=qC4 hF;go_wp2_with fail;try simp only [Exit.inBlock,Exit.then]
 refine bodyPost_ret (v:=.tuple #[.agg #[.int .i64 f.length,.int .i64 f.b,.int .i64 f.i,.int .i64 f.h],.bool true]) (by simp [results,Tryz.results70,go_sem,m0,m1,m2,m3]) rfl ?_;exact RetT.mk (HR.out).symm hbF
theorem oq (s:ByteArray) (hs:s.size≤4194304) (w:World):Calls Tryz.prog 168 #[.string s] w (RetT (tP (xk s)) w):=by
 obtain ⟨i0,hi0,hz0,hz1,hz2⟩:=info_parts (P:=Tryz.prog) (e:=2) (z:=.int .i64 0) (size:=1) (bytes:=8) qp;have HSP:=qH (fun w=>wQ 47 s hs w);have hyz:Hid (∀ y ∈ zi 47 s,y.size≤s.size):=qH (fun y hy=>wj (c:=47) hy);have hno:=@nN s;have h4f:=@ra (zi 47 s);have h4r:=fun a b c d=>@pH s a b c d;obtain ⟨L,hL⟩:=zN (zi 47 s);rw [←hL] at HSP hyz hno h4f h4r;have HNO:=qH hno;have H4F:=qH h4f;have H4R:=qH h4r;obtain ⟨n,hn⟩:=zN L.length;rw [←hn] at HSP;have HN:=qH hn.symm;clear hL hno h4f h4r hn;obtain ⟨W,hW⟩:=zN (w.alloc (Obj.cells cG 27));obtain ⟨g,hg⟩:=zN w.heap.size;have hv:Below w.heap.size w W:=by rw [hW];exact zc (Below.refl _ _) _
 have HB:Hid (Blk W g 27 cG):=qH (by rw [hW,hg];exact Blk.new _ _ _);have hgw:w.heap.size≤g:=by omega
 have HW:=qH hW;have HG:=qH hg;clear hW hg;go_enter Tryz.func168,Tryz.ntmps168;go_upto_region 1 with fail;rw [←HW.out,←HG.out];clear HW HG;go_wp2_with fail;refine (HSP.out _).mono ?_;rintro e W1 ⟨A,c,rfl,ho,hb⟩;have HA:Hid (Arr W1 A (zd zn L)):=qH (by rw [yH];exact Arr.own ho);clear ho HSP;replace HB:=qH (HB.out.below hb);replace hv:=za hv hb;clear hb;by_cases hm4:n=4
 case neg=>
  have hne:((n:Int) != 4)=true:=by rw [bne_iff_ne];omega
  have HR:=qH (tf (HNO.out (fun h=>hm4 (HN.out.symm.trans h))));go_wp2_with (refine yS g cG HB.out ?_)
  have hF:Blk (World.setRow W1 g cG) g 27 cG:=setRow_heap _ _ _ _ _ _ HB.out;have hbF:=zF hv hgw cG;obtain ⟨WF,hWF⟩:=zN (World.setRow W1 g cG);rw [←hWF] at hF hbF ⊢;clear hWF;obtain ⟨m0,m1,m2,m3⟩:=qC4 hF;go_wp2_with fail;try simp only [Exit.inBlock,Exit.then]
  refine bodyPost_ret (v:=.tuple #[.agg #[.int .i64 0,.int .i64 0,.int .i64 0,.int .i64 0],.bool false]) (by simp [results,Tryz.results168,go_sem,m0,m1,m2,m3]) rfl ?_;exact RetT.mk (HR.out).symm hbF
 subst hm4;have hO0:=zG W1 W1.heap.size 2 1 (Nat.le_refl _);have hv1:=zc (Below.refl W1.heap.size W1) (.cells #[] 2);go_wp2_with fail
 go_loopw [5,6] (fun v i wr=>∃ (j:Nat) (A':Option Addr) (c':Nat),i=.int .i64 j∧v=.slice A' j c'∧j≤4∧Hid (ui (L.take j)=true)∧Hid (wr.ownsRow W1.heap.size 2 1 (.slice A' j c') j (zd zp (pV (L.take j))))∧Below W1.heap.size W1 wr) (fun _ i _=>4 - (intOf i).toNat)
 case atStart=>exact ⟨0,_,_,rfl,rfl,by omega,qH rfl,qH hO0,hv1⟩
 case round=>
 clear hO0 hv1;obtain ⟨j,A',c',rfl,rfl,hj,HK,HO,hb⟩:=hrel;have hi0':(0:Int)≤(j:Int):=by omega
 by_cases hlt:j < 4
 case pos=>
  have hi1:(j:Int) < 4:=by omega
  obtain ⟨y,hy⟩:=zx (xs:=L) (k:=j) (by rw [HN.out];exact hlt);obtain ⟨bd,hbd,hbb,d0⟩:=zj (HA.out.below hb) hy;subst hbd;have hys:=hyz.out y (List.mem_of_getElem? hy);have HY:=qH hy;have HRD:=fun w=>xl y (by omega) w;change ∀ w,Calls Tryz.prog 156 #[.string y] w (RetT #[.int .i64 (zq y),.bool (okB y)] w) at HRD;obtain ⟨q,hq⟩:=zN (zq y);rw [←hq] at HRD;have HQ:=qH hq;have HZ:=qH HRD;clear hy hq HRD;go_wp2_with fail;refine qS (HZ.out _) fun W2 hb2=>?_;replace HO:=qH (ze HO.out hb2);replace hb:=za hb hb2;clear hb2 HZ d0;cases ho:okB y
  case false=>
   obtain ⟨a1,a2,a3,a4,hL⟩:=H4F.out HN.out;have HR:=qH (tf (s:=s) (by
    have h0:=jW HY.out ho;rw [hL] at h0;have h2:(okB a1 && okB a2 && okB a3 && okB a4)=false:=by rw [←h0];simp [ui,Bool.and_assoc]
    rw [H4R.out a1 a2 a3 a4 hL,h2];rfl))
   replace HB:=qH (HB.out.below hb);replace hv:=za hv hb;clear ho hL;go_wp2_with (refine yS g cG HB.out ?_)
   have hF:Blk (World.setRow W2 g cG) g 27 cG:=setRow_heap _ _ _ _ _ _ HB.out;have hbF:=zF hv hgw cG;obtain ⟨WF,hWF⟩:=zN (World.setRow W2 g cG);rw [←hWF] at hF hbF ⊢;clear hWF;obtain ⟨m0,m1,m2,m3⟩:=qC4 hF;go_wp2_with fail;(try simp only [Exit.inBlock,Exit.then]);refine bodyPost_ret (v:=.tuple #[.agg #[.int .i64 0,.int .i64 0,.int .i64 0,.int .i64 0],.bool false]) (by simp [results,Tryz.results168,go_sem,m0,m1,m2,m3]) rfl ?_;exact RetT.mk (HR.out).symm hbF
  have HB2:=qH (mC HY.out HK.out ho);clear ho;go_wp2_with (at_builtin;refine xp W2 #[.int .i64 q] rfl _ _ 58 2 rfl i0 _ 1 8 Tryz.underlying58 hi0 hz0 hz1 hz2 rfl (by omega) W1.heap.size (.slice A' j c') j _ rfl rfl HO.out rfl (by simp [Value.oneCell']) (by unfold maxLen;omega) (by omega) hb.size ?_;intro A2 c2 w2 hown2 hg3)
  have hr:=zl HO.out;exact ⟨⟨j + 1,A2,c2,by go_num,rfl,by omega,HB2,qH (by rw [nI HY.out,←HQ.out];exact hown2),zh hb hg3 hr⟩,by simp [intOf];omega⟩
 case neg=>
 obtain rfl:j=4:=by omega
 obtain ⟨a,b,c',d,hL⟩:=H4F.out HN.out;have htk:L.take 4=[a,b,c',d]:=by rw [hL];rfl
 rw [htk] at HK HO;have hkk:(okB a && okB b && okB c' && okB d)=true:=by rw [←HK.out];simp [ui,Bool.and_assoc]
 have HKK:=qH hkk;have HR4:=qH (H4R.out a b c' d hL);have HA4:Hid (Arr wr A' (zd zp [zq a,zq b,zq c',zq d])):=qH (Arr.own HO.out);obtain ⟨f,hf⟩:=zN (mkF a b c' d);have HOF:=qH (fun k w h=>zbf A' (zq a) (zq b) (zq c') (zq d) k w h);have HOF2:Hid (∀ k w,Arr w A' (zd zp [zq a,zq b,zq c',zq d])→Calls Tryz.prog 235 #[.slice A' 4 k] w (Ret (.agg #[.int .i64 f.length,.int .i64 f.b,.int .i64 f.i,.int .i64 f.h]) w)):=qH (by rw [hf];exact HOF.out);rw [←hf] at HR4;have HFT:=qH (fun w=>po f w);replace HB:=qH (HB.out.below hb);replace hv:=za hv hb;clear hkk hL htk HOF hf hb HO HK;go_wp2_with fail;refine qS (HOF2.out _ _ HA4.out) fun W2 hb=>?_;replace HA4:=qH (HA4.out.below hb);replace HB:=qH (HB.out.below hb);replace hv:=za hv hb;clear hb;go_wp2_with fail;refine qS (HFT.out _) fun W3 hb=>?_;replace HA4:=qH (HA4.out.below hb);replace HB:=qH (HB.out.below hb);replace hv:=za hv hb;clear hb;cases hq:yo f
 · have HR:=qH (tf (s:=s) (by rw [HR4.out,HKK.out,hq];rfl));clear hq;go_wp2_with (refine yS g cG HB.out ?_)
   have hF:Blk (World.setRow W3 g cG) g 27 cG:=setRow_heap _ _ _ _ _ _ HB.out;have hbF:=zF hv hgw cG;obtain ⟨WF,hWF⟩:=zN (World.setRow W3 g cG);rw [←hWF] at hF hbF ⊢;clear hWF;obtain ⟨m0,m1,m2,m3⟩:=qC4 hF;go_wp2_with fail;(try simp only [Exit.inBlock,Exit.then]);refine bodyPost_ret (v:=.tuple #[.agg #[.int .i64 0,.int .i64 0,.int .i64 0,.int .i64 0],.bool false]) (by simp [results,Tryz.results168,go_sem,m0,m1,m2,m3]) rfl ?_;exact RetT.mk (HR.out).symm hbF
 have HR:=qH (nJ (s:=s) (f:=f) (by rw [HR4.out,HKK.out,hq];rfl));clear hq;go_wp2_with fail;refine qS (HOF2.out _ _ HA4.out) fun W4 hb=>?_;replace HB:=qH (HB.out.below hb);replace hv:=za hv hb;clear hb;go_wp2_with (refine yS g (cF f) HB.out ?_)
 have hF:Blk (World.setRow W4 g (cF f)) g 27 (cF f):=setRow_heap _ _ _ _ _ _ HB.out;have hbF:=zF hv hgw (cF f);obtain ⟨WF,hWF⟩:=zN (World.setRow W4 g (cF f));rw [←hWF] at hF hbF ⊢;clear hWF;obtain ⟨m0,m1,m2,m3⟩:=qC4 hF;go_wp2_with fail;try simp only [Exit.inBlock,Exit.then]
 refine bodyPost_ret (v:=.tuple #[.agg #[.int .i64 f.length,.int .i64 f.b,.int .i64 f.i,.int .i64 f.h],.bool true]) (by simp [results,Tryz.results168,go_sem,m0,m1,m2,m3]) rfl ?_;exact RetT.mk (HR.out).symm hbF
end Go.Proofs.YtpiehlfffjhoaaaGreatDoor
