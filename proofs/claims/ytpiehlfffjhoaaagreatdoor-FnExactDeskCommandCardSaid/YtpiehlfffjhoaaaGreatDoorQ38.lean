/- Lemmas for the law on the console: the parts CrQ,CrT. -/
import Derived.Test.YtpiehlfffjhoaaaGreatDoorQ24
namespace Go.Proofs.YtpiehlfffjhoaaaGreatDoor
open Go.RowKit Go.Proofs.Tryz
set_option maxRecDepth 100000
set_option maxHeartbeats 8000000
def vQ(SN:List ByteArray):List Value:=styW.map fun t=>Value.bool (xd t SN)
theorem pT(t u:ByteArray)(SN:List ByteArray):xd t (SN ++ [u])=(xd t SN || decide (u=t)):=by
 unfold xd;rw [List.any_append];simp
theorem mO(t:ByteArray):(yg t = -1/\∀ u ∈ styW,t≠u)\/∃ k:Nat,k < 6/\yg t=(k:Int)/\styW[k]?=some t:=by
 unfold yg;by_cases h0:t=wUpper
 ·exact .inr ⟨0,by omega,by rw [if_pos h0];rfl,by rw [h0];rfl⟩
 rw [if_neg h0];by_cases h1:t=wLining
 ·exact .inr ⟨1,by omega,by rw [if_pos h1];rfl,by rw [h1];rfl⟩
 rw [if_neg h1];by_cases h2:t=wSole
 ·exact .inr ⟨2,by omega,by rw [if_pos h2];rfl,by rw [h2];rfl⟩
 rw [if_neg h2];by_cases h3:t=wHeel
 ·exact .inr ⟨3,by omega,by rw [if_pos h3];rfl,by rw [h3];rfl⟩
 rw [if_neg h3];by_cases h4:t=wEyelets
 ·exact .inr ⟨4,by omega,by rw [if_pos h4];rfl,by rw [h4];rfl⟩
 rw [if_neg h4];by_cases h5:t=wStitch
 ·exact .inr ⟨5,by omega,by rw [if_pos h5];rfl,by rw [h5];rfl⟩
 rw [if_neg h5];refine .inl ⟨rfl,fun u hu=>?_⟩;simp only [styW,List.mem_cons,List.not_mem_nil,or_false] at hu;rcases hu with rfl | rfl | rfl | rfl | rfl | rfl <;> assumption
theorem pk{t:ByteArray}{k:Nat}(SN:List ByteArray)(h:styW[k]?=some t):(vQ SN)[k]?=some (.bool (xd t SN)):=by
 unfold vQ;rw [List.getElem?_map,h];rfl
theorem mu{t:ByteArray}(SN:List ByteArray)(h:∀ u ∈ styW,t≠u):vQ (SN ++ [t])=vQ SN:=by
 unfold vQ;refine List.map_congr_left fun u hu=>?_;rw [pT,decide_eq_false (h u hu),Bool.or_false]
theorem aG{t:ByteArray}{k:Nat}(SN:List ByteArray)(h:styW[k]?=some t):vQ (SN ++ [t])=(vQ SN).set k (Value.bool true):=by
 have hne:∀ j u,styW[j]?=some u->j≠k->t≠u:=by
  have hk:k < 6:=(List.getElem?_eq_some_iff.1 h).1;intro j u hu hj;have hj6:j < 6:=(List.getElem?_eq_some_iff.1 hu).1;have hkk:k=0\/k=1\/k=2\/k=3\/k=4\/k=5:=by omega
  have hjj:j=0\/j=1\/j=2\/j=3\/j=4\/j=5:=by omega
  rcases hkk with rfl | rfl | rfl | rfl | rfl | rfl <;> rcases hjj with rfl | rfl | rfl | rfl | rfl | rfl <;> first | exact absurd rfl hj | (injection h with h;injection hu with hu;subst h;subst hu;decide)
 refine List.ext_getElem? fun j=>?_;rw [List.getElem?_set];have hl:(vQ SN).length=6:=rfl;by_cases hjk:k=j
 ·subst hjk;have hk:k < 6:=(List.getElem?_eq_some_iff.1 h).1;rw [if_pos rfl,if_pos (by rw [hl];exact hk),pk _ h,pT,decide_eq_true rfl,Bool.or_true]
 · rw [if_neg hjk];cases hs:styW[j]? with
   | none=>unfold vQ;rw [List.getElem?_map,List.getElem?_map,hs];rfl
   | some u=>rw [pk _ hs,pk _ hs,pT,decide_eq_false (hne j u hs (fun e=>hjk e.symm)),Bool.or_false]
theorem aw{w:List ByteArray}(h:zE w=0):∃ k:Nat,k < 6/\yg (w.headD ⟨#[]⟩)=(k:Int):=by
 cases w with
 | nil=>exact absurd (show (1:Int)=0 from h) (by decide)
 | cons t r=>
   rcases mO t with ⟨h1,_⟩ | ⟨k,hk,h2,_⟩
   ·simp only [zE,h1] at h;simp at h
   ·exact ⟨k,hk,h2⟩
theorem vP{P:Program}{fn:Func}{p u:Tmp}{ty:TypeId}(h:fn.results=#[.tmp u,.cell p ty])(tmps:Array Value)(w:World)(g:Nat)(t:TypeId)(cs:Array Value)(fr:Nat × Nat)(d:TypeDesc)(hp:tmps.getD p undef=.pointer (some ⟨g,0,none⟩))(hg:w.heap[g]?=some (.cells cs t fr))(hu:P.underlying ty=some d)(hd:(match d with | .struct _ | .array _ _=>true | _=>false)=true)(hi:(P.info? ty).map (·.size)=some cs.size) :
 (results fn tmps).run P w=.ok (.tuple #[tmps.getD u undef,.agg cs]) w:=by
 have hp':tmps[p]?.getD undef=.pointer (some ⟨g,0,none⟩):=by simpa using hp
 simp [results,h,hp',asAddr,Result.andThen,run_loadVar_row w g t ty cs fr d hg hu hd hi]
theorem dn:(prog.info? 4).map (fun i=>(i.zero,i.size,i.bytes))=some (some (.bool false),1,1):=by kernel_rfl
theorem bS(s:ByteArray)(hs:s.size<=1048576)(w:World):Calls prog 240 #[.string s] w (kD s w):=by
 by_cases h3:300 < s.size
 · have hk:xG s=false:=by unfold xG;rw [decide_eq_false (by omega),Bool.false_and]
   have HK:=qH hk;have h4:(300:Int) < (s.size:Int):=by omega
   have h5:decide ((300:Int) < (s.size:Int))=true:=decide_eq_true h4;clear hk;go_in;go_wp2;go_returns;exact ⟨none,0,0,by rw [HK.out];rfl,(fun h=>by rw [HK.out] at h;cases h),Below.refl _ _⟩
 · have HSP:=vx 59 s (by omega) w;have hk:xG s=decide ((zl 59 s).length<=12):=by unfold xG;rw [decide_eq_true (by omega),Bool.true_and]
   have h4:¬ (300:Int) < (s.size:Int):=by omega
   have h5:decide ((300:Int) < (s.size:Int))=false:=decide_eq_false h4;obtain ⟨L,hL⟩:=zN (zl 59 s);obtain ⟨m,hm⟩:=zN L.length;rw [<-hL] at HSP hk;rw [<-hm] at HSP hk;replace HSP:=qH HSP;have HK:=qH hk;have HL:=qH hL.symm;have HM:=qH hm.symm;clear hk hL hm;go_in;go_wp2_with fail;refine HSP.out.mono ?_;rintro e W ⟨A,c,rfl,ho,hb⟩;have HO:=qH ho;clear ho HSP;go_wp2;go_returns;refine ⟨A,m,c,?_,fun _=>⟨by rw [HL.out];exact HM.out,?_⟩,hb⟩
   · rw [HK.out]
     congr 3
     simp;omega
   ·rw [HL.out,xo];exact Arr.own HO.out
def zdt(cl:List ByteArray)(w:World)(e:Ending)(w':World):Prop:=∃ (B:Option Addr) (k kc:Nat) (X:Style),e=.returned (.tuple #[.slice B k kc,.agg #[.string X.u,.string X.c,.string X.l,.string X.s,.int .i64 X.t,.int .i64 X.h,.int .i64 X.e,.int .i64 X.d,.bool X.q]])/\(k=0->tro cl=[]/\X=wG yA cl)/\(k≠0->tro cl≠[])/\Below w.heap.size w w'
theorem du(A:Option Addr)(cl:List ByteArray)(m c:Nat)(hn:Hid (cl.length=m))(hm:m<=1000)(hz:Hid (∀ t ∈ cl,t.size<=4194304))(w:World)(hA:Arr w A (zd zt cl)) :
 Calls prog 241 #[.slice A m c] w (zdt cl w):=by
 obtain ⟨i1,hi1,hq0,hq1,hq2⟩:=info_parts (P:=prog) (e:=235) (z:=.agg #[.int .i64 0,.int .i64 0]) (size:=2) (bytes:=16) bC;obtain ⟨ib,hib,hzb,hsb,hbb⟩:=info_parts (P:=prog) (e:=4) (z:=.bool false) (size:=1) (bytes:=1) dn;have HA:=qH hA;clear hA;obtain ⟨gr,hgr⟩:=zN w.heap.size;obtain ⟨w1,hw1⟩:=zN (w.alloc (Obj.cells cT 30));obtain ⟨g0,hg0⟩:=zN (w.heap.size + 1);obtain ⟨w2,hw2⟩:=zN (w1.alloc (Obj.cells #[] 235));obtain ⟨gx,hgx⟩:=zN w2.heap.size;obtain ⟨w3,hw3⟩:=zN (w2.alloc (Obj.cells cT 30));have hb1:Below w.heap.size w w1:=by rw [hw1];exact zc (Below.refl _ _) _
 have hb2:Below w1.heap.size w1 w2:=by rw [hw2];exact zc (Below.refl _ _) _
 have hb3:Below w2.heap.size w2 w3:=by rw [hw3];exact zc (Below.refl _ _) _
 have hR:Hid (Blk w1 gr 30 cT):=qH (by rw [hw1,hgr];exact Blk.new _ _ _);have HO1:Hid (w2.ownsRow w.heap.size 235 2 (.slice (some ⟨g0,0,none⟩) 0 0) 0 []):=qH (by
  have h1:w1.heap.size=w.heap.size + 1:=by rw [hw1];exact World.size_alloc _ _
  rw [hw2,hg0,<-h1];exact zI w1 w.heap.size 235 2 hb1.size)
 have hX:Hid (Blk w3 gx 30 cT):=qH (by rw [hw3,hgx];exact Blk.new _ _ _);replace hR:=qH ((hR.out.below hb2).below hb3);replace HO1:=qH (ze HO1.out hb3);have hv:=za (za hb1 hb2) hb3;have HL1:=qH (show gr < g0/\g0 < gx/\w.heap.size<=gr by
  have h1:=hR.out.lt;have h2:w1.heap.size=w.heap.size + 1:=by rw [hw1];exact World.size_alloc _ _
  have h3:w2.heap.size=w1.heap.size + 1:=by rw [hw2];exact World.size_alloc _ _
  omega)
 have EW1:=qH hw1;have EW2:=qH hw2;have EW3:=qH hw3;have EG1:=qH hgr;have EG2:=qH hg0;have EG3:=qH hgx;clear hw1 hw2 hw3 hgr hg0 hgx hb1 hb2 hb3;go_in;go_upto_region 2 with fail;rw [<-EW1.out,<-EW2.out,<-EG2.out,<-EG1.out];clear EW1 EW2 EG1 EG2;go_upto_region 3 with (rw [<-EW3.out,<-EG3.out];refine yS gx cT hX.out ?_)
 have hgz:w.heap.size<=gx:=by have:=HL1.out;omega
 have hgxr:gx≠gr:=by have:=HL1.out;omega
 have hgx0:gx≠g0:=by have:=HL1.out;omega
 have hg4:=yl w3 gx cT;have hX4:Blk (World.setRow w3 gx cT) gx 30 cT:=setRow_heap _ _ _ _ _ _ hX.out;have hR4:=hR.out.grown hg4 (fun e=>by injection e with e;omega);have hO4:=HO1.out.kept hg4 (.inr (fun e=>by injection e with e;exact hgx0 e.symm));have hv4:=zg hv hgz cT;obtain ⟨w4,hw4⟩:=zN (World.setRow w3 gx cT);rw [<-hw4] at hX4 hR4 hO4 hv4 |-;clear hw4 hX hR HO1 hv hg4;go_wp2_with fail;refine qS (pu _) fun w5 hq5=>?_;have hb:Below w4.heap.size w4 w5:=by rw [hq5];exact zc (Below.refl _ _) _
 replace hX4:=hX4.below hb;replace hR4:=hR4.below hb;replace hO4:=ze hO4 hb;replace hv4:=za hv4 hb;clear hb hq5;go_wp2_with (at_make;refine wpList_make_full _ rfl _ _ 282 rfl w.heap.size 4 ib _ 1 underlying282 hib hzb hsb _ _ _ _ 6 rfl rfl rfl rfl (by rw [hbb];omega) (by unfold maxLen;omega) hv4.size ?_;intro w6 hlate hg6)
 obtain ⟨gs,hgs⟩:=zN w5.heap.size;rw [<-hgs] at hlate |-;have hX:Hid (Blk w6 gx 30 (cS yA)):=qH (hX4.grown hg6 (by simp));have hR:=qH (hR4.grown hg6 (by simp));have HO1:Hid (w6.ownsRow w.heap.size 235 2 (.slice (some ⟨g0,0,none⟩) 0 0) 0 (zd TroubleP.cells [])):=qH (hO4.kept hg6 (.inr (by simp [Value.ownBlock])));have HS:Hid (w6.ownsRow w.heap.size 4 1 (.slice (some ⟨gs,0,none⟩) 6 6) 6 (vQ ((cl.take 0).map hdW))):=qH (by
  have e6:(madeCells (Value.bool false).cells (6 * 1)).toList=vQ ((cl.take 0).map hdW):=(toList_madeCells_one (.bool false) 6).trans rfl;rw [<-e6];exact hlate)
 have hv:=zi hv4 hg6 (by simp);have hgsx:gs≠gx:=by have:=hX4.lt;omega
 have hgsr:gs≠gr:=by have:=hR4.lt;omega
 have hgs0:g0≠gs:=by have:=yr hO4 g0 rfl;omega
 have hgsw:w.heap.size<=gs:=by rw [hgs];exact hv4.size
 have hgrw:w.heap.size<=gr:=HL1.out.2.2;have hg0r:g0≠gr:=by have:=HL1.out;omega
 clear hX4 hR4 hO4 hv4 hlate hg6 hgs HL1;have HG:=qH (show xz cl [] 0=[] ++ xz (cl.drop 0) ((cl.take 0).map hdW) 0 from rfl);have HSZ:=qH (show gx≠gr/\gs≠gx/\gs≠gr from ⟨hgxr,hgsx,hgsr⟩);go_wp2_with fail
 go_loopw [4,7] (fun ov i wr=>∃ (j k g1 c1:Nat) (ou:List TroubleP) (X:Style),j<=m/\i=.int .i64 j/\ov=.slice (some ⟨g1,0,none⟩) k c1/\g1≠gx/\g1≠gs/\g1≠gr/\k<=j/\Hid (ou.length=k)/\Hid (wr.ownsRow w.heap.size 235 2 (.slice (some ⟨g1,0,none⟩) k c1) k (zd TroubleP.cells ou))/\Hid (Blk wr gx 30 (cS X))/\Hid (Blk wr gr 30 cT)/\Hid (wr.ownsRow w.heap.size 4 1 (.slice (some ⟨gs,0,none⟩) 6 6) 6 (vQ ((cl.take j).map hdW)))/\Hid (xz cl [] 0=ou ++ xz (cl.drop j) ((cl.take j).map hdW) j)/\(k=0->X=wG yA (cl.take j))/\Below w.heap.size w wr) (fun _ i _=>m - (intOf i).toNat)
 case atStart=>exact ⟨0,0,g0,0,[],yA,by omega,rfl,rfl,hgx0.symm,hgs0,hg0r,by omega,qH rfl,HO1,hX,hR,HS,HG,fun _=>rfl,hv⟩
 case round=>
 clear HO1 HG HS hX hR hv hgs0 hgx0 hg0r;obtain ⟨j,k,g1,c1,ou,X,hj,rfl,rfl,h1x,h1s,h1r,hkj,HU,HO1,hX,hR,HS,HG,hXF,hv⟩:=hrel;have HXF:=qH hXF;clear hXF;have hj0:(0:Int)<=(j:Int):=by omega
 by_cases hlt:j < m
 case neg=>
  have hjm:j=m:=by omega
  have HJM:=qH hjm;have hj1:¬ (j:Int) < (m:Int):=by omega
  have htk:cl.take j=cl:=List.take_of_length_le (by rw [hn.out];omega);rw [htk] at HS HXF HG;have HOU:=qH (show xz cl [] 0=ou by
   have h:=HG.out;rw [List.drop_eq_nil_of_le (by rw [hn.out];omega)] at h;simpa [xz] using h)
  obtain ⟨b1,e1⟩:=zN (xd wUpper (cl.map hdW));obtain ⟨b2,e2⟩:=zN (xd wSole (cl.map hdW));have sd0:wr.cell? ⟨gs,0,none⟩=some (.bool b1):=(World.ownsRow.cellAt HS.out 0 (by omega)).trans (by rw [e1];rfl);have sd2:wr.cell? ⟨gs,2,none⟩=some (.bool b2):=(World.ownsRow.cellAt HS.out 2 (by omega)).trans (by rw [e2];rfl);have HTR:=qH (show tro cl=ou ++ (if b1=true/\b2=true then [] else [⟨(cl.length:Int),6⟩]) by
   unfold tro ma;rw [HOU.out,<-e1,<-e2])
  clear e1 e2 htk HG HOU hjm;cases b1
  · have HT2:=qH (HTR.out.trans (by simp:_=ou ++ [⟨(cl.length:Int),6⟩]));clear HTR;go_upto_region 21 with (at_builtin;refine yu wr #[.int .i64 m,.int .i64 6] rfl _ _ 191 235 rfl i1 _ 2 16 underlying191 hi1 hq0 hq1 hq2 rfl (by omega) w.heap.size (some ⟨g1,0,none⟩) k c1 _ rfl _ rfl rfl HO1.out rfl (by simp [Value.oneCell']) (by unfold maxLen;omega) (by omega) hv.size ?_;intro g3 c3 W8 hown3 hg3 hf3)
    have e3:∀ q,q≠g1->some q≠Option.map (fun x:Addr=>x.block) (some (⟨g1,0,none⟩:Addr)):=fun q h1 h2=>by injection h2 with h2;exact h1 h2
    have HX3:=qH (hX.out.grown hg3 (e3 gx (by omega)));have HR3:=qH (hR.out.grown hg3 (e3 gr (by omega)));have hv3:=zi hv hg3 (fun k e=>by injection e with e;subst e;exact zn HO1.out g1 rfl);clear hown3 hg3 hf3 sd0 sd2;refine zH (fun w'=>Below w.heap.size w w'/\Blk w' gx 30 (cS X)) ?_ (fun hHeld=>?_)
    ·exact ⟨hv3.drew,HX3.out.below (Below.refl _ _).drew⟩
    refine zU 0 75 ?_;refine zT 1 76 rfl (fun w hSw=>by
     have x_q0:=yc0 hSw.2;have x_q1:=yc1 hSw.2;have x_q2:=yc2 hSw.2;have x_q3:=yc3 hSw.2;have x_q4:=yc4 hSw.2;have x_q5:=yc5 hSw.2;have x_q6:=yc6 hSw.2;have x_q7:=yc7 hSw.2;have x_q8:=yc8 hSw.2;go_simp;try with_reducible rfl) ?_
    refine zU 2 2 ?_;have hd9:=hHeld.1;have hd8:=hHeld.2;refine zR 3 none rfl (fun K hK=>?_)
    skip
    go_split_ands;refine wp_store_row 30 _ _ rfl gr (cS X) rfl rfl 30 cT (HR3.out.below (Below.refl _ _).drew) (by kernel_rfl) rfl (by simp [Value.oneCell']) ?_;have hd7:=zg hd9 hgrw (cS X);have hd6:=hd8.grown (yl _ gr (cS X)) (fun e=>by injection e with e;exact hgxr e);refine hK.out _ _ ?_ (fun hHeld=>?_)
    ·(try dsimp only);go_split_ands;exact ⟨hd7,hd6⟩
    clear hK K;(try simp only [Act.put]);refine zD ?_;have hfin:=hHeld.1;clear hHeld;go_wp2_with fail;refine bodyPost_ret (vP (P:=prog) rfl _ _ gr 30 _ (0,0) _ rfl (setRow_heap _ _ _ _ _ _ (HR3.out.below (Below.refl _ _).drew)) underlying30 rfl (by kernel_rfl)) rfl ?_;exact ⟨_,k + 1,_,X,rfl,fun h=>absurd h (by omega),fun _=>by rw [HT2.out];simp,hfin⟩
  · cases b2
    · have HT2:=qH (HTR.out.trans (by simp:_=ou ++ [⟨(cl.length:Int),6⟩]));clear HTR;go_upto_region 21 with (at_builtin;refine yu wr #[.int .i64 m,.int .i64 6] rfl _ _ 191 235 rfl i1 _ 2 16 underlying191 hi1 hq0 hq1 hq2 rfl (by omega) w.heap.size (some ⟨g1,0,none⟩) k c1 _ rfl _ rfl rfl HO1.out rfl (by simp [Value.oneCell']) (by unfold maxLen;omega) (by omega) hv.size ?_;intro g3 c3 W8 hown3 hg3 hf3)
      have e3:∀ q,q≠g1->some q≠Option.map (fun x:Addr=>x.block) (some (⟨g1,0,none⟩:Addr)):=fun q h1 h2=>by injection h2 with h2;exact h1 h2
      have HX3:=qH (hX.out.grown hg3 (e3 gx (by omega)));have HR3:=qH (hR.out.grown hg3 (e3 gr (by omega)));have hv3:=zi hv hg3 (fun k e=>by injection e with e;subst e;exact zn HO1.out g1 rfl);clear hown3 hg3 hf3 sd0 sd2;refine zH (fun w'=>Below w.heap.size w w'/\Blk w' gx 30 (cS X)) ?_ (fun hHeld=>?_)
      ·exact ⟨hv3.drew,HX3.out.below (Below.refl _ _).drew⟩
      refine zU 0 75 ?_;refine zT 1 76 rfl (fun w hSw=>by
       have x_q0:=yc0 hSw.2;have x_q1:=yc1 hSw.2;have x_q2:=yc2 hSw.2;have x_q3:=yc3 hSw.2;have x_q4:=yc4 hSw.2;have x_q5:=yc5 hSw.2;have x_q6:=yc6 hSw.2;have x_q7:=yc7 hSw.2;have x_q8:=yc8 hSw.2;go_simp;try with_reducible rfl) ?_
      refine zU 2 2 ?_;have hd9:=hHeld.1;have hd8:=hHeld.2;refine zR 3 none rfl (fun K hK=>?_)
      skip
      go_split_ands;refine wp_store_row 30 _ _ rfl gr (cS X) rfl rfl 30 cT (HR3.out.below (Below.refl _ _).drew) (by kernel_rfl) rfl (by simp [Value.oneCell']) ?_;have hd7:=zg hd9 hgrw (cS X);have hd6:=hd8.grown (yl _ gr (cS X)) (fun e=>by injection e with e;exact hgxr e);refine hK.out _ _ ?_ (fun hHeld=>?_)
      ·(try dsimp only);go_split_ands;exact ⟨hd7,hd6⟩
      clear hK K;(try simp only [Act.put]);refine zD ?_;have hfin:=hHeld.1;clear hHeld;go_wp2_with fail;refine bodyPost_ret (vP (P:=prog) rfl _ _ gr 30 _ (0,0) _ rfl (setRow_heap _ _ _ _ _ _ (HR3.out.below (Below.refl _ _).drew)) underlying30 rfl (by kernel_rfl)) rfl ?_;exact ⟨_,k + 1,_,X,rfl,fun h=>absurd h (by omega),fun _=>by rw [HT2.out];simp,hfin⟩
    · have HT2:=qH (HTR.out.trans (by simp:_=ou));clear HTR;go_upto_region 21 with fail;refine zH (fun w'=>Below w.heap.size w w'/\Blk w' gx 30 (cS X)) ?_ (fun hHeld=>?_)
      ·exact ⟨hv.drew,hX.out.below (Below.refl _ _).drew⟩
      refine zU 0 75 ?_;refine zT 1 76 rfl (fun w hSw=>by
       have x_q0:=yc0 hSw.2;have x_q1:=yc1 hSw.2;have x_q2:=yc2 hSw.2;have x_q3:=yc3 hSw.2;have x_q4:=yc4 hSw.2;have x_q5:=yc5 hSw.2;have x_q6:=yc6 hSw.2;have x_q7:=yc7 hSw.2;have x_q8:=yc8 hSw.2;go_simp;try with_reducible rfl) ?_
      refine zU 2 2 ?_;have hd9:=hHeld.1;have hd8:=hHeld.2;refine zR 3 none rfl (fun K hK=>?_)
      skip
      go_split_ands;refine wp_store_row 30 _ _ rfl gr (cS X) rfl rfl 30 cT (hR.out.below (Below.refl _ _).drew) (by kernel_rfl) rfl (by simp [Value.oneCell']) ?_;have hd7:=zg hd9 hgrw (cS X);have hd6:=hd8.grown (yl _ gr (cS X)) (fun e=>by injection e with e;exact hgxr e);refine hK.out _ _ ?_ (fun hHeld=>?_)
      ·(try dsimp only);go_split_ands;exact ⟨hd7,hd6⟩
      clear hK K;(try simp only [Act.put]);refine zD ?_;have hfin:=hHeld.1;clear hHeld;go_wp2_with fail;refine bodyPost_ret (vP (P:=prog) rfl _ _ gr 30 _ (0,0) _ rfl (setRow_heap _ _ _ _ _ _ (hR.out.below (Below.refl _ _).drew)) underlying30 rfl (by kernel_rfl)) rfl ?_;exact ⟨_,k,_,X,rfl,fun h=>⟨by rw [HT2.out];exact List.eq_nil_of_length_eq_zero (by rw [HU.out];exact h),HXF.out h⟩,fun h=>by rw [HT2.out];intro e;have:=HU.out;rw [e] at this;exact h this.symm,hfin⟩
 case pos=>
 have hj1:(j:Int) < (m:Int):=by omega
 obtain ⟨t,ht⟩:=zx (xs:=cl) (k:=j) (by rw [hn.out];exact hlt);obtain ⟨ad,rfl,_,c0⟩:=zh (HA.out.below hv) ht;have hts:=hz.out t (List.mem_of_getElem? ht);have HSW:=qH (fun w=>tN t hts w);have HGX:=HG.out.trans (by rw [mD ht]);have hcd:um t ((cl.take j).map hdW)=if zE (zP t)=0/\xd (hdW t) ((cl.take j).map hdW)=true then 5 else zE (zP t):=rfl
 have htk:(cl.take (j + 1)).map hdW=(cl.take j).map hdW ++ [hdW t]:=by rw [yJ ht,List.map_append];rfl
 rw [<-htk] at HGX;have hfo:wG yA (cl.take (j + 1))=yp (wG yA (cl.take j)) (zP t):=ly ht;have HFO:=qH hfo;have hle:=qs t;have HPT:=qH (fun y (hy:y ∈ zP t)=>Nat.le_trans (sA hy) hts);have hhd:hdW t=(zP t).headD ⟨#[]⟩:=rfl;obtain ⟨ws,hws⟩:=zN (zP t);obtain ⟨SE,hSE⟩:=zN ((cl.take j).map hdW);obtain ⟨CT,hCT⟩:=zN (um t SE);rw [<-hSE] at HS HGX hcd htk;rw [<-hCT] at HGX hcd;obtain ⟨hd,hh⟩:=zN (hdW t);rw [<-hh] at hcd htk hhd;unfold zbT at HSW;rw [<-hws] at HSW HFO hle HPT hcd hhd;have HTK:=qH htk;rw [htk] at HGX;have HG2:=qH HGX;have HCD:=qH hcd;have HHD:=qH hhd;clear ht HGX hcd htk hws hSE hCT hh hfo hhd HG;go_wp2_with fail;refine (HSW.out _).mono ?_;rintro e W1 ⟨B,nw,cw,rfl,hwn,hwA,hwN,hb⟩;have HWN:=qH hwn;have HWA:=qH hwA;have hszr:=hv.size;have HWX:Hid (∀ a,B=some a->a.block≠gx/\a.block≠gs):=qH (fun a e=>by have:=hwN a e;have:=hX.out.lt;have:=yr HS.out gs rfl;omega);clear hwn hwA hwN c0 HSW;replace hX:=qH (hX.out.below hb);replace hR:=qH (hR.out.below hb);replace HO1:=qH (ze HO1.out hb);replace HS:=qH (ze HS.out hb);replace hv:=za hv hb;clear hb;have hnn:(nw:Int)<=4194305:=by have:=HWN.out;omega
 have HLP:=qH (fun w h=>rx B ws nw cw HWN hnn HPT w h);have HPK:=qH (fun (h:zE ws=0)=>aw h);have HSETC:=qH (fun hp w hB hA hne=>jy X gx B ws nw cw HWN hp HPT w hB hA hne);have hbd:=fX ws;have HP1:=qH (fun (h:ws=[])=>(show zE ws=1 by rw [h];rfl));obtain ⟨P,hP⟩:=zN (zE ws);rw [<-hP] at HCD HPK HP1 hbd;have HLPE:=qH hP;go_wp2_with fail;refine qS (HLP.out _ HWA.out) fun W2 hb=>?_;rw [<-hP];clear hP HLP;replace HWA:=qH (HWA.out.below hb);replace hX:=qH (hX.out.below hb);replace hR:=qH (hR.out.below hb);replace HO1:=qH (ze HO1.out hb);replace HS:=qH (ze HS.out hb);replace hv:=za hv hb;clear hb;by_cases h0:nw=0
 · subst h0;have hws0:ws=[]:=List.eq_nil_of_length_eq_zero HWN.out;obtain rfl:=HP1.out hws0;have hCT:CT=1:=HCD.out.trans (if_neg (fun h=>absurd h.1 (by decide)));have hhd0:hd=⟨#[]⟩:=by rw [HHD.out,hws0];rfl
   have HSN:Hid (W2.ownsRow w.heap.size 4 1 (.slice (some ⟨gs,0,none⟩) 6 6) 6 (vQ ((cl.take (j + 1)).map hdW))):=qH (by
    rw [HTK.out,hhd0];rcases mO (⟨#[]⟩:ByteArray) with ⟨_,h⟩ | ⟨q,_,h,_⟩
    ·rw [mu _ h];exact HS.out
    · have:yg ⟨#[]⟩ = -1:=by decide
      omega)
   have HG3:=qH (HG2.out.trans (by rw [hCT,HTK.out];simp:_=ou ++ ([(⟨j,1⟩:TroubleP)] ++ xz (cl.drop (j + 1)) ((cl.take (j + 1)).map hdW) (j + 1))));clear HG2 HCD hCT hhd0 hws0 HS;go_wp2_with (at_builtin;refine yu W2 #[.int .i64 j,.int .i64 1] rfl _ _ 191 235 rfl i1 _ 2 16 underlying191 hi1 hq0 hq1 hq2 rfl (by omega) w.heap.size (some ⟨g1,0,none⟩) k c1 _ rfl _ rfl rfl HO1.out rfl (by simp [Value.oneCell']) (by unfold maxLen;omega) (by omega) hv.size ?_;intro g3 c3 W8 hown3 hg3 hf3)
   have hz3:=HSZ.out;have e3:∀ q,q≠g1->some q≠Option.map (fun x:Addr=>x.block) (some (⟨g1,0,none⟩:Addr)):=fun q h1 h2=>by injection h2 with h2;exact h1 h2
   have HX3:=qH (hX.out.grown hg3 (e3 gx (by omega)));have HR3:=qH (hR.out.grown hg3 (e3 gr (by omega)));have HS3:=qH (HSN.out.kept hg3 (.inr (e3 gs (by omega))));have hv3:=zi hv hg3 (fun k e=>by injection e with e;subst e;exact zn HO1.out g1 rfl);have hx1:=hX.out.lt;have hr1:=hR.out.lt;have hs1:=yr HSN.out gs rfl;have hne3:g3≠gx/\g3≠gs/\g3≠gr:=by
    rcases hf3 with e | e
    ·simp only [Option.some.injEq,Addr.mk.injEq,and_true] at e;omega
    ·omega
   refine ⟨⟨j + 1,k + 1,g3,c3,ou ++ [⟨j,1⟩],X,by omega,by go_num,rfl,hne3.1,hne3.2.1,hne3.2.2,by omega,qH (by rw [List.length_append,HU.out];rfl),qH (by rw [zY,xS];exact hown3),HX3,HR3,HS3,qH (by rw [HG3.out,List.append_assoc]),fun h=>absurd h (by omega),hv3⟩,by simp [intOf];omega⟩
 obtain ⟨hd',rr,hwsE⟩:∃ a r,ws=a :: r:=by
  cases ws with
  | nil=>exact absurd HWN.out.symm h0
  | cons a r=>exact ⟨a,r,rfl⟩
 have hdE:hd'=hd:=by rw [HHD.out,hwsE];rfl
 rw [hdE] at hwsE;obtain ⟨adw,hadw,_,e0⟩:=zh (k:=0) HWA.out (by rw [hwsE];rfl);subst hadw;replace e0:W2.cell? adw=some (.string hd):=by rw [<-show adw.add 0=adw from by unfold Addr.add;split <;> simp_all];exact e0
 have HKW:=qH (fun w=>vr hd w);have hl0:(0:Int) < (nw:Int):=by omega
 have hl1:0 < nw:=by omega
 have HKC:=qH (mO hd);have HPK2:=qH (fun (h:P=0)=>(show ∃ q:Nat,q < 6/\yg hd=(q:Int) by
  obtain ⟨q,h1,h2⟩:=HPK.out h;rw [<-HHD.out] at h2;exact ⟨q,h1,h2⟩))
 obtain ⟨KW,hKW⟩:=zN (yg hd);rw [<-hKW] at HKW HKC HPK2;clear hKW hwsE hdE h0;go_wp2_with fail;refine qS (HKW.out _) fun W3 hb=>?_;replace HWA:=qH (HWA.out.below hb);replace hX:=qH (hX.out.below hb);replace hR:=qH (hR.out.below hb);replace HO1:=qH (ze HO1.out hb);replace HS:=qH (ze HS.out hb);replace hv:=za hv hb;clear hb e0 HKW;rcases HKC.out with ⟨hk1,hmiss⟩ | ⟨q,hq6,hkq,hqa⟩
 · subst hk1;have HSN:Hid (W3.ownsRow w.heap.size 4 1 (.slice (some ⟨gs,0,none⟩) 6 6) 6 (vQ ((cl.take (j + 1)).map hdW))):=qH (by rw [HTK.out,mu _ hmiss];exact HS.out);have hP0:¬ P=0:=fun h=>by obtain ⟨q,_,h2⟩:=HPK2.out h;omega
   have hqf:(P == 0)=false:=by rw [beq_eq_false_iff_ne];exact hP0
   have hqd:decide (P=0)=false:=decide_eq_false hP0;have hCT:CT=P:=HCD.out.trans (if_neg (fun h=>hP0 h.1));have HG3:=qH (HG2.out.trans (by rw [hCT,if_neg hP0,HTK.out]:_=ou ++ ([(⟨j,P⟩:TroubleP)] ++ xz (cl.drop (j + 1)) ((cl.take (j + 1)).map hdW) (j + 1))));clear HG2 HCD hCT HS HKC hmiss hP0;go_wp2_with (at_builtin;refine yu W3 #[.int .i64 j,.int .i64 P] rfl _ _ 191 235 rfl i1 _ 2 16 underlying191 hi1 hq0 hq1 hq2 rfl (by omega) w.heap.size (some ⟨g1,0,none⟩) k c1 _ rfl _ rfl rfl HO1.out rfl (by simp [Value.oneCell']) (by unfold maxLen;omega) (by omega) hv.size ?_;intro g3 c3 W8 hown3 hg3 hf3)
   have hz3:=HSZ.out;have e3:∀ q,q≠g1->some q≠Option.map (fun x:Addr=>x.block) (some (⟨g1,0,none⟩:Addr)):=fun q h1 h2=>by injection h2 with h2;exact h1 h2
   have HX3:=qH (hX.out.grown hg3 (e3 gx (by omega)));have HR3:=qH (hR.out.grown hg3 (e3 gr (by omega)));have HS3:=qH (HSN.out.kept hg3 (.inr (e3 gs (by omega))));have hv3:=zi hv hg3 (fun k e=>by injection e with e;subst e;exact zn HO1.out g1 rfl);have hx1:=hX.out.lt;have hr1:=hR.out.lt;have hs1:=yr HSN.out gs rfl;have hne3:g3≠gx/\g3≠gs/\g3≠gr:=by
    rcases hf3 with e | e
    ·simp only [Option.some.injEq,Addr.mk.injEq,and_true] at e;omega
    ·omega
   refine ⟨⟨j + 1,k + 1,g3,c3,ou ++ [⟨j,P⟩],X,by omega,by go_num,rfl,hne3.1,hne3.2.1,hne3.2.2,by omega,qH (by rw [List.length_append,HU.out];rfl),qH (by rw [zY,xS];exact hown3),HX3,HR3,HS3,qH (by rw [HG3.out,List.append_assoc]),fun h=>absurd h (by omega),hv3⟩,by simp [intOf];omega⟩
 subst hkq;have hk0:(0:Int)<=(q:Int):=by omega
 have hk6:(q:Int) < 6:=by omega
 obtain ⟨mb,hmb⟩:=zN (xd hd SE);have sd:W3.cell? ⟨gs,q,none⟩=some (.bool mb):=(World.ownsRow.cellAt HS.out q (by omega)).trans (by rw [pk _ hqa,hmb]);have sf:W3.frozen? ⟨gs,q,none⟩=false:=World.ownsRow.frozenAt HS.out q;have HSN:Hid ((W3.setCell ⟨gs,q,none⟩ (.bool true)).ownsRow w.heap.size 4 1 (.slice (some ⟨gs,0,none⟩) 6 6) 6 (vQ ((cl.take (j + 1)).map hdW))):=qH (by
  rw [HTK.out,aG _ hqa];exact (World.ownsRow.stored HS.out q (.bool true)).1)
 have HO1s:=qH (yy HO1.out (p:=⟨gs,q,none⟩) (fun p e e2=>by injection e with e;exact h1s (e.trans e2)) (.bool true));have HXs:=qH (hX.out.far (p:=⟨gs,q,none⟩) (by simp only;omega) (.bool true));have HRs:=qH (hR.out.far (p:=⟨gs,q,none⟩) (by simp only;omega) (.bool true));have HWAs:=qH (HWA.out.grown (zF (p:=⟨gs,q,none⟩) (World.grownBy.refl W3 (some gs)) (.inl rfl) (.bool true)) (fun ad e e2=>by injection e2 with e2;exact (HWX.out ad e).2 e2));have hvs:=zk hv (p:=⟨gs,q,none⟩) hgsw (.bool true);by_cases hP0:P=0
 case neg=>
  have hqf:(P == 0)=false:=by rw [beq_eq_false_iff_ne];exact hP0
  have hqd:decide (P=0)=false:=decide_eq_false hP0;have hCT:CT=P:=HCD.out.trans (if_neg (fun h=>hP0 h.1));have HG3:=qH (HG2.out.trans (by rw [hCT,if_neg hP0,HTK.out]:_=ou ++ ([(⟨j,P⟩:TroubleP)] ++ xz (cl.drop (j + 1)) ((cl.take (j + 1)).map hdW) (j + 1))));clear HG2 HCD hCT HS HKC hmb hqa hP0;go_upto_region 18 with fail;obtain ⟨V1,hV1⟩:=zN (W3.setCell ⟨gs,q,none⟩ (.bool true));rw [<-hV1] at HSN HO1s HXs HRs hvs |-;clear hV1 HWAs sd sf;go_wp2_with (at_builtin;refine yu V1 #[.int .i64 j,.int .i64 P] rfl _ _ 191 235 rfl i1 _ 2 16 underlying191 hi1 hq0 hq1 hq2 rfl (by omega) w.heap.size (some ⟨g1,0,none⟩) k c1 _ rfl _ rfl rfl HO1s.out rfl (by simp [Value.oneCell']) (by unfold maxLen;omega) (by omega) hvs.size ?_;intro g3 c3 W8 hown3 hg3 hf3)
  have hz3:=HSZ.out;have e3:∀ q,q≠g1->some q≠Option.map (fun x:Addr=>x.block) (some (⟨g1,0,none⟩:Addr)):=fun q h1 h2=>by injection h2 with h2;exact h1 h2
  have HX3:=qH (HXs.out.grown hg3 (e3 gx (by omega)));have HR3:=qH (HRs.out.grown hg3 (e3 gr (by omega)));have HS3:=qH (HSN.out.kept hg3 (.inr (e3 gs (by omega))));have hv3:=zi hvs hg3 (fun k e=>by injection e with e;subst e;exact zn HO1s.out g1 rfl);have hx1:=HXs.out.lt;have hr1:=HRs.out.lt;have hs1:=yr HSN.out gs rfl;have hne3:g3≠gx/\g3≠gs/\g3≠gr:=by
   rcases hf3 with e | e
   ·simp only [Option.some.injEq,Addr.mk.injEq,and_true] at e;omega
   ·omega
  refine ⟨⟨j + 1,k + 1,g3,c3,ou ++ [⟨j,P⟩],X,by omega,by go_num,rfl,hne3.1,hne3.2.1,hne3.2.2,by omega,qH (by rw [List.length_append,HU.out];rfl),qH (by rw [zY,xS];exact hown3),HX3,HR3,HS3,qH (by rw [HG3.out,List.append_assoc]),fun h=>absurd h (by omega),hv3⟩,by simp [intOf];omega⟩
 subst hP0;cases mb
 case true=>
  have hCT:CT=5:=HCD.out.trans (if_pos ⟨rfl,hmb.symm⟩);have HG3:=qH (HG2.out.trans (by rw [hCT,HTK.out];simp:_=ou ++ ([(⟨j,5⟩:TroubleP)] ++ xz (cl.drop (j + 1)) ((cl.take (j + 1)).map hdW) (j + 1))));clear HG2 HCD hCT HS HKC hmb hqa;go_upto_region 18 with fail;obtain ⟨V1,hV1⟩:=zN (W3.setCell ⟨gs,q,none⟩ (.bool true));rw [<-hV1] at HSN HO1s HXs HRs hvs |-;clear hV1 HWAs sd sf;go_wp2_with (at_builtin;refine yu V1 #[.int .i64 j,.int .i64 5] rfl _ _ 191 235 rfl i1 _ 2 16 underlying191 hi1 hq0 hq1 hq2 rfl (by omega) w.heap.size (some ⟨g1,0,none⟩) k c1 _ rfl _ rfl rfl HO1s.out rfl (by simp [Value.oneCell']) (by unfold maxLen;omega) (by omega) hvs.size ?_;intro g3 c3 W8 hown3 hg3 hf3)
  have hz3:=HSZ.out;have e3:∀ q,q≠g1->some q≠Option.map (fun x:Addr=>x.block) (some (⟨g1,0,none⟩:Addr)):=fun q h1 h2=>by injection h2 with h2;exact h1 h2
  have HX3:=qH (HXs.out.grown hg3 (e3 gx (by omega)));have HR3:=qH (HRs.out.grown hg3 (e3 gr (by omega)));have HS3:=qH (HSN.out.kept hg3 (.inr (e3 gs (by omega))));have hv3:=zi hvs hg3 (fun k e=>by injection e with e;subst e;exact zn HO1s.out g1 rfl);have hx1:=HXs.out.lt;have hr1:=HRs.out.lt;have hs1:=yr HSN.out gs rfl;have hne3:g3≠gx/\g3≠gs/\g3≠gr:=by
   rcases hf3 with e | e
   ·simp only [Option.some.injEq,Addr.mk.injEq,and_true] at e;omega
   ·omega
  refine ⟨⟨j + 1,k + 1,g3,c3,ou ++ [⟨j,5⟩],X,by omega,by go_num,rfl,hne3.1,hne3.2.1,hne3.2.2,by omega,qH (by rw [List.length_append,HU.out];rfl),qH (by rw [zY,xS];exact hown3),HX3,HR3,HS3,qH (by rw [HG3.out,List.append_assoc]),fun h=>absurd h (by omega),hv3⟩,by simp [intOf];omega⟩
 case false=>
  have hCT:CT=0:=HCD.out.trans (if_neg (fun h=>by rw [<-hmb] at h;exact absurd h.2 (by decide)));have HG3:=qH (HG2.out.trans (by rw [hCT,HTK.out];simp:_=ou ++ xz (cl.drop (j + 1)) ((cl.take (j + 1)).map hdW) (j + 1)));clear HG2 HCD hCT HS HKC hmb hqa;have HSC:=qH (HSETC.out (qH HLPE.out.symm) _ HXs.out HWAs.out (qH fun ad e=>(HWX.out ad e).1));go_wp2_with fail;refine HSC.out.mono ?_;rintro e W4 ⟨rfl,hX4,hg4⟩;have hz9:=HSZ.out;have e3:∀ q,q≠gx->some q≠some gx:=fun q h1 h2=>by injection h2 with h2;exact h1 h2
  have HR4:=qH (HRs.out.grown hg4 (e3 gr (by omega)));have HS4:=qH (HSN.out.kept hg4 (.inr (e3 gs (by omega))));have HO4:=qH (HO1s.out.kept hg4 (.inr (e3 g1 (by omega))));have HX4:=qH hX4;have hv4:=zi hvs hg4 (fun k e=>by injection e with e;omega);clear hX4 hg4;go_wp2_with fail;exact ⟨⟨j + 1,k,g1,c1,ou,yp X ws,by omega,by go_num,rfl,h1x,h1s,h1r,by omega,HU,HO4,HX4,HR4,HS4,HG3,fun h=>by rw [HFO.out,HXF.out h],hv4⟩,by simp [intOf];omega⟩
theorem kM(s:ByteArray)(hs:s.size<=1048576)(w:World):Calls prog 178 #[.string s] w (RetT #[.agg #[.string (rdS s).u,.string (rdS s).c,.string (rdS s).l,.string (rdS s).s,.int .i64 (rdS s).t,.int .i64 (rdS s).h,.int .i64 (rdS s).e,.int .i64 (rdS s).d,.bool (rdS s).q],.int .i64 (rdC s)] w):=by
 obtain ⟨W,hW⟩:=zN (w.alloc (Obj.cells cT 30));obtain ⟨gr,hgr⟩:=zN w.heap.size;have hv:Below w.heap.size w W:=by rw [hW];exact zc (Below.refl _ _) _
 have hR:Hid (Blk W gr 30 cT):=qH (by rw [hW,hgr];exact Blk.new _ _ _);have hge:w.heap.size<=gr:=by omega
 have HW:=qH hW;have HG:=qH hgr;clear hW hgr;have HC:=fun w=>bS s hs w;unfold kD at HC;have h1:rdS s=if xG s=true then (if tro (zl 59 s)=[] then wG yA (zl 59 s) else yA) else yA:=rfl
 have h2:rdC s=if xG s=true then (if tro (zl 59 s)=[] then 0 else 7) else 5:=rfl
 have hk12:xG s=true->(zl 59 s).length<=12:=fun h=>by
  unfold xG at h;simp only [Bool.and_eq_true,decide_eq_true_eq] at h;exact h.2
 have HSZ:=qH (fun y (hy:y ∈ zl 59 s)=>Nat.le_trans (wU (c:=59) hy) (by omega:s.size<=4194304));obtain ⟨L,hL⟩:=zN (zl 59 s);obtain ⟨b,hb0⟩:=zN (xG s);rw [<-hL,<-hb0] at HC h1 h2 hk12;rw [<-hL] at HSZ;replace HC:=qH HC;have H1':=qH h1;have H2':=qH h2;have HK12:=qH hk12;clear hL hb0 h1 h2 hk12;go_in;go_upto_region 1 with fail;rw [<-HW.out,<-HG.out];clear HW HG;go_wp2_with fail;refine (HC.out _).mono ?_;rintro e W1 ⟨A,m,c,rfl,hcl,hb⟩;replace hv:=za hv hb;replace hR:=qH (hR.out.below hb);clear hb HC;cases b
 · have H1:=qH (show rdS s=yA by rw [H1'.out];rfl);have H2:=qH (show rdC s=5 by rw [H2'.out];rfl);clear hcl;go_wp2_with (refine yS gr cT hR.out ?_)
   refine bodyPost_ret (zj (P:=prog) rfl _ _ gr 30 _ (0,0) _ rfl (setRow_heap _ _ _ _ _ _ hR.out) underlying30 rfl (by kernel_rfl)) rfl ?_;exact RetT.mk (by rw [H1.out,H2.out];rfl) (zg hv hge _)
 obtain ⟨hlm,hA⟩:=hcl rfl;have HLM:=qH hlm;have HA:=qH hA;have hm12:m<=12:=by have:=HK12.out rfl;omega
 have HCK:=qH (fun w h=>du A L m c HLM (by omega) HSZ w h);clear hcl hlm hA;go_wp2_with fail;refine (HCK.out _ HA.out).mono ?_;rintro e W2 ⟨B,k,kc,X,rfl,hk0,hk1,hb⟩;replace hv:=za hv hb;replace hR:=qH (hR.out.below hb);have HK0:=qH hk0;have HK1:=qH hk1;obtain ⟨gy,hgy⟩:=zN W2.heap.size;obtain ⟨W3,hW3⟩:=zN (W2.alloc (Obj.cells cT 30));have hb3:Below W2.heap.size W2 W3:=by rw [hW3];exact zc (Below.refl _ _) _
 have HY:Hid (Blk W3 gy 30 cT):=qH (by rw [hW3,hgy];exact Blk.new _ _ _);have hyr:gr < gy:=by have:=hR.out.lt;omega
 have hyw:w.heap.size<=gy:=by omega
 replace hv:=za hv hb3;replace hR:=qH (hR.out.below hb3);have EW:=qH hW3;have EG:=qH hgy;clear hb hk0 hk1 hW3 hgy hb3 HCK;go_upto_region 5 with (rw [<-EW.out,<-EG.out];refine yS gy (cS X) HY.out ?_)
 have HY4:Hid (Blk (World.setRow W3 gy (cS X)) gy 30 (cS X)):=qH (setRow_heap _ _ _ _ _ _ HY.out);replace hR:=qH (hR.out.grown (yl W3 gy (cS X)) (fun e=>by injection e with e;omega));replace hv:=zg hv hyw (cS X);obtain ⟨W4,hW4⟩:=zN (World.setRow W3 gy (cS X));rw [<-hW4] at HY4 hR hv |-;clear hW4 EW EG HY;by_cases hk:k=0
 · subst hk;obtain ⟨ht,hx⟩:=HK0.out rfl;have H1:=qH (show rdS s=X by rw [H1'.out];simp [ht,hx]);have H2:=qH (show rdC s=0 by rw [H2'.out];simp [ht]);clear ht hx;go_wp2_with (first | (refine yL gy HY4.out underlying30 ?_) | (refine yS gr (cS X) hR.out ?_))
   refine bodyPost_ret (zj (P:=prog) rfl _ _ gr 30 _ (0,0) _ rfl (setRow_heap _ _ _ _ _ _ hR.out) underlying30 rfl (by kernel_rfl)) rfl ?_;exact RetT.mk (by rw [H1.out,H2.out];rfl) (zg hv hge _)
 · have ht:=HK1.out hk;have H1:=qH (show rdS s=yA by rw [H1'.out];simp [ht]);have H2:=qH (show rdC s=7 by rw [H2'.out];simp [ht]);have hkp:(0:Int) < (k:Int):=by omega
   clear ht;go_wp2_with (refine yS gr cT hR.out ?_)
   refine bodyPost_ret (zj (P:=prog) rfl _ _ gr 30 _ (0,0) _ rfl (setRow_heap _ _ _ _ _ _ hR.out) underlying30 rfl (by kernel_rfl)) rfl ?_;exact RetT.mk (by rw [H1.out,H2.out];rfl) (zg hv hge _)
end Go.Proofs.YtpiehlfffjhoaaaGreatDoor
