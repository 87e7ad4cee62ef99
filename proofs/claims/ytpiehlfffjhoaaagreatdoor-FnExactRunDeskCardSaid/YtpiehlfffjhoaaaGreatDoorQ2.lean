/- Lemmas for the law on the console: the parts OutA,LstA,LstB,LstC. -/
import Derived.Test.YtpiehlfffjhoaaaGreatDoorQ1
import Derived.Test.YtpiehlfffjhoaaaGreatDoorQ0
import Derived.Laws.ResultCell
import Derived.Deep.CutBlock
import Derived.Deep.DeepCutAuto
import Derived.Deep.RegionHeld3
namespace Go.Proofs.YtpiehlfffjhoaaaGreatDoor
open Go.RowKit
set_option maxRecDepth 100000
set_option maxHeartbeats 8000000
def sq {α:Type} (p:α→Bool):List α→Int→Int
 | [],_=>-1
 | x :: r,i=>if p x=true then i else sq p r (i + 1)
theorem ay {α:Type} (p:α→Bool):∀ (xs:List α) (i:Int),0≤i→(0≤sq p xs i ↔ xs.any p=true):=by
 intro xs
 induction xs with
 | nil=>intro i _;simp [sq]
 | cons x r ih=>
   intro i hi;by_cases hp:p x=true
   · simp only [sq,List.any_cons,hp,Bool.true_or,if_true];simpa using hi
   · simp only [sq,List.any_cons,Bool.eq_false_iff.2 hp,Bool.false_or];exact ih (i + 1) (by omega)
theorem ax {α:Type} (p:α→Bool) (xs:List α) (i:Int) (hi:0≤i):decide (sq p xs i ≥ 0)=xs.any p:=by
 rw [Bool.eq_iff_iff,decide_eq_true_eq];exact ay p xs i hi
theorem el (k lo hi:Int) (g1 g2:Nat) (w:World) (h1:w.cell? ⟨g1,0,none⟩=some (.int .i64 lo)) (h2:w.cell? ⟨g2,0,none⟩=some (.int .i64 hi)) :
 Calls Tryz.prog 184 #[.int .i64 k,.pointer (some ⟨g1,0,none⟩),.pointer (some ⟨g2,0,none⟩)] w (RetQ (.bool (!inB k lo hi)) w):=by
 go_enter Tryz.func184,Tryz.ntmps184;go_wp2_with (go_at_call 68;refine (xu _ _ _ _).mono ?_;rintro e w' ⟨rfl,rfl⟩)
 go_returns;exact RetQ.mk rfl
theorem fO (A:Option Addr) (ps:List Int) (m d:Nat) (lo hi:Int) (g1 g2:Nat) (hn:Hid (ps.length=m)) (hm:(m:Int)≤9223372036854775807) (w:World) (hl:Blk w g1 2 #[.int .i64 lo]) (hh:Blk w g2 2 #[.int .i64 hi]) (hA:Arr w A (zd zp ps)) :
 Calls Tryz.prog 247 #[.slice A m d,.func (.func 184) #[] #[.pointer (some ⟨g1,0,none⟩),.pointer (some ⟨g2,0,none⟩)]] w (RetQ (.int .i64 (sq (fun k=>!inB k lo hi) ps 0)) w):=by
 have h1:w.cell? ⟨g1,0,none⟩=some (.int .i64 lo):=hl.cell 0;have h2:w.cell? ⟨g2,0,none⟩=some (.int .i64 hi):=hh.cell 0;go_enter Tryz.func247,Tryz.ntmps247;go_wp2_with fail;have hR:=qH (show sq (fun k=>!inB k lo hi) ps 0=sq (fun k=>!inB k lo hi) (ps.drop 0) ((0:Nat):Int) from rfl)
 go_loopw [8] (fun i wr=>∃ k:Nat,k≤m∧i=.int .i64 k∧Hid (sq (fun k=>!inB k lo hi) ps 0=sq (fun k=>!inB k lo hi) (ps.drop k) k)∧wr=w) (fun i _=>m - (intOf i).toNat)
 case atStart=>exact ⟨0,by omega,rfl,hR,rfl⟩
 case round=>
  clear hR;obtain ⟨k,hk,rfl,hR,rfl⟩:=hrel;by_cases hlt:k < m
  · obtain ⟨y,hy⟩:=zx (xs:=ps) (k:=k) (by rw [hn.out];exact hlt);obtain ⟨ad,rfl,hab,c0⟩:=yn hA hy;have hR2:=qH (hR.out.trans (by rw [yY hy];rfl:_=if (!inB y lo hi)=true then (k:Int) else sq (fun k=>!inB k lo hi) (ps.drop (k + 1)) (k + 1)));clear hR hy;go_wp2_with fail;refine (el y lo hi g1 g2 _ h1 h2).mono ?_;rintro e w1 ⟨rfl,rfl⟩;cases hq:(!inB y lo hi)
    · have HQ:=qH hq;clear hq;go_wp2_with fail;exact ⟨⟨k + 1,by omega,by go_num,qH (hR2.out.trans (by rw [HQ.out];rfl)),True.intro⟩,by simp [intOf];omega⟩
    · have HQ:=qH hq;clear hq;go_wp2_with fail;go_returns;refine RetQ.mk (vi ?_);rw [hR2.out,HQ.out];rfl
  · have hR2:=qH (hR.out.trans (by rw [List.drop_eq_nil_of_le (by rw [hn.out];omega)];rfl:_ = -1));clear hR;go_wp2_with fail;go_returns;refine RetQ.mk (vi ?_);rw [hR2.out]
theorem lF (A:Option Addr) (ps:List Int) (m d:Nat) (lo hi:Int) (g1 g2:Nat) (hn:Hid (ps.length=m)) (hm:(m:Int)≤9223372036854775807) (w:World) (hl:Blk w g1 2 #[.int .i64 lo]) (hh:Blk w g2 2 #[.int .i64 hi]) (hA:Arr w A (zd zp ps)) :
 Calls Tryz.prog 183 #[.slice A m d,.func (.func 184) #[] #[.pointer (some ⟨g1,0,none⟩),.pointer (some ⟨g2,0,none⟩)]] w (RetQ (.bool (!ps.all (fun k=>inB k lo hi))) w):=by
 go_enter Tryz.func183,Tryz.ntmps183;go_wp2_with fail;refine (fO A ps m d lo hi g1 g2 hn hm _ hl hh hA).mono ?_;rintro e w1 ⟨rfl,rfl⟩;go_wp2_with fail;go_returns;refine RetQ.mk (vb ?_);have h:=ax (fun k=>!inB k lo hi) ps 0 (by omega);rw [List.all_eq_not_any_not,Bool.not_not];exact h
theorem pG (A:Option Addr) (ps:List Int) (m d:Nat) (lo hi:Int) (hn:Hid (ps.length=m)) (hm:(m:Int)≤9223372036854775807) (w:World) (hA:Arr w A (zd zp ps)) :
 Calls Tryz.prog 116 #[.slice A m d,.int .i64 lo,.int .i64 hi] w (Ret (.bool (!ps.all (fun k=>inB k lo hi))) w):=by
 have hl:Blk ((w.alloc (Obj.cells #[.int .i64 lo] 2)).alloc (Obj.cells #[.int .i64 hi] 2)) w.heap.size 2 #[Value.int .i64 lo]:=(Blk.new _ _ _).alloc _;have hh:Blk ((w.alloc (Obj.cells #[.int .i64 lo] 2)).alloc (Obj.cells #[.int .i64 hi] 2)) (w.heap.size + 1) 2 #[Value.int .i64 hi]:=by
  have h:=Blk.new (w.alloc (Obj.cells #[.int .i64 lo] 2)) 2 #[Value.int .i64 hi];simpa using h
 go_enter Tryz.func116,Tryz.ntmps116;go_wp2_with fail;refine (lF A ps m d lo hi _ _ hn hm _ hl hh ((hA.alloc _).alloc _)).mono ?_;rintro e w1 ⟨rfl,rfl⟩;go_wp2_with fail;go_returns;exact Ret.mk rfl (zc (zc (Below.refl _ _) _) _)
theorem vR {w:World} {g:Nat} {t:TypeId} {C:Array Value} (h:Blk w g t C):Arr w (some ⟨g,0,none⟩) C.toList:=fun _=>by
 refine ⟨_,rfl,h.lt,fun j u hu=>?_⟩;have hadd:(⟨g,0,none⟩:Addr).add j=⟨g,j,none⟩:=by unfold Addr.add;split <;> simp_all
 rw [hadd,h.cell j];simpa using hu
def yo (f:Foot):Bool:=inB f.length 500 5000 && inB f.b 500 5000 && inB f.i 500 5000 && inB f.h 500 5000
def zcd (f:Foot) (w:World) (e:Ending) (w':World):Prop:=∃ g,e=.returned (.slice (some ⟨g,0,none⟩) 4 4)∧Blk w' g 2 (cF f)∧Below w.heap.size w w'
theorem sF (f:Foot) (w:World):Calls Tryz.prog 94 #[.agg #[.int .i64 f.length,.int .i64 f.b,.int .i64 f.i,.int .i64 f.h]] w (zcd f w):=by
 go_enter Tryz.func94,Tryz.ntmps94;go_wp2_with fail;go_returns;exact ⟨_,rfl,by have h:=Blk.new (w.alloc (Obj.cells (cF f) 27)) 2 (cF f);simpa using h,zc (zc (Below.refl _ _) _) _⟩
theorem uk (f:Foot) (w:World):Calls Tryz.prog 60 #[.agg #[.int .i64 f.length,.int .i64 f.b,.int .i64 f.i,.int .i64 f.h]] w (Ret (.bool (yo f)) w):=by
 have hf:yo f=[f.length,f.b,f.i,f.h].all (fun k=>inB k 500 5000):=by simp [yo,Bool.and_assoc]
 have HF:=qH hf;clear hf;go_enter Tryz.func60,Tryz.ntmps60;go_wp2_with fail;refine (sF f _).mono ?_;rintro e W ⟨g,rfl,hB,hb⟩;have hv:=za (zc (Below.refl w.heap.size w) _) hb;clear hb;go_wp2_with fail;refine qS (pG (some ⟨g,0,none⟩) [f.length,f.b,f.i,f.h] 4 4 500 5000 (qH rfl) (by omega) _ (vR hB)) fun W2 hb=>?_;replace hv:=za hv hb;clear hb hB;go_wp2_with fail;go_returns;exact Ret.mk (vb (by rw [HF.out];simp)) hv
theorem qz (n:Int) (w:World):Calls Tryz.prog 148 #[.int .i64 n] w (RetQ (.bool (inB n 500 5000)) w):=by
 go_enter Tryz.func148,Tryz.ntmps148;go_wp2_with fail;refine (xJ _ _ _ _).mono ?_;rintro e w' ⟨rfl,rfl⟩;go_wp2_with fail;go_returns;exact RetQ.mk rfl
theorem po (f:Foot) (w:World):Calls Tryz.prog 91 #[.agg #[.int .i64 f.length,.int .i64 f.b,.int .i64 f.i,.int .i64 f.h]] w (Ret (.bool (yo f)) w):=by
 have hf:yo f=(inB f.length 500 5000 && inB f.b 500 5000 && inB f.i 500 5000 && inB f.h 500 5000):=rfl;have H1:=fun w=>qz f.length w;have H2:=fun w=>qz f.b w;have H3:=fun w=>qz f.i w;have H4:=fun w=>qz f.h w;obtain ⟨b1,e1⟩:=zN (inB f.length 500 5000);obtain ⟨b2,e2⟩:=zN (inB f.b 500 5000);obtain ⟨b3,e3⟩:=zN (inB f.i 500 5000);obtain ⟨b4,e4⟩:=zN (inB f.h 500 5000);rw [←e1] at H1 hf;rw [←e2] at H2 hf;rw [←e3] at H3 hf;rw [←e4] at H4 hf;replace H1:=qH H1;replace H2:=qH H2;replace H3:=qH H3;replace H4:=qH H4;have HP:=qH hf;clear hf e1 e2 e3 e4;obtain ⟨W,hW⟩:=zN (w.alloc (Obj.cells (cF f) 27));obtain ⟨g,hg⟩:=zN w.heap.size;have hv:Below w.heap.size w W:=by rw [hW];exact zc (Below.refl _ _) _
 have hB:Blk W g 27 (cF f):=by rw [hW,hg];exact Blk.new _ _ _
 have HW:=qH hW;have HG:=qH hg;clear hW hg;obtain ⟨k0,k1,k2,k3⟩:=qC4 hB;clear hB;go_enter Tryz.func91,Tryz.ntmps91;go_upto_region 1 with fail;rw [←HW.out,←HG.out];clear HW HG;cases b1
 · skip
   go_wp2_with fail;refine qR (H1.out _) ?_;go_wp2_with fail;go_returns;exact Ret.mk (vb (by rw [HP.out];rfl)) hv
 cases b2
 · skip
   go_wp2_with fail;refine qR (H1.out _) ?_;go_wp2_with fail;refine qR (H2.out _) ?_;go_wp2_with fail;go_returns;exact Ret.mk (vb (by rw [HP.out];rfl)) hv
 cases b3
 · skip
   go_wp2_with fail;refine qR (H1.out _) ?_;go_wp2_with fail;refine qR (H2.out _) ?_;go_wp2_with fail;refine qR (H3.out _) ?_;go_wp2_with fail;go_returns;exact Ret.mk (vb (by rw [HP.out];rfl)) hv
 cases b4
 · skip
   go_wp2_with fail;refine qR (H1.out _) ?_;go_wp2_with fail;refine qR (H2.out _) ?_;go_wp2_with fail;refine qR (H3.out _) ?_;go_wp2_with fail;refine qR (H4.out _) ?_;go_wp2_with fail;go_returns;exact Ret.mk (vb (by rw [HP.out];rfl)) hv
 · skip
   go_wp2_with fail;refine qR (H1.out _) ?_;go_wp2_with fail;refine qR (H2.out _) ?_;go_wp2_with fail;refine qR (H3.out _) ?_;go_wp2_with fail;refine qR (H4.out _) ?_;go_wp2_with fail;go_returns;exact Ret.mk (vb (by rw [HP.out];rfl)) hv
def Last.foot (x:Last):Foot:=⟨x.length,x.b,x.i,x.h⟩
def zy (x:Last):Bool:=zo x.name && yo x.foot && inB x.p 0 1000
def yN (a b:ByteArray):Bool:=Op.bytesLess a.toList b.toList
def yK:Option ByteArray→List Last→Bool
 | _,[]=>true
 | none,x :: r=>zy x && yK (some x.name) r
 | some p,x :: r=>zy x && (yN p x.name && yK (some x.name) r)
def yz (xs:List Last):Bool:=yK none xs && decide (xs.length≤30)
def ve (xs:List Last) (k:Nat):Option ByteArray:=if k=0 then none else xs[k - 1]?.map (·.name)
theorem qK {xs:List Last} {k:Nat} {x:Last} (hx:xs[k]?=some x):ve xs (k + 1)=some x.name:=by unfold ve;simp [hx]
theorem mY {xs:List Last} {x:Last} (hx:xs[0]?=some x):yK (ve xs 0) (xs.drop 0)=(zy x && yK (ve xs 1) (xs.drop 1)):=by
 rw [qK hx,yY hx];rfl
theorem kN {xs:List Last} {j:Nat} {y x:Last} (hy:xs[j]?=some y) (hx:xs[j + 1]?=some x):yK (ve xs (j + 1)) (xs.drop (j + 1))=(zy x && (yN y.name x.name && yK (ve xs (j + 1 + 1)) (xs.drop (j + 1 + 1)))):=by
 rw [qK hy,qK hx,yY hx];rfl
theorem gF {xs:List Last} {k:Nat} {x:Last} (hx:xs[k]?=some x) (hb:zy x=false):yK (ve xs k) (xs.drop k)=false:=by
 rw [yY hx];cases ve xs k <;> simp [yK,hb]
theorem gG {xs:List Last} {k:Nat} (h:xs.length≤k):yK (ve xs k) (xs.drop k)=true:=by
 rw [List.drop_eq_nil_of_le h];cases ve xs k <;> rfl
theorem zF {a w:World} {g:Nat} (h:Below a.heap.size a w) (hg:a.heap.size≤g) (cs:Array Value):Below a.heap.size a (w.setRow g cs):=
 zh h (⟨rfl,rfl,rfl,by simp,fun i _ hne=>setRow_other w g i cs (fun e=>hne (by rw [e]))⟩:w.grownBy (w.setRow g cs) (some g)) (fun k e=>by injection e with e;omega)
theorem kD (x:Last) (w:World):Calls Tryz.prog 129 #[.agg #[.string x.name,.int .i64 x.length,.int .i64 x.b,.int .i64 x.i,.int .i64 x.h,.int .i64 x.p]] w (Ret (.agg #[.int .i64 x.length,.int .i64 x.b,.int .i64 x.i,.int .i64 x.h]) w):=by
 obtain ⟨W,hW⟩:=zN ((w.alloc (Obj.cells (cL x) 100)).alloc (Obj.cells cG 27));obtain ⟨g,hg⟩:=zN w.heap.size;obtain ⟨gr,hgr⟩:=zN (w.heap.size + 1);have hv:Below w.heap.size w W:=by rw [hW];exact zc (zc (Below.refl _ _) _) _
 have hB:Blk W g 100 (cL x):=by rw [hW,hg];exact (Blk.new _ _ _).alloc _
 have hR:Hid (Blk W gr 27 cG):=qH (by
  have h:=Blk.new (w.alloc (Obj.cells (cL x) 100)) 27 cG;rw [World.size_alloc] at h;rw [hW,hgr];exact h)
 have hge:w.heap.size≤gr:=by omega
 have HW:=qH hW;have HG:=qH hg;have HGR:=qH hgr;clear hW hg hgr;obtain ⟨k0,k1,k2,k3,k4,k5⟩:=qC6 hB;clear hB;go_enter Tryz.func129,Tryz.ntmps129;go_upto_region 1 with fail;rw [←HW.out,←HGR.out,←HG.out];clear HW HG HGR;go_wp2_with (refine wpList_store_row rfl 27 _ _ rfl gr (cH x) rfl rfl 27 _ hR.out (by kernel_rfl) rfl (by simp [Value.oneCell']) ?_)
 try simp only [Exit.inBlock,Exit.then]
 refine bodyPost_ret (results_cell_row (P:=Tryz.prog) rfl _ _ gr 27 (cH x) (0,0) _ rfl ?_ Tryz.underlying27 rfl (by kernel_rfl)) rfl ?_
 · exact setRow_heap _ _ _ _ _ _ hR.out
 · exact Ret.mk rfl (zF hv hge _)
theorem rB (x:Last) (w:World):Calls Tryz.prog 213 #[.agg #[.string x.name,.int .i64 x.length,.int .i64 x.b,.int .i64 x.i,.int .i64 x.h,.int .i64 x.p]] w (Ret (.agg #[.int .i64 x.length,.int .i64 x.b,.int .i64 x.i,.int .i64 x.h]) w):=by
 obtain ⟨W,hW⟩:=zN ((w.alloc (Obj.cells (cL x) 100)).alloc (Obj.cells cG 27));obtain ⟨g,hg⟩:=zN w.heap.size;obtain ⟨gr,hgr⟩:=zN (w.heap.size + 1);have hv:Below w.heap.size w W:=by rw [hW];exact zc (zc (Below.refl _ _) _) _
 have hB:Blk W g 100 (cL x):=by rw [hW,hg];exact (Blk.new _ _ _).alloc _
 have hR:Hid (Blk W gr 27 cG):=qH (by
  have h:=Blk.new (w.alloc (Obj.cells (cL x) 100)) 27 cG;rw [World.size_alloc] at h;rw [hW,hgr];exact h)
 have hge:w.heap.size≤gr:=by omega
 have HW:=qH hW;have HG:=qH hg;have HGR:=qH hgr;clear hW hg hgr;obtain ⟨k0,k1,k2,k3,k4,k5⟩:=qC6 hB;clear hB;go_enter Tryz.func213,Tryz.ntmps213;go_upto_region 1 with fail;rw [←HW.out,←HGR.out,←HG.out];clear HW HG HGR;go_wp2_with (refine wpList_store_row rfl 27 _ _ rfl gr (cH x) rfl rfl 27 _ hR.out (by kernel_rfl) rfl (by simp [Value.oneCell']) ?_)
 try simp only [Exit.inBlock,Exit.then]
 refine bodyPost_ret (results_cell_row (P:=Tryz.prog) rfl _ _ gr 27 (cH x) (0,0) _ rfl ?_ Tryz.underlying27 rfl (by kernel_rfl)) rfl ?_
 · exact setRow_heap _ _ _ _ _ _ hR.out
 · exact Ret.mk rfl (zF hv hge _)
theorem uv (x:Last) (hs:x.name.size≤9223372036854775807) (w:World):Calls Tryz.prog 117 #[.agg #[.string x.name,.int .i64 x.length,.int .i64 x.b,.int .i64 x.i,.int .i64 x.h,.int .i64 x.p]] w (Ret (.bool (zy x)) w):=by
 have hP:zy x=(zo x.name && yo x.foot && inB x.p 0 1000):=rfl;have H1:=fun w=>xD x.name hs w;have H2:=fun w=>kD x w;have H3:=fun w=>uk x.foot w;have H4:=fun w=>xu x.p 0 1000 w;obtain ⟨b1,e1⟩:=zN (zo x.name);obtain ⟨b2,e2⟩:=zN (yo x.foot);obtain ⟨b3,e3⟩:=zN (inB x.p 0 1000);rw [←e1] at H1 hP;rw [←e2] at H3 hP;rw [←e3] at H4 hP;unfold Last.foot at H3;replace H1:=qH H1;replace H2:=qH H2;replace H3:=qH H3;replace H4:=qH H4;have HP:=qH hP;clear hP e1 e2 e3 hs;obtain ⟨W,hW⟩:=zN (w.alloc (Obj.cells (cL x) 100));obtain ⟨g,hg⟩:=zN w.heap.size;have hv:Below w.heap.size w W:=by rw [hW];exact zc (Below.refl _ _) _
 have hB:Hid (Blk W g 100 (cL x)):=qH (by rw [hW,hg];exact Blk.new _ _ _);have HW:=qH hW;have HG:=qH hg;clear hW hg;obtain ⟨k0,k1,k2,k3,k4,k5⟩:=qC6 hB.out;go_enter Tryz.func117,Tryz.ntmps117;go_upto_region 1 with fail;rw [←HW.out,←HG.out];clear HW HG;cases b1
 · skip
   go_wp2_with fail;refine qR (H1.out _) ?_;go_wp2_with fail;go_returns;exact Ret.mk (vb (by rw [HP.out];rfl)) hv
 cases b2
 · skip
   go_wp2_with fail;refine qR (H1.out _) ?_;go_wp2_with fail;refine qS (H2.out _) fun W2 hb=>?_;replace hv:=za hv hb;replace hB:=qH (hB.out.below hb);clear hb;clear k0 k1 k2 k3 k4 k5;obtain ⟨k0,k1,k2,k3,k4,k5⟩:=qC6 hB.out;go_wp2_with fail;refine qS (H3.out _) fun W3 hb=>?_;replace hv:=za hv hb;replace hB:=qH (hB.out.below hb);clear hb;clear k0 k1 k2 k3 k4 k5;obtain ⟨k0,k1,k2,k3,k4,k5⟩:=qC6 hB.out;go_wp2_with fail;go_returns;exact Ret.mk (vb (by rw [HP.out];rfl)) hv
 · skip
   go_wp2_with fail;refine qR (H1.out _) ?_;go_wp2_with fail;refine qS (H2.out _) fun W2 hb=>?_;replace hv:=za hv hb;replace hB:=qH (hB.out.below hb);clear hb;clear k0 k1 k2 k3 k4 k5;obtain ⟨k0,k1,k2,k3,k4,k5⟩:=qC6 hB.out;go_wp2_with fail;refine qS (H3.out _) fun W3 hb=>?_;replace hv:=za hv hb;replace hB:=qH (hB.out.below hb);clear hb;clear k0 k1 k2 k3 k4 k5;obtain ⟨k0,k1,k2,k3,k4,k5⟩:=qC6 hB.out;go_wp2_with fail;refine qR (H4.out _) ?_;go_wp2_with fail;go_returns;exact Ret.mk (vb (by rw [HP.out];rfl)) hv
theorem tG (x:Last) (hs:x.name.size≤9223372036854775807) (w:World):Calls Tryz.prog 149 #[.agg #[.string x.name,.int .i64 x.length,.int .i64 x.b,.int .i64 x.i,.int .i64 x.h,.int .i64 x.p]] w (Ret (.bool (zy x)) w):=by
 have hP:zy x=(zo x.name && yo x.foot && inB x.p 0 1000):=rfl;have H1:=fun w=>xn x.name hs w;have H2:=fun w=>rB x w;have H3:=fun w=>po x.foot w;have H4:=fun w=>xJ x.p 0 1000 w;obtain ⟨b1,e1⟩:=zN (zo x.name);obtain ⟨b2,e2⟩:=zN (yo x.foot);obtain ⟨b3,e3⟩:=zN (inB x.p 0 1000);rw [←e1] at H1 hP;rw [←e2] at H3 hP;rw [←e3] at H4 hP;unfold Last.foot at H3;replace H1:=qH H1;replace H2:=qH H2;replace H3:=qH H3;replace H4:=qH H4;have HP:=qH hP;clear hP e1 e2 e3 hs;obtain ⟨W,hW⟩:=zN (w.alloc (Obj.cells (cL x) 100));obtain ⟨g,hg⟩:=zN w.heap.size;have hv:Below w.heap.size w W:=by rw [hW];exact zc (Below.refl _ _) _
 have hB:Hid (Blk W g 100 (cL x)):=qH (by rw [hW,hg];exact Blk.new _ _ _);have HW:=qH hW;have HG:=qH hg;clear hW hg;obtain ⟨k0,k1,k2,k3,k4,k5⟩:=qC6 hB.out;go_enter Tryz.func149,Tryz.ntmps149;go_upto_region 1 with fail;rw [←HW.out,←HG.out];clear HW HG;cases b1
 · skip
   go_wp2_with fail;refine qR (H1.out _) ?_;go_wp2_with fail;go_returns;exact Ret.mk (vb (by rw [HP.out];rfl)) hv
 cases b2
 · skip
   go_wp2_with fail;refine qR (H1.out _) ?_;go_wp2_with fail;refine qS (H2.out _) fun W2 hb=>?_;replace hv:=za hv hb;replace hB:=qH (hB.out.below hb);clear hb;clear k0 k1 k2 k3 k4 k5;obtain ⟨k0,k1,k2,k3,k4,k5⟩:=qC6 hB.out;go_wp2_with fail;refine qS (H3.out _) fun W3 hb=>?_;replace hv:=za hv hb;replace hB:=qH (hB.out.below hb);clear hb;clear k0 k1 k2 k3 k4 k5;obtain ⟨k0,k1,k2,k3,k4,k5⟩:=qC6 hB.out;go_wp2_with fail;go_returns;exact Ret.mk (vb (by rw [HP.out];rfl)) hv
 · skip
   go_wp2_with fail;refine qR (H1.out _) ?_;go_wp2_with fail;refine qS (H2.out _) fun W2 hb=>?_;replace hv:=za hv hb;replace hB:=qH (hB.out.below hb);clear hb;clear k0 k1 k2 k3 k4 k5;obtain ⟨k0,k1,k2,k3,k4,k5⟩:=qC6 hB.out;go_wp2_with fail;refine qS (H3.out _) fun W3 hb=>?_;replace hv:=za hv hb;replace hB:=qH (hB.out.below hb);clear hb;clear k0 k1 k2 k3 k4 k5;obtain ⟨k0,k1,k2,k3,k4,k5⟩:=qC6 hB.out;go_wp2_with fail;refine qR (H4.out _) ?_;go_wp2_with fail;go_returns;exact Ret.mk (vb (by rw [HP.out];rfl)) hv
theorem uT (A:Option Addr) (xs:List Last) (n c:Nat) (hn:Hid (xs.length=n)) (hm:(n:Int)≤1048576) (hs:Hid (∀ x ∈ xs,x.name.size≤9223372036854775807)) (w:World) (hA:Arr w A (zd Last.cells xs)):Calls Tryz.prog 61 #[.slice A n c] w (Ret (.bool (yz xs)) w):=by
 have HA:=qH hA;clear hA;go_enter Tryz.func61,Tryz.ntmps61;go_wp2_with fail;have hR:=qH (show yK none xs=yK (ve xs 0) (xs.drop 0) from rfl)
 go_loopw [7] (fun i wr=>∃ k:Nat,k≤n∧i=.int .i64 k∧Hid (yK none xs=yK (ve xs k) (xs.drop k))∧Below w.heap.size w wr) (fun i _=>n - (intOf i).toNat)
 case atStart=>exact ⟨0,by omega,rfl,hR,Below.refl _ _⟩
 case round=>
 clear hR;obtain ⟨k,hk,rfl,hR,hv⟩:=hrel;have hk0:(0:Int)≤(k:Int):=by omega
 by_cases hlt:k < n
 case neg=>
  have hkn:¬ (k:Int) < (n:Int):=by omega
  have HE:=qH (show yz xs=decide ((n:Int)≤30) by
   unfold yz;rw [hR.out,gG (by rw [hn.out];omega),hn.out,Bool.true_and,decide_eq_decide];omega)
  clear hR;go_wp2_with fail;go_returns;exact Ret.mk (vb HE.out.symm) hv
 case pos=>
 have hk1:(k:Int) < (n:Int):=by omega
 obtain ⟨x,hx⟩:=zx (xs:=xs) (k:=k) (by rw [hn.out];exact hlt);obtain ⟨ad,rfl,hab,c0,c1,c2,c3,c4,c5⟩:=Last.at_ (HA.out.below hv) hx;have HC:=fun w=>uv x (hs.out x (List.mem_of_getElem? hx)) w;obtain ⟨b,hb⟩:=zN (zy x);rw [←hb] at HC;replace HC:=qH HC;have HX:=qH hx;have HB:=qH hb.symm;clear hx hb;cases b
 · skip
   have HN:=qH (show yK none xs=false from hR.out.trans (gF HX.out HB.out));clear hR;go_upto_region 4 with fail;obtain ⟨V,hV⟩:=zN (World.alloc wr (Obj.cells (cL x) 100));obtain ⟨gb,hgb⟩:=zN wr.heap.size;have hBX:Blk V gb 100 (cL x):=by rw [hV,hgb];exact Blk.new _ _ _
   have hb0:Below wr.heap.size wr V:=by rw [hV];exact zc (Below.refl _ _) _
   rw [←hV,←hgb];clear hV hgb;replace hv:=za hv hb0;replace c0:=zb hb0 c0;have q0:V.cell? ⟨gb,0,none⟩=some (.string x.name):=hBX.cell 0;replace c1:=zb hb0 c1;have q1:V.cell? ⟨gb,1,none⟩=some (.int .i64 x.length):=hBX.cell 1;replace c2:=zb hb0 c2;have q2:V.cell? ⟨gb,2,none⟩=some (.int .i64 x.b):=hBX.cell 2;replace c3:=zb hb0 c3;have q3:V.cell? ⟨gb,3,none⟩=some (.int .i64 x.i):=hBX.cell 3;replace c4:=zb hb0 c4;have q4:V.cell? ⟨gb,4,none⟩=some (.int .i64 x.h):=hBX.cell 4;replace c5:=zb hb0 c5;have q5:V.cell? ⟨gb,5,none⟩=some (.int .i64 x.p):=hBX.cell 5;clear hb0 hBX;refine zH (fun w'=>Below V.heap.size V w'∧True) ?_ (fun hHeld=>?_)
   · exact ⟨(Below.refl _ _).drew,trivial⟩
   have hd9:=hHeld.1;refine zT 0 12 rfl (fun w hSw=>by
    have x_q0:=zb hSw.1 q0;have x_q1:=zb hSw.1 q1;have x_q2:=zb hSw.1 q2;have x_q3:=zb hSw.1 q3;have x_q4:=zb hSw.1 q4;have x_q5:=zb hSw.1 q5;go_simp;try with_reducible rfl) ?_
   refine zR 1 (some 13) rfl (fun K hK=>?_);go_simp;go_split_ands;refine qS (HC.out _) fun V1 hb9=>?_;replace hd9:=za hd9 hb9;clear hb9;go_wp2_with fail;refine zK hK ⟨hd9,trivial⟩ (fun hHeld=>?_);clear hK K;refine zU 2 14 ?_;refine zU 3 15 ?_;refine zS 4 16 ?_;refine zS 5 17 ?_;refine zS 6 18 ?_;refine zS 7 19 ?_;refine zS 8 20 ?_;refine zS 9 21 ?_;refine zS 10 22 ?_;refine zS 11 23 ?_;refine zS 12 24 ?_;refine zS 13 25 ?_;refine zS 14 26 ?_;refine zS 15 27 ?_;refine zS 16 28 ?_;refine zU 17 29 ?_;refine zD ?_;clear hHeld;replace hv:=za hv hd9;go_wp2_with fail;go_returns;exact Ret.mk (vb (by unfold yz;rw [HN.out];rfl)) hv
 by_cases hk9:k=0
 · have HN:=qH (show yK none xs=yK (ve xs (k + 1)) (xs.drop (k + 1)) from hR.out.trans (by have h:=HX.out;rw [hk9] at h ⊢;rw [mY h,HB.out];rfl));have hg1:decide ((0:Int) < (k:Int))=false:=decide_eq_false (by omega);have hg2:¬ (0:Int) < (k:Int):=by omega
   have hg3:¬ 0 < k:=by omega
   clear hR hk9;go_upto_region 4 with fail;obtain ⟨V,hV⟩:=zN (World.alloc wr (Obj.cells (cL x) 100));obtain ⟨gb,hgb⟩:=zN wr.heap.size;have hBX:Blk V gb 100 (cL x):=by rw [hV,hgb];exact Blk.new _ _ _
   have hb0:Below wr.heap.size wr V:=by rw [hV];exact zc (Below.refl _ _) _
   rw [←hV,←hgb];clear hV hgb;replace hv:=za hv hb0;replace c0:=zb hb0 c0;have q0:V.cell? ⟨gb,0,none⟩=some (.string x.name):=hBX.cell 0;replace c1:=zb hb0 c1;have q1:V.cell? ⟨gb,1,none⟩=some (.int .i64 x.length):=hBX.cell 1;replace c2:=zb hb0 c2;have q2:V.cell? ⟨gb,2,none⟩=some (.int .i64 x.b):=hBX.cell 2;replace c3:=zb hb0 c3;have q3:V.cell? ⟨gb,3,none⟩=some (.int .i64 x.i):=hBX.cell 3;replace c4:=zb hb0 c4;have q4:V.cell? ⟨gb,4,none⟩=some (.int .i64 x.h):=hBX.cell 4;replace c5:=zb hb0 c5;have q5:V.cell? ⟨gb,5,none⟩=some (.int .i64 x.p):=hBX.cell 5;clear hb0 hBX;refine zH (fun w'=>Below V.heap.size V w'∧True) ?_ (fun hHeld=>?_)
   · exact ⟨(Below.refl _ _).drew,trivial⟩
   have hd9:=hHeld.1;refine zT 0 12 rfl (fun w hSw=>by
    have x_q0:=zb hSw.1 q0;have x_q1:=zb hSw.1 q1;have x_q2:=zb hSw.1 q2;have x_q3:=zb hSw.1 q3;have x_q4:=zb hSw.1 q4;have x_q5:=zb hSw.1 q5;go_simp;try with_reducible rfl) ?_
   refine zR 1 (some 13) rfl (fun K hK=>?_);go_simp;go_split_ands;refine qS (HC.out _) fun V1 hb9=>?_;replace hd9:=za hd9 hb9;clear hb9;go_wp2_with fail;refine zK hK ⟨hd9,trivial⟩ (fun hHeld=>?_);clear hK K;refine zU 2 14 ?_;refine zU 3 15 ?_;refine zU 4 16 ?_;refine zU 5 17 ?_;refine zU 6 18 ?_;refine zS 7 19 ?_;refine zS 8 20 ?_;refine zS 9 21 ?_;refine zS 10 22 ?_;refine zS 11 23 ?_;refine zS 12 24 ?_;refine zS 13 25 ?_;refine zS 14 26 ?_;refine zS 15 27 ?_;refine zU 16 28 ?_;refine zU 17 29 ?_;refine zD ?_;clear hHeld;replace hv:=za hv hd9;go_wp2_with fail;exact ⟨⟨k + 1,by omega,by go_num,HN,hv⟩,by simp [intOf];omega⟩
 obtain ⟨j,hj⟩:∃ j,k=j + 1:=⟨k - 1,by omega⟩
 obtain ⟨y,hy⟩:=zx (xs:=xs) (k:=j) (by rw [hn.out];omega);obtain ⟨ad',e',_,d0,_,_,_,_,_⟩:=Last.at_ (HA.out.below hv) hy;injection e' with e';subst e';have hN:yK none xs=(zy x && (yN y.name x.name && yK (ve xs (k + 1)) (xs.drop (k + 1)))):=by
  have h:=HX.out;rw [hR.out];rw [hj] at h ⊢;exact kN hy h
 rw [HB.out,Bool.true_and] at hN;have hw1:IntKind.i64.wrap ((k:Int) - 1)=(j:Int):=IntWalk.i64_in _ (by omega) |>.trans (by omega);have hw2:IntKind.i64.wrap (j:Int)=(j:Int):=IntWalk.i64_in _ (by omega);have hj0:(0:Int)≤(j:Int):=by omega
 have hj1:(j:Int) < (n:Int):=by omega
 have hj2:((j:Int)).toNat=j:=by omega
 have hj3:j < n:=by omega
 have hjp:(0:Int) < (k:Int):=by omega
 have hjq:0 < k:=by omega
 obtain ⟨lb,hlb⟩:=zN (yN y.name x.name);have hl:Op.bytesLess y.name.toList x.name.toList=lb:=hlb.symm;rw [←hlb] at hN;have HN0:=qH hN;clear hN hlb hR hy hk9 hj;cases lb
 · skip
   have HN:=qH (HN0.out.trans (Bool.false_and _));go_upto_region 4 with fail;obtain ⟨V,hV⟩:=zN (World.alloc wr (Obj.cells (cL x) 100));obtain ⟨gb,hgb⟩:=zN wr.heap.size;have hBX:Blk V gb 100 (cL x):=by rw [hV,hgb];exact Blk.new _ _ _
   have hb0:Below wr.heap.size wr V:=by rw [hV];exact zc (Below.refl _ _) _
   rw [←hV,←hgb];clear hV hgb;replace hv:=za hv hb0;replace c0:=zb hb0 c0;have q0:V.cell? ⟨gb,0,none⟩=some (.string x.name):=hBX.cell 0;replace c1:=zb hb0 c1;have q1:V.cell? ⟨gb,1,none⟩=some (.int .i64 x.length):=hBX.cell 1;replace c2:=zb hb0 c2;have q2:V.cell? ⟨gb,2,none⟩=some (.int .i64 x.b):=hBX.cell 2;replace c3:=zb hb0 c3;have q3:V.cell? ⟨gb,3,none⟩=some (.int .i64 x.i):=hBX.cell 3;replace c4:=zb hb0 c4;have q4:V.cell? ⟨gb,4,none⟩=some (.int .i64 x.h):=hBX.cell 4;replace c5:=zb hb0 c5;have q5:V.cell? ⟨gb,5,none⟩=some (.int .i64 x.p):=hBX.cell 5;replace d0:=zb hb0 d0;clear hb0 hBX;refine zH (fun w'=>Below V.heap.size V w'∧True) ?_ (fun hHeld=>?_)
   · exact ⟨(Below.refl _ _).drew,trivial⟩
   have hd9:=hHeld.1;refine zT 0 12 rfl (fun w hSw=>by
    have x_q0:=zb hSw.1 q0;have x_q1:=zb hSw.1 q1;have x_q2:=zb hSw.1 q2;have x_q3:=zb hSw.1 q3;have x_q4:=zb hSw.1 q4;have x_q5:=zb hSw.1 q5;go_simp;try with_reducible rfl) ?_
   refine zR 1 (some 13) rfl (fun K hK=>?_);go_simp;go_split_ands;refine qS (HC.out _) fun V1 hb9=>?_;replace hd9:=za hd9 hb9;clear hb9;go_wp2_with fail;refine zK hK ⟨hd9,trivial⟩ (fun hHeld=>?_);clear hK K;refine zU 2 14 ?_;refine zU 3 15 ?_;refine zU 4 16 ?_;refine zU 5 17 ?_;refine zU 6 18 ?_;refine zU 7 19 ?_;refine zU 8 20 ?_;refine zU 9 21 ?_;refine zU 10 22 ?_;refine zU 11 23 ?_;refine zT 12 24 rfl (fun w hSw=>by
    have x_d0:=zb hSw.1 d0;go_simp;try with_reducible rfl) ?_
   refine zU 13 25 ?_;refine zT 14 26 rfl (fun w hSw=>by
    have x_q0:=zb hSw.1 q0;go_simp;try with_reducible rfl) ?_
   refine zU 15 27 ?_;refine zU 16 28 ?_;refine zU 17 29 ?_;refine zD ?_;clear hHeld;replace hv:=za hv hd9;go_wp2_with fail;go_returns;exact Ret.mk (vb (by unfold yz;rw [HN.out];rfl)) hv
 · skip
   have HN:=qH (HN0.out.trans (Bool.true_and _));go_upto_region 4 with fail;obtain ⟨V,hV⟩:=zN (World.alloc wr (Obj.cells (cL x) 100));obtain ⟨gb,hgb⟩:=zN wr.heap.size;have hBX:Blk V gb 100 (cL x):=by rw [hV,hgb];exact Blk.new _ _ _
   have hb0:Below wr.heap.size wr V:=by rw [hV];exact zc (Below.refl _ _) _
   rw [←hV,←hgb];clear hV hgb;replace hv:=za hv hb0;replace c0:=zb hb0 c0;have q0:V.cell? ⟨gb,0,none⟩=some (.string x.name):=hBX.cell 0;replace c1:=zb hb0 c1;have q1:V.cell? ⟨gb,1,none⟩=some (.int .i64 x.length):=hBX.cell 1;replace c2:=zb hb0 c2;have q2:V.cell? ⟨gb,2,none⟩=some (.int .i64 x.b):=hBX.cell 2;replace c3:=zb hb0 c3;have q3:V.cell? ⟨gb,3,none⟩=some (.int .i64 x.i):=hBX.cell 3;replace c4:=zb hb0 c4;have q4:V.cell? ⟨gb,4,none⟩=some (.int .i64 x.h):=hBX.cell 4;replace c5:=zb hb0 c5;have q5:V.cell? ⟨gb,5,none⟩=some (.int .i64 x.p):=hBX.cell 5;replace d0:=zb hb0 d0;clear hb0 hBX;refine zH (fun w'=>Below V.heap.size V w'∧True) ?_ (fun hHeld=>?_)
   · exact ⟨(Below.refl _ _).drew,trivial⟩
   have hd9:=hHeld.1;refine zT 0 12 rfl (fun w hSw=>by
    have x_q0:=zb hSw.1 q0;have x_q1:=zb hSw.1 q1;have x_q2:=zb hSw.1 q2;have x_q3:=zb hSw.1 q3;have x_q4:=zb hSw.1 q4;have x_q5:=zb hSw.1 q5;go_simp;try with_reducible rfl) ?_
   refine zR 1 (some 13) rfl (fun K hK=>?_);go_simp;go_split_ands;refine qS (HC.out _) fun V1 hb9=>?_;replace hd9:=za hd9 hb9;clear hb9;go_wp2_with fail;refine zK hK ⟨hd9,trivial⟩ (fun hHeld=>?_);clear hK K;refine zU 2 14 ?_;refine zU 3 15 ?_;refine zU 4 16 ?_;refine zU 5 17 ?_;refine zU 6 18 ?_;refine zU 7 19 ?_;refine zU 8 20 ?_;refine zU 9 21 ?_;refine zU 10 22 ?_;refine zU 11 23 ?_;refine zT 12 24 rfl (fun w hSw=>by
    have x_d0:=zb hSw.1 d0;go_simp;try with_reducible rfl) ?_
   refine zU 13 25 ?_;refine zT 14 26 rfl (fun w hSw=>by
    have x_q0:=zb hSw.1 q0;go_simp;try with_reducible rfl) ?_
   refine zU 15 27 ?_;refine zU 16 28 ?_;refine zU 17 29 ?_;refine zD ?_;clear hHeld;replace hv:=za hv hd9;go_wp2_with fail;exact ⟨⟨k + 1,by omega,by go_num,HN,hv⟩,by simp [intOf];omega⟩
theorem pT (A:Option Addr) (xs:List Last) (n c:Nat) (hn:Hid (xs.length=n)) (hm:(n:Int)≤1048576) (hs:Hid (∀ x ∈ xs,x.name.size≤9223372036854775807)) (w:World) (hA:Arr w A (zd Last.cells xs)):Calls Tryz.prog 92 #[.slice A n c] w (Ret (.bool (yz xs)) w):=by
 have HA:=qH hA;clear hA;go_enter Tryz.func92,Tryz.ntmps92;go_wp2_with fail;have hR:=qH (show yK none xs=yK (ve xs 0) (xs.drop 0) from rfl)
 go_loopw [3] (fun i wr=>∃ k:Nat,k≤n∧i=.int .i64 k∧Hid (yK none xs=yK (ve xs k) (xs.drop k))∧Below w.heap.size w wr) (fun i _=>n - (intOf i).toNat)
 case atStart=>exact ⟨0,by omega,rfl,hR,Below.refl _ _⟩
 case round=>
 clear hR;obtain ⟨k,hk,rfl,hR,hv⟩:=hrel;have hk0:(0:Int)≤(k:Int):=by omega
 by_cases hlt:k < n
 case neg=>
  have hkn:¬ (k:Int) < (n:Int):=by omega
  have HE:=qH (show yz xs=decide ((n:Int)≤30) by
   unfold yz;rw [hR.out,gG (by rw [hn.out];omega),hn.out,Bool.true_and,decide_eq_decide];omega)
  clear hR;go_wp2_with fail;go_returns;exact Ret.mk (vb HE.out.symm) hv
 case pos=>
 have hk1:(k:Int) < (n:Int):=by omega
 obtain ⟨x,hx⟩:=zx (xs:=xs) (k:=k) (by rw [hn.out];exact hlt);obtain ⟨ad,rfl,hab,c0,c1,c2,c3,c4,c5⟩:=Last.at_ (HA.out.below hv) hx;have HC:=fun w=>tG x (hs.out x (List.mem_of_getElem? hx)) w;obtain ⟨b,hb⟩:=zN (zy x);rw [←hb] at HC;replace HC:=qH HC;have HX:=qH hx;have HB:=qH hb.symm;clear hx hb;cases b
 · skip
   have HN:=qH (show yK none xs=false from hR.out.trans (gF HX.out HB.out));clear hR;go_wp2_with fail;refine zH (fun w'=>Below wr.heap.size wr w'∧True) ?_ (fun hHeld=>?_)
   · exact ⟨(Below.refl _ _).drew,trivial⟩
   have hd9:=hHeld.1;refine zU 0 10 ?_;refine zU 1 11 ?_;refine zU 2 12 ?_;refine zT 3 13 rfl (fun w hSw=>by
    have x_c0:=zb hSw.1 c0;have x_c1:=zb hSw.1 c1;have x_c2:=zb hSw.1 c2;have x_c3:=zb hSw.1 c3;have x_c4:=zb hSw.1 c4;have x_c5:=zb hSw.1 c5;go_simp;try with_reducible rfl) ?_
   refine zR 4 (some 14) rfl (fun K hK=>?_);go_simp;go_split_ands;refine qS (HC.out _) fun V1 hb9=>?_;replace hd9:=za hd9 hb9;clear hb9;go_wp2_with fail;refine zK hK ⟨hd9,trivial⟩ (fun hHeld=>?_);clear hK K;refine zU 5 15 ?_;refine zU 6 16 ?_;refine zS 7 17 ?_;refine zS 8 18 ?_;refine zS 9 19 ?_;refine zS 10 20 ?_;refine zS 11 21 ?_;refine zS 12 22 ?_;refine zS 13 23 ?_;refine zS 14 24 ?_;refine zS 15 25 ?_;refine zS 16 26 ?_;refine zS 17 27 ?_;refine zS 18 28 ?_;refine zS 19 29 ?_;refine zS 20 30 ?_;refine zS 21 31 ?_;refine zS 22 32 ?_;refine zU 23 33 ?_;refine zD ?_;clear hHeld;replace hv:=za hv hd9;go_wp2_with fail;go_returns;exact Ret.mk (vb (by unfold yz;rw [HN.out];rfl)) hv
 by_cases hk9:k=0
 · have HN:=qH (show yK none xs=yK (ve xs (k + 1)) (xs.drop (k + 1)) from hR.out.trans (by have h:=HX.out;rw [hk9] at h ⊢;rw [mY h,HB.out];rfl));have hg1:decide ((0:Int) < (k:Int))=false:=decide_eq_false (by omega);have hg2:¬ (0:Int) < (k:Int):=by omega
   have hg3:¬ 0 < k:=by omega
   clear hR hk9;go_wp2_with fail;refine zH (fun w'=>Below wr.heap.size wr w'∧True) ?_ (fun hHeld=>?_)
   · exact ⟨(Below.refl _ _).drew,trivial⟩
   have hd9:=hHeld.1;refine zU 0 10 ?_;refine zU 1 11 ?_;refine zU 2 12 ?_;refine zT 3 13 rfl (fun w hSw=>by
    have x_c0:=zb hSw.1 c0;have x_c1:=zb hSw.1 c1;have x_c2:=zb hSw.1 c2;have x_c3:=zb hSw.1 c3;have x_c4:=zb hSw.1 c4;have x_c5:=zb hSw.1 c5;go_simp;try with_reducible rfl) ?_
   refine zR 4 (some 14) rfl (fun K hK=>?_);go_simp;go_split_ands;refine qS (HC.out _) fun V1 hb9=>?_;replace hd9:=za hd9 hb9;clear hb9;go_wp2_with fail;refine zK hK ⟨hd9,trivial⟩ (fun hHeld=>?_);clear hK K;refine zU 5 15 ?_;refine zU 6 16 ?_;refine zU 7 17 ?_;refine zU 8 18 ?_;refine zU 9 19 ?_;refine zS 10 20 ?_;refine zS 11 21 ?_;refine zS 12 22 ?_;refine zS 13 23 ?_;refine zS 14 24 ?_;refine zS 15 25 ?_;refine zS 16 26 ?_;refine zS 17 27 ?_;refine zS 18 28 ?_;refine zS 19 29 ?_;refine zS 20 30 ?_;refine zS 21 31 ?_;refine zU 22 32 ?_;refine zU 23 33 ?_;refine zD ?_;clear hHeld;replace hv:=za hv hd9;go_wp2_with fail;exact ⟨⟨k + 1,by omega,by go_num,HN,hv⟩,by simp [intOf];omega⟩
 obtain ⟨j,hj⟩:∃ j,k=j + 1:=⟨k - 1,by omega⟩
 obtain ⟨y,hy⟩:=zx (xs:=xs) (k:=j) (by rw [hn.out];omega);obtain ⟨ad',e',_,d0,_,_,_,_,_⟩:=Last.at_ (HA.out.below hv) hy;injection e' with e';subst e';have hN:yK none xs=(zy x && (yN y.name x.name && yK (ve xs (k + 1)) (xs.drop (k + 1)))):=by
  have h:=HX.out;rw [hR.out];rw [hj] at h ⊢;exact kN hy h
 rw [HB.out,Bool.true_and] at hN;have hw1:IntKind.i64.wrap ((k:Int) - 1)=(j:Int):=IntWalk.i64_in _ (by omega) |>.trans (by omega);have hw2:IntKind.i64.wrap (j:Int)=(j:Int):=IntWalk.i64_in _ (by omega);have hj0:(0:Int)≤(j:Int):=by omega
 have hj1:(j:Int) < (n:Int):=by omega
 have hj2:((j:Int)).toNat=j:=by omega
 have hj3:j < n:=by omega
 have hjp:(0:Int) < (k:Int):=by omega
 have hjq:0 < k:=by omega
 obtain ⟨lb,hlb⟩:=zN (yN y.name x.name);have hl:Op.bytesLess y.name.toList x.name.toList=lb:=hlb.symm;rw [←hlb] at hN;have HN0:=qH hN;clear hN hlb hR hy hk9 hj;cases lb
 · skip
   have HN:=qH (HN0.out.trans (Bool.false_and _));go_wp2_with fail;refine zH (fun w'=>Below wr.heap.size wr w'∧True) ?_ (fun hHeld=>?_)
   · exact ⟨(Below.refl _ _).drew,trivial⟩
   have hd9:=hHeld.1;refine zU 0 10 ?_;refine zU 1 11 ?_;refine zU 2 12 ?_;refine zT 3 13 rfl (fun w hSw=>by
    have x_c0:=zb hSw.1 c0;have x_c1:=zb hSw.1 c1;have x_c2:=zb hSw.1 c2;have x_c3:=zb hSw.1 c3;have x_c4:=zb hSw.1 c4;have x_c5:=zb hSw.1 c5;go_simp;try with_reducible rfl) ?_
   refine zR 4 (some 14) rfl (fun K hK=>?_);go_simp;go_split_ands;refine qS (HC.out _) fun V1 hb9=>?_;replace hd9:=za hd9 hb9;clear hb9;go_wp2_with fail;refine zK hK ⟨hd9,trivial⟩ (fun hHeld=>?_);clear hK K;refine zU 5 15 ?_;refine zU 6 16 ?_;refine zU 7 17 ?_;refine zU 8 18 ?_;refine zU 9 19 ?_;refine zU 10 20 ?_;refine zU 11 21 ?_;refine zU 12 22 ?_;refine zU 13 23 ?_;refine zU 14 24 ?_;refine zT 15 25 rfl (fun w hSw=>by
    have x_d0:=zb hSw.1 d0;go_simp;try with_reducible rfl) ?_
   refine zU 16 26 ?_;refine zU 17 27 ?_;refine zU 18 28 ?_;refine zU 19 29 ?_;refine zT 20 30 rfl (fun w hSw=>by
    have x_c0:=zb hSw.1 c0;go_simp;try with_reducible rfl) ?_
   refine zU 21 31 ?_;refine zU 22 32 ?_;refine zU 23 33 ?_;refine zD ?_;clear hHeld;replace hv:=za hv hd9;go_wp2_with fail;go_returns;exact Ret.mk (vb (by unfold yz;rw [HN.out];rfl)) hv
 · skip
   have HN:=qH (HN0.out.trans (Bool.true_and _));go_wp2_with fail;refine zH (fun w'=>Below wr.heap.size wr w'∧True) ?_ (fun hHeld=>?_)
   · exact ⟨(Below.refl _ _).drew,trivial⟩
   have hd9:=hHeld.1;refine zU 0 10 ?_;refine zU 1 11 ?_;refine zU 2 12 ?_;refine zT 3 13 rfl (fun w hSw=>by
    have x_c0:=zb hSw.1 c0;have x_c1:=zb hSw.1 c1;have x_c2:=zb hSw.1 c2;have x_c3:=zb hSw.1 c3;have x_c4:=zb hSw.1 c4;have x_c5:=zb hSw.1 c5;go_simp;try with_reducible rfl) ?_
   refine zR 4 (some 14) rfl (fun K hK=>?_);go_simp;go_split_ands;refine qS (HC.out _) fun V1 hb9=>?_;replace hd9:=za hd9 hb9;clear hb9;go_wp2_with fail;refine zK hK ⟨hd9,trivial⟩ (fun hHeld=>?_);clear hK K;refine zU 5 15 ?_;refine zU 6 16 ?_;refine zU 7 17 ?_;refine zU 8 18 ?_;refine zU 9 19 ?_;refine zU 10 20 ?_;refine zU 11 21 ?_;refine zU 12 22 ?_;refine zU 13 23 ?_;refine zU 14 24 ?_;refine zT 15 25 rfl (fun w hSw=>by
    have x_d0:=zb hSw.1 d0;go_simp;try with_reducible rfl) ?_
   refine zU 16 26 ?_;refine zU 17 27 ?_;refine zU 18 28 ?_;refine zU 19 29 ?_;refine zT 20 30 rfl (fun w hSw=>by
    have x_c0:=zb hSw.1 c0;go_simp;try with_reducible rfl) ?_
   refine zU 21 31 ?_;refine zU 22 32 ?_;refine zU 23 33 ?_;refine zD ?_;clear hHeld;replace hv:=za hv hd9;go_wp2_with fail;exact ⟨⟨k + 1,by omega,by go_num,HN,hv⟩,by simp [intOf];omega⟩
end Go.Proofs.YtpiehlfffjhoaaaGreatDoor
