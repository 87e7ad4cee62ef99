/- The law FnExactRunDesk holds for every input,the listed tables as the program's text lays them (the card ties them): it returns true,and what came in reads as before. -/
import Derived.Test.YtpiehlfffjhoaaaGreatDoorQ0
import Derived.Test.YtpiehlfffjhoaaaGreatDoorQ1
import Derived.Test.YtpiehlfffjhoaaaGreatDoorQ47
import Derived.OpenShut
namespace Go.Proofs.YtpiehlfffjhoaaaGreatDoor
open Go.ChangeShapes Go.WideShapes Go.ChangeAt Go.RowKit Go.Deep Go.Joins
set_option maxRecDepth 100000
theorem g_Codes : Tryz.prog.globalNamed "loop.example/g01043/impl.codeNames" = some 0 := by kernel_rfl
theorem t_Codes:(Tryz.prog.globals[0]?).map (·.type)=some 107:=by kernel_rfl
theorem g_Chg : Tryz.prog.globalNamed "loop.example/g01043/impl.changeNames" = some 1 := by kernel_rfl
theorem t_Chg:(Tryz.prog.globals[1]?).map (·.type)=some 185:=by kernel_rfl
theorem bP:Tryz.prog.cellsOf 9=1:=by kernel_rfl
theorem bO {s:ByteArray} {l:List UInt8} (h:s.data.toList=l):s=⟨l.toArray⟩:=by
 cases s with
 | mk d=>cases d with
   | mk q=>simp at h;subst h;rfl
theorem gV {H:Type} {W:World} {enc:TypeId × Value→H} {sp:Nat→Bool} {bl:Bool} {nm:String} {g:Nat} {t:TypeId} {N:Nat} {cs:Array Value} {f:Nat} {d:DataW H} {p:List MemPlace} {L:List (List UInt8)} (hu:Tryz.prog.underlying t=some (.array N 9)) (hg:Tryz.prog.globalNamed nm=some g) (hv:W.var? Tryz.prog nm=some cs)
 (hd:DataW.trod enc Tryz.prog W 0 sp bl f t cs.toList=some (d,p)) (hL:d=.agg (L.map fun l=>.lit (.string l))) (i:Nat) (l:List UInt8) (hi:i < N) (hl:L[i]?=some l):W.cell? ⟨g,i,none⟩=some (.string ⟨l.toArray⟩):=by
 obtain ⟨xs,m1,hm,hx1,hlen,hn,hel⟩:=DataW.trod_array hu hd;simp only [Prod.mk.injEq] at hx1;have hcell:World.cell? W ⟨g,i,none⟩=cs.toList[i]?:=by simpa using World.var?_cell hg hv i
 rw [bP] at hel;have h1:=hel i hi;obtain ⟨y,hy⟩:∃ y,xs[i]?=some y:=⟨_,List.getElem?_eq_getElem (by omega)⟩
 rw [hy] at h1;obtain ⟨s,e1,e2,_⟩:=DataW.trod_string Tryz.underlying9 h1;have h2:((cs.toList.drop (i * 1)).take 1)[0]?=some (.string s):=by rw [e1];rfl
 have h3:cs.toList[i]?=some (.string s):=by simpa [List.getElem?_take,List.getElem?_drop] using h2
 have h4:(xs.map (·.1))[i]?=some (.lit (.string s.data.toList)):=by rw [List.getElem?_map,hy,e2];rfl
 have h5:=hx1.1;rw [hL] at h5;simp only [DataW.agg.injEq] at h5;rw [←h5,List.getElem?_map,hl] at h4;have h6:l=s.data.toList:=by simpa using h4
 rw [hcell,h3,bO h6.symm]
theorem rP {W:World} (h:laidMetH Tryz.prog Rows.fnExactRunDeskRow.laid W) (hsh:W.ShapedOpen Tryz.prog):Tabs W∧CdN W∧ChgN W:=by
 rw [MakeChecks.laidMetH_plain _ _ _ (by kernel_rfl)] at h;obtain ⟨ps,⟨_,_,_,_,_,_,_,_,_,_,⟨_,_,_,_,_,_,_,_,_,_,⟨g,t,cs,f,p,q,hg,ht,hv,hd,⟨_,_,_,_,_,_,_,_,_,_,⟨g1,t1,cs1,f1,p1,q1,hg1,ht1,hv1,hd1,⟨g2,t2,cs2,f2,p2,q2,hg2,ht2,hv2,hd2,⟨g0,t0,cs0,f0,p0,q0,hg0,ht0,hv0,hd0,⟨g9,t9,cs9,f9,p9,q9,hg9,ht9,hv9,hd9,_,_⟩,_⟩,_⟩,_⟩,_⟩,_⟩,_⟩,_⟩,_,_⟩:=h;refine ⟨?_,?_,?_⟩
 · refine ⟨?_,zbT hsh,?_,?_⟩
   · obtain rfl:=Option.some.inj (g_pow10.symm.trans hg);obtain rfl:=Option.some.inj (t_pow10.symm.trans ht);rw [eo] at hd;unfold Pow10 Lib.TabIs;rw [hv,←Lib.cells_of_tab Tryz.underlying273 Tryz.underlying89 zch zaV hd]
   · obtain rfl:=Option.some.inj (g_syn.symm.trans hg2);obtain rfl:=Option.some.inj (t_syn.symm.trans ht2);obtain ⟨_,u,v,hcs,_,_⟩:=iface_of_trod Tryz.underlying103 hd2;have hcell:World.cell? W ⟨3,0,none⟩=cs2.toList[0]?:=by simpa using World.var?_cell hg2 hv2 0
     rw [hcs] at hcell;exact ⟨_,hcell,.inr ⟨u,v,rfl⟩⟩
   · obtain rfl:=Option.some.inj (g_rng.symm.trans hg1);obtain rfl:=Option.some.inj (t_rng.symm.trans ht1);obtain ⟨_,u,v,hcs,_,_⟩:=iface_of_trod Tryz.underlying103 hd1;have hcell:World.cell? W ⟨4,0,none⟩=cs1.toList[0]?:=by simpa using World.var?_cell hg1 hv1 0
     rw [hcs] at hcell;exact ⟨_,hcell,.inr ⟨u,v,rfl⟩⟩
 · obtain rfl:=Option.some.inj (g_Codes.symm.trans hg0);obtain rfl:=Option.some.inj (t_Codes.symm.trans ht0);intro k hk;have key:=gV (d:=Rows.laid_loop_example_g01043_impl_codeNames) (L:=[[111,107],[105,110,118,97,108,105,100],[114,97,110,103,101],[110,111,116,45,102,111,117,110,100],[101,120,105,115,116,115],[102,117,108,108],[115,116,97,116,101],[115,121,110,116,97,120],[102,111,114,109,97,116],[99,108,97,115,104],[116,105,103,104,116]]) Tryz.underlying107 hg0 hv0 hd0 (by rfl);rcases (show k=0∨k=1∨k=2∨k=3∨k=4∨k=5∨k=6∨k=7∨k=8∨k=9∨k=10 by omega) with rfl | rfl | rfl | rfl | rfl | rfl | rfl | rfl | rfl | rfl | rfl
   all_goals exact (key _ _ (by omega) rfl).trans (by rfl)
 · obtain rfl:=Option.some.inj (g_Chg.symm.trans hg9);obtain rfl:=Option.some.inj (t_Chg.symm.trans ht9);intro k hk;have key:=gV (d:=Rows.laid_loop_example_g01043_impl_changeNames) (L:=[[],[108,101,110,103,116,104],[98,97,108,108],[105,110,115,116,101,112],[104,101,101,108],[112,105,116,99,104]]) Tryz.underlying185 hg9 hv9 hd9 (by rfl);rcases (show k=0∨k=1∨k=2∨k=3∨k=4∨k=5 by omega) with rfl | rfl | rfl | rfl | rfl | rfl
   all_goals exact (key _ _ (by omega) rfl).trans (by rfl)
theorem rO (os:Os) (started:os.Started) (H:Type) (enc:TypeId × Value→H) :
 ReturnsInHanded {} Tryz.checked os 4 .any (fun w args=>(Rows.fnExactRunDeskSpec.pre enc Tryz.prog Tryz.f4 [] false w args∧laidMetH Tryz.prog Rows.fnExactRunDeskRow.laid w)∧sizedMet enc Tryz.prog Tryz.f4 (OpenSpec.ofChange Rows.fnExactRunDeskSpec) false w args)
  (Rows.fnExactRunDeskSpec.post enc Tryz.prog Tryz.f4 false true false false):=by
 refine ol (C:=Tryz.checked) (X:=fun w _=>laidMetH Tryz.prog Rows.fnExactRunDeskRow.laid w) (fun _ _ _ hh h=>h.of_heap hh) cz started (by kernel_rfl) Tryz.func4
  (ChangeSpec.witness_shaped (enc:=enc) (C:=Tryz.checked) (os:=os) (X:=fun w _=>laidMetH Tryz.prog Rows.fnExactRunDeskRow.laid w) false (World.laidAll Tryz.prog os Rows.fnExactRunDeskRow.laid) #[.string ByteArray.empty] 8 (World.laidAll_os _ _ _)
    (World.shaped_of_ZipB (by kernel_rfl) (by kernel_rfl)) (by kernel_rfl) (by kernel_rfl) (by kernel_rfl)
    (by rw [MakeChecks.laidMetH_plain _ _ _ (by kernel_rfl)];exact laidMet_laidAll _ (by kernel_rfl) (by kernel_rfl))) ?_
 intro W base args ds gs before hval0 hW hL hsh;have hval:∀ (j:Nat) t v,Tryz.f4.params[j]?=some t→args[j]?=some v→Value.okWide Tryz.prog W .any base t v:=hval0;have hW':=hW;obtain ⟨p,q,hA0,hV,rfl,_,_⟩:=hW;have hA:DataW.TrodAll enc Tryz.prog W 0 (fun _=>true) true Tryz.f4.params.toList args.toList ds p:=hA0;rw [Tryz.params4] at hA hval;have hlt0:∀ x ∈ p ++ q,x.block < W.heap.size:=fun x hx=>by simpa using hW'.lt x hx
 obtain ⟨gW,tW,csW,fuelW,dW,pW,gX,tX,csX,fuelX,dX,pX,rfl,hgW,htW,hvarW,hdW,hgX,htX,hvarX,hdX,rfl⟩:=trodVars_two hV;obtain rfl:=Option.some.inj (g_Codes.symm.trans hgW);obtain rfl:=Option.some.inj (t_Codes.symm.trans htW);obtain rfl:=Option.some.inj (g_Chg.symm.trans hgX);obtain rfl:=Option.some.inj (t_Chg.symm.trans htX);have hlt:∀ x ∈ p,x.block < W.heap.size:=fun x hx=>hlt0 x (by simp [hx]);have hargs:∀ W':World,Below W.heap.size W W'→DataW.TrodAll enc Tryz.prog W' 0 (fun b=>decide (b < W.heap.size)) true [9] args.toList ds p:=
  fun W' hb=>lK pu hb _ _ _ _ (by
   intro t ht;simp only [List.mem_cons,List.not_mem_nil,or_false] at ht;rcases ht with rfl <;> exact ⟨by kernel_rfl,of_decide_eq_true (by kernel_rfl)⟩) hA hlt
 obtain ⟨v0,vs0,d0,ds0,p0,q0,hargs',rfl,rfl,h0,r0⟩:=trodAll_cons hA;obtain ⟨rfl,rfl,rfl⟩:=trodAll_nil r0;obtain rfl:args=#[v0]:=by cases args;simp_all
 obtain ⟨s0,rfl,rfl,rfl,ws0⟩:=Go.ChangeMaps.open_string Tryz.underlying9 (hval 0 9 v0 rfl rfl) h0;refine (qW s0 (by have:=ws0;unfold maxLen at this;omega) W (rP hL hsh).1 (rP hL hsh).2.2 (rP hL hsh).2.1).mono fun e W' ⟨he,hb⟩=>?_;subst he;have hTW:DataW.Trod enc Tryz.prog W 0 (fun _=>true) true 107 (.agg csW) dW pW:=⟨fuelW,by
  have h:DataW.trod enc Tryz.prog W 0 (fun _=>true) true fuelW 107 csW.toList=some (dW,pW):=hdW;simpa [Value.cells] using h⟩
 obtain ⟨fuelW',hdW'⟩:=Below.trod pu (by kernel_rfl) (of_decide_eq_true (by kernel_rfl)) hTW hb (fun x hx=>hlt0 x (by simp [hx]));have hvarW':=var?_below hb hgW (block_lt_of_cell ((rP hL hsh).2.1 0 (by omega))) hvarW;have hdW2:DataW.trod enc Tryz.prog W' 0 (fun b=>decide (b < W.heap.size)) true fuelW' 107 csW.toList=some (dW,pW):=by simpa [Value.cells] using hdW'
 have hTX:DataW.Trod enc Tryz.prog W 0 (fun _=>true) true 185 (.agg csX) dX pX:=⟨fuelX,by
  have h:DataW.trod enc Tryz.prog W 0 (fun _=>true) true fuelX 185 csX.toList=some (dX,pX):=hdX;simpa [Value.cells] using h⟩
 obtain ⟨fuelX',hdX'⟩:=Below.trod pu (by kernel_rfl) (of_decide_eq_true (by kernel_rfl)) hTX hb (fun x hx=>hlt0 x (by simp [hx]));have hvarX':=var?_below hb hgX (block_lt_of_cell ((rP hL hsh).2.2 0 (by omega))) hvarX;have hdX2:DataW.trod enc Tryz.prog W' 0 (fun b=>decide (b < W.heap.size)) true fuelX' 185 csX.toList=some (dX,pX):=by simpa [Value.cells] using hdX'
 exact ⟨_,rfl,_,_,_,[],_,_,hW',trodAll_mk1 (shut_bool Tryz.underlying4 _),hargs _ hb,⟨_,_,_,_,_,_,hgW,htW,hvarW',hdW2,trodVars_mk1 hgX htX hvarX' hdX2,rfl⟩,hb.frame _,fun h=>by cases h⟩
theorem qX:Rows.FnExactRunDeskSaid:=
 OpenClaim.holds_of_wide 4 Tryz.f4 rfl rfl rfl rfl rfl rfl rfl ⟨rfl,rfl,rfl,rfl,rfl⟩ rfl rfl rfl rfl rfl (by kernel_rfl) Tryz.func4 (by kernel_rfl)
  (of_decide_eq_true (by kernel_rfl)) (by unfold Func.isWrapper;first | (rw [if_pos (by decide +kernel)];kernel_rfl) | (rw [if_neg (by decide +kernel)];exact ⟨rfl,rfl⟩))
  (fun os started H enc _=>rO os started H enc)
theorem FnExactRunDesk_holds:Rows.FnExactRunDeskCardSaid:=
 Claim7.holds_tied_plain_at .later [] [.data,.data,.data,.data,.sentinel,.sentinel,.data,.widerDeep,.pinned] true (true,(Rows.fnExactRunDeskCard.stood.harness).2) true
  qX (fun _ h=>by cases h) (by kernel_rfl) (fun _ h=>by cases h) fnExactRunDesk_row_tie rfl ⟨rfl,rfl⟩ (by kernel_rfl) rfl
  (fun f fn hf hfn=>by
    obtain rfl : f = 4 := Option.some.inj ((show Tryz.prog.funcNamed "loop.example/g01043/laws.FnExactRunDesk" = some 4 by kernel_rfl).symm.trans hf) |>.symm
    obtain rfl:fn=Tryz.f4:=(Option.some.inj (Tryz.func4.symm.trans hfn)).symm;exact ⟨by kernel_rfl,fun j t ht=>by
     rw [Tryz.params4] at ht;have hm:t ∈ [9]:=by simpa using Array.mem_of_getElem? ht
     have hall:([9].all fun u=>!Tryz.prog.wantsStandIn u)=true:=by kernel_rfl
     exact (show Tryz.prog.wantsStandIn t=false by simpa using List.all_eq_true.1 hall t hm)⟩)
  (by kernel_rfl)
end Go.Proofs.YtpiehlfffjhoaaaGreatDoor
