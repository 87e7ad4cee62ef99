/- The law FnExactDeskCommand,lifted to what came in. -/
import Derived.Test.YtpiehlfffjhoaaaGreatDoorQ48
namespace Go.Proofs.YtpiehlfffjhoaaaGreatDoor
open Go.ChangeShapes Go.WideShapes Go.ChangeAt Go.RowKit Go.Deep Go.Joins Go.Proofs.Tryz
set_option maxRecDepth 100000
theorem g_Codes : prog.globalNamed "loop.example/g01043/impl.codeNames" = some 0 := by kernel_rfl
theorem t_Codes:(prog.globals[0]?).map (·.type)=some 107:=by kernel_rfl
theorem g_Chg : prog.globalNamed "loop.example/g01043/impl.changeNames" = some 1 := by kernel_rfl
theorem t_Chg:(prog.globals[1]?).map (·.type)=some 185:=by kernel_rfl
theorem zas:prog.cellsOf 9=1:=by kernel_rfl
theorem zar{s:ByteArray}{l:List UInt8}(h:s.data.toList=l):s=⟨l.toArray⟩:=by
 cases s with
 | mk d=>cases d with
   | mk q=>simp at h;subst h;rfl
theorem ef{H:Type}{W:World}{enc:TypeId × Value->H}{sp:Nat->Bool}{bl:Bool}{nm:String}{g:Nat}{t:TypeId}{N:Nat}{cs:Array Value}{f:Nat}{d:DataW H}{p:List MemPlace}{L:List (List UInt8)}(hu:prog.underlying t=some (.array N 9))(hg:prog.globalNamed nm=some g)(hv:W.var? prog nm=some cs)(hd:DataW.trod enc prog W 0 sp bl f t cs.toList=some (d,p))(hL:d=.agg (L.map fun l=>.lit (.string l)))(i:Nat)(l:List UInt8)(hi:i < N)(hl:L[i]?=some l):W.cell? ⟨g,i,none⟩=some (.string ⟨l.toArray⟩):=by
 obtain ⟨xs,m1,hm,hx1,hlen,hn,hel⟩:=DataW.trod_array hu hd;simp only [Prod.mk.injEq] at hx1;have hcell:World.cell? W ⟨g,i,none⟩=cs.toList[i]?:=by simpa using World.var?_cell hg hv i
 rw [zas] at hel;have h1:=hel i hi;obtain ⟨y,hy⟩:∃ y,xs[i]?=some y:=⟨_,List.getElem?_eq_getElem (by omega)⟩
 rw [hy] at h1;obtain ⟨s,e1,e2,_⟩:=DataW.trod_string underlying9 h1;have h2:((cs.toList.drop (i * 1)).take 1)[0]?=some (.string s):=by rw [e1];rfl
 have h3:cs.toList[i]?=some (.string s):=by simpa [List.getElem?_take,List.getElem?_drop] using h2
 have h4:(xs.map (·.1))[i]?=some (.lit (.string s.data.toList)):=by rw [List.getElem?_map,hy,e2];rfl
 have h5:=hx1.1;rw [hL] at h5;simp only [DataW.agg.injEq] at h5;rw [<-h5,List.getElem?_map,hl] at h4;have h6:l=s.data.toList:=by simpa using h4
 rw [hcell,h3,zar h6.symm]
theorem qg{W:World}(h:laidMetH prog Rows.fnExactDeskCommandRow.laid W)(hsh:W.ShapedOpen prog):Tabs W/\CdN W/\ChgN W:=by
 rw [MakeChecks.laidMetH_plain _ _ _ (by kernel_rfl)] at h;obtain ⟨ps,⟨_,_,_,_,_,_,_,_,_,_,⟨_,_,_,_,_,_,_,_,_,_,⟨g,t,cs,f,p,q,hg,ht,hv,hd,⟨_,_,_,_,_,_,_,_,_,_,⟨g1,t1,cs1,f1,p1,q1,hg1,ht1,hv1,hd1,⟨g2,t2,cs2,f2,p2,q2,hg2,ht2,hv2,hd2,⟨g0,t0,cs0,f0,p0,q0,hg0,ht0,hv0,hd0,⟨g9,t9,cs9,f9,p9,q9,hg9,ht9,hv9,hd9,_,_⟩,_⟩,_⟩,_⟩,_⟩,_⟩,_⟩,_⟩,_,_⟩:=h;refine ⟨?_,?_,?_⟩
 · refine ⟨?_,zc9 hsh,?_,?_⟩
   ·obtain rfl:=Option.some.inj (g_pow10.symm.trans hg);obtain rfl:=Option.some.inj (t_pow10.symm.trans ht);rw [dL] at hd;unfold Pow10 Lib.TabIs;rw [hv,<-Lib.cells_of_tab underlying273 underlying89 zdF zca hd]
   · obtain rfl:=Option.some.inj (g_syn.symm.trans hg2);obtain rfl:=Option.some.inj (t_syn.symm.trans ht2);obtain ⟨_,u,v,hcs,_,_⟩:=iface_of_trod underlying103 hd2;have hcell:World.cell? W ⟨3,0,none⟩=cs2.toList[0]?:=by simpa using World.var?_cell hg2 hv2 0
     rw [hcs] at hcell;exact ⟨_,hcell,.inr ⟨u,v,rfl⟩⟩
   · obtain rfl:=Option.some.inj (g_rng.symm.trans hg1);obtain rfl:=Option.some.inj (t_rng.symm.trans ht1);obtain ⟨_,u,v,hcs,_,_⟩:=iface_of_trod underlying103 hd1;have hcell:World.cell? W ⟨4,0,none⟩=cs1.toList[0]?:=by simpa using World.var?_cell hg1 hv1 0
     rw [hcs] at hcell;exact ⟨_,hcell,.inr ⟨u,v,rfl⟩⟩
 · obtain rfl:=Option.some.inj (g_Codes.symm.trans hg0);obtain rfl:=Option.some.inj (t_Codes.symm.trans ht0);intro k hk;have key:=ef (d:=Rows.laid_loop_example_g01043_impl_codeNames) (L:=[[111,107],[105,110,118,97,108,105,100],[114,97,110,103,101],[110,111,116,45,102,111,117,110,100],[101,120,105,115,116,115],[102,117,108,108],[115,116,97,116,101],[115,121,110,116,97,120],[102,111,114,109,97,116],[99,108,97,115,104],[116,105,103,104,116]]) underlying107 hg0 hv0 hd0 (by rfl);rcases (show k=0\/k=1\/k=2\/k=3\/k=4\/k=5\/k=6\/k=7\/k=8\/k=9\/k=10 by omega) with rfl | rfl | rfl | rfl | rfl | rfl | rfl | rfl | rfl | rfl | rfl
   all_goals exact (key _ _ (by omega) rfl).trans (by rfl)
 · obtain rfl:=Option.some.inj (g_Chg.symm.trans hg9);obtain rfl:=Option.some.inj (t_Chg.symm.trans ht9);intro k hk;have key:=ef (d:=Rows.laid_loop_example_g01043_impl_changeNames) (L:=[[],[108,101,110,103,116,104],[98,97,108,108],[105,110,115,116,101,112],[104,101,101,108],[112,105,116,99,104]]) underlying185 hg9 hv9 hd9 (by rfl);rcases (show k=0\/k=1\/k=2\/k=3\/k=4\/k=5 by omega) with rfl | rfl | rfl | rfl | rfl | rfl
   all_goals exact (key _ _ (by omega) rfl).trans (by rfl)
theorem sJ(os:Os)(started:os.Started)(H:Type)(enc:TypeId × Value->H) :
 ReturnsInHanded {} Tryz.checked os 5 .any (fun w args=>(Rows.fnExactDeskCommandSpec.pre enc prog Tryz.f5 [] false w args/\laidMetH prog Rows.fnExactDeskCommandRow.laid w)/\sizedMet enc prog Tryz.f5 (OpenSpec.ofChange Rows.fnExactDeskCommandSpec) false w args)
  (Rows.fnExactDeskCommandSpec.post enc prog Tryz.f5 false true false false):=by
 refine oO (C:=Tryz.checked) (X:=fun w _=>laidMetH prog Rows.fnExactDeskCommandRow.laid w) (fun _ _ _ hh h=>h.of_heap hh) ap started (by kernel_rfl) func5
  (ChangeSpec.witness_shaped (enc:=enc) (C:=Tryz.checked) (os:=os) (X:=fun w _=>laidMetH prog Rows.fnExactDeskCommandRow.laid w) false (World.laidAll prog os Rows.fnExactDeskCommandRow.laid) #[.agg #[.int .i64 0,.int .i64 0,.int .i64 0,.int .i64 0,.slice none 0 0,.string ByteArray.empty,.string ByteArray.empty,.string ByteArray.empty,.string ByteArray.empty,.int .i64 0,.int .i64 0,.int .i64 0,.int .i64 0,.bool false,.string ByteArray.empty],.string ByteArray.empty] 8 (World.laidAll_os _ _ _)
    (World.shaped_of_ZipB (by kernel_rfl) (by kernel_rfl)) (by kernel_rfl) (by kernel_rfl) (by kernel_rfl)
    (by rw [MakeChecks.laidMetH_plain _ _ _ (by kernel_rfl)];exact laidMet_laidAll _ (by kernel_rfl) (by kernel_rfl))) ?_
 intro W base args ds gs before hval0 hW hL hsh;have hval:∀ (j:Nat) t v,Tryz.f5.params[j]?=some t->args[j]?=some v->Value.okWide prog W .any base t v:=hval0;have hW':=hW;obtain ⟨p,q,hA0,hV,rfl,_,_⟩:=hW;have hA:DataW.TrodAll enc prog W 0 (fun _=>true) true Tryz.f5.params.toList args.toList ds p:=hA0;rw [Tryz.params5] at hA hval;have hlt0:∀ x ∈ p ++ q,x.block < W.heap.size:=fun x hx=>by simpa using hW'.lt x hx
 obtain ⟨gW,tW,csW,fuelW,dW,pW,gX,tX,csX,fuelX,dX,pX,rfl,hgW,htW,hvarW,hdW,hgX,htX,hvarX,hdX,rfl⟩:=trodVars_two hV;obtain rfl:=Option.some.inj (g_Codes.symm.trans hgW);obtain rfl:=Option.some.inj (t_Codes.symm.trans htW);obtain rfl:=Option.some.inj (g_Chg.symm.trans hgX);obtain rfl:=Option.some.inj (t_Chg.symm.trans htX);have hlt:∀ x ∈ p,x.block < W.heap.size:=fun x hx=>hlt0 x (by simp [hx]);have hargs:∀ W':World,Below W.heap.size W W'->DataW.TrodAll enc prog W' 0 (fun b=>decide (b < W.heap.size)) true [45,9] args.toList ds p:=
  fun W' hb=>kC pO hb _ _ _ _ (by
   intro t ht;simp only [List.mem_cons,List.not_mem_nil,or_false] at ht;rcases ht with rfl | rfl <;> exact ⟨by kernel_rfl,of_decide_eq_true (by kernel_rfl)⟩) hA hlt
 obtain ⟨v0,vs0,d0,ds0,p0,q0,hargs',rfl,rfl,h0,r0⟩:=trodAll_cons hA;obtain ⟨v1,vs1,d1,ds1,p1,q1,rfl,rfl,rfl,h1,r1⟩:=trodAll_cons r0;obtain ⟨rfl,rfl,rfl⟩:=trodAll_nil r1;obtain rfl:args=#[v0,v1]:=by cases args;simp_all
 obtain ⟨f0,s0,b0,A0,xs0,n0,c0,rfl,ws0,wl0,la0,lb0,lc0,ld0⟩:=ak (hval 0 45 v0 rfl rfl) h0;obtain ⟨s1,rfl,rfl,rfl,ws1⟩:=Go.ChangeMaps.open_string underlying9 (hval 1 9 v1 rfl rfl) h1;refine (rZ f0 s0 b0 A0 xs0 n0 c0 ws0 wl0 (qH la0) lb0 lc0 s1 (by have:=ws1;unfold maxLen at this;omega) W ld0 (qg hL hsh).1 (qg hL hsh).2.2 (qg hL hsh).2.1).mono fun e W' ⟨he,hb⟩=>?_;subst he;have hTW:DataW.Trod enc prog W 0 (fun _=>true) true 107 (.agg csW) dW pW:=⟨fuelW,by
  have h:DataW.trod enc prog W 0 (fun _=>true) true fuelW 107 csW.toList=some (dW,pW):=hdW;simpa [Value.cells] using h⟩
 obtain ⟨fuelW',hdW'⟩:=Below.trod pO (by kernel_rfl) (of_decide_eq_true (by kernel_rfl)) hTW hb (fun x hx=>hlt0 x (by simp [hx]));have hvarW':=var?_below hb hgW (block_lt_of_cell ((qg hL hsh).2.1 0 (by omega))) hvarW;have hdW2:DataW.trod enc prog W' 0 (fun b=>decide (b < W.heap.size)) true fuelW' 107 csW.toList=some (dW,pW):=by simpa [Value.cells] using hdW'
 have hTX:DataW.Trod enc prog W 0 (fun _=>true) true 185 (.agg csX) dX pX:=⟨fuelX,by
  have h:DataW.trod enc prog W 0 (fun _=>true) true fuelX 185 csX.toList=some (dX,pX):=hdX;simpa [Value.cells] using h⟩
 obtain ⟨fuelX',hdX'⟩:=Below.trod pO (by kernel_rfl) (of_decide_eq_true (by kernel_rfl)) hTX hb (fun x hx=>hlt0 x (by simp [hx]));have hvarX':=var?_below hb hgX (block_lt_of_cell ((qg hL hsh).2.2 0 (by omega))) hvarX;have hdX2:DataW.trod enc prog W' 0 (fun b=>decide (b < W.heap.size)) true fuelX' 185 csX.toList=some (dX,pX):=by simpa [Value.cells] using hdX'
 exact ⟨_,rfl,_,_,_,[],_,_,hW',trodAll_mk1 (shut_bool underlying4 _),hargs _ hb,⟨_,_,_,_,_,_,hgW,htW,hvarW',hdW2,trodVars_mk1 hgX htX hvarX' hdX2,rfl⟩,hb.frame _,fun h=>by cases h⟩
end Go.Proofs.YtpiehlfffjhoaaaGreatDoor
