/- Lemmas for the law on the console: the parts LogG,CoD,CpB,CrB,CoE. -/
import Derived.Test.YtpiehlfffjhoaaaGreatDoorQ27
import Derived.Test.YtpiehlfffjhoaaaGreatDoorQ29
namespace Go.Proofs.YtpiehlfffjhoaaaGreatDoor
open Go.RowKit Go.Proofs.Tryz
set_option maxRecDepth 100000
set_option maxHeartbeats 8000000
theorem eh(s:ByteArray)(hs:s.size<=1048576)(x:Entry)(hxs:x.what.size<=9223372036854775807)(w:World)(hT:Tabs w) :
 Calls prog 85 #[.string s,.agg #[.int .i64 x.day,.string x.what,.int .i64 x.value]] w (RetT #[.string (xK s x).1,.int .i64 (xK s x).2] w):=by
 have HT:=qH hT;clear hT;obtain ⟨W0,hW0⟩:=zN (w.alloc (Obj.cells #[.int .i64 x.day,.string x.what,.int .i64 x.value] 141));obtain ⟨gX,hgX⟩:=zN w.heap.size;have hv:Below w.heap.size w W0:=by rw [hW0];exact zc (Below.refl _ _) _
 have hX:Blk W0 gX 141 #[.int .i64 x.day,.string x.what,.int .i64 x.value]:=by rw [hW0,hgX];exact Blk.new _ _ _
 have HW0:=qH hW0;have HGX:=qH hgX;clear hW0 hgX;go_in;go_wp2_with fail;rw [<-HW0.out,<-HGX.out];refine (pS s hs _ (HT.out.below hv)).mono ?_;rintro e W ⟨A,c,m,es,st,n,rfl,hG,hm,hown,hok,hno,hb⟩;replace hv:=za hv hb;replace hX:=hX.below hb;clear hb;have x0:∀ O,(W.alloc O).cell? ⟨gX,0,none⟩=some (.int .i64 x.day):=fun O=>(hX.alloc O).cell 0;have x1:∀ O,(W.alloc O).cell? ⟨gX,1,none⟩=some (.string x.what):=fun O=>(hX.alloc O).cell 1;have x2:∀ O,(W.alloc O).cell? ⟨gX,2,none⟩=some (.int .i64 x.value):=fun O=>(hX.alloc O).cell 2;by_cases h0:cdL s=0
 · have HR:=qH (mI (x:=x) h0 (hok h0));have hle:=hG.le;have hmb:m<=1048576:=by have:=hG.few;omega
   have HM:=qH hm;have hs0:=hG.s0;have hs1:=hG.s1;rw [h0];clear h0 hok hno hm;go_wp2_with fail;refine qS (zb7 s hs A es m c st n x hxs HM hmb hs0 hs1 _ (Arr.own (hown.alloc _)) (HT.out.below (zc hv _))) fun W2 hb=>?_;go_wp2;go_returns;exact RetT.mk (by rw [HR.out];rfl) (za (zc hv _) hb)
 · have HR:=qH (fx (x:=x) h0);have hne:(cdL s != 0)=true:=by rw [bne_iff_ne];exact h0
   clear hok hno;generalize cdL s=C at *;clear h0;go_wp2;go_returns;exact RetT.mk (by rw [HR.out];rfl) (zc hv _)
theorem gB(s:ByteArray)(hs:s.size<=1048576)(x:Entry)(hxs:x.what.size<=9223372036854775807)(w:World) :
 Calls prog 163 #[.string s,.agg #[.int .i64 x.day,.string x.what,.int .i64 x.value]] w (RetT #[.string (xK s x).1,.int .i64 (xK s x).2] w):=by
 obtain ⟨W0,hW0⟩:=zN (w.alloc (Obj.cells #[.int .i64 x.day,.string x.what,.int .i64 x.value] 141));obtain ⟨gX,hgX⟩:=zN w.heap.size;have hv:Below w.heap.size w W0:=by rw [hW0];exact zc (Below.refl _ _) _
 have hX:Blk W0 gX 141 #[.int .i64 x.day,.string x.what,.int .i64 x.value]:=by rw [hW0,hgX];exact Blk.new _ _ _
 have HW0:=qH hW0;have HGX:=qH hgX;clear hW0 hgX;go_in;go_wp2_with fail;rw [<-HW0.out,<-HGX.out];refine (rQ s hs _).mono ?_;rintro e W ⟨g,rfl,hg,hRS,hb⟩;replace hv:=za hv hb;replace hX:=hX.below hb;clear hb;by_cases h0:cdL s=0
 case neg=>
  have HR:=qH (fx (x:=x) h0);have hne:(cdL s != 0)=true:=by rw [bne_iff_ne];exact h0
  clear hRS;generalize cdL s=C at *;clear h0;go_wp2;go_returns;exact RetT.mk (by rw [HR.out];rfl) hv
 obtain ⟨A,c,hB,hown,_⟩:=hRS h0;have hG:=vO s;have HR0:=qH (mI (x:=x) (es:=(rdL s).1) (st:=(rdL s).2.1) (n:=(rdL s).2.2) h0 rfl);rw [h0];clear hRS h0;generalize (rdL s).1=es at *;generalize (rdL s).2.1=st at *;generalize (rdL s).2.2=n at *;obtain ⟨m,hm0⟩:=zN es.length;rw [<-hm0] at hB hown;have hm:=qH hm0.symm;have hmb:m<=1048576:=by have:=hG.few;have:=hG.le;omega
 have hs0:=hG.s0;have hs1:=hG.s1;clear hm0;go_wp2_with fail;refine qR (mP ⟨gX,0,none⟩ x hxs _ (hX.cell 0) (hX.cell 1) (hX.cell 2)) ?_;cases hx:xa x
 ·have HR:=qH (HR0.out.trans (nh (s:=s) (es:=es) (st:=st) hx));clear hx;go_wp2;go_returns;exact RetT.mk (by rw [HR.out];rfl) hv
 have HX:=qH hx;clear hx;go_wp2_with fail;replace hv:Below w.heap.size w W.drew:=hv.drew;replace hB:=hB.below (Below.refl W.heap.size W).drew;replace hX:=hX.below (Below.refl W.heap.size W).drew;replace hown:=ze hown (Below.refl W.heap.size W).drew;refine zH (fun w'=>Blk w' g 201 (RV s n st A m c)/\Blk w' gX 141 #[Value.int .i64 x.day,Value.string x.what,Value.int .i64 x.value]) ?_ (fun hHeld=>?_)
 ·exact ⟨hB,hX⟩
 refine zU 0 19 ?_;refine zT 1 20 rfl (fun w hSw=>by
  have k0:=yc0 hSw.1;have k1:=yc1 hSw.1;have k2:=yc2 hSw.1;have k3:=yc3 hSw.1;have x0:=yc0 hSw.2;have x1:=yc1 hSw.2;have x2:=yc2 hSw.2;go_simp;try with_reducible rfl) ?_
 refine zU 2 21 ?_;refine zR 3 (some 22) rfl (fun K hK=>?_);go_simp;go_split_ands;refine qS (zbV s g es st n m c A hm hmb _ hB (Arr.own hown)) fun W2 hb=>?_;replace hv:=za hv hb;replace hB:=hB.below hb;replace hX:=hX.below hb;replace hown:=ze hown hb;clear hb;go_wp2_with fail;refine zK hK ⟨hB,hX⟩ (fun hHeld=>?_);clear hK K;refine zU 4 23 ?_;refine zD ?_;clear hHeld;by_cases hday:x.day < xx es
 ·have hdd:decide (x.day < xx es)=true:=decide_eq_true hday;have HR:=qH (HR0.out.trans (nf (s:=s) (es:=es) (st:=st) HX.out hday));go_wp2;go_returns;exact RetT.mk (by rw [HR.out];rfl) hv
 have hdd:decide (x.day < xx es)=false:=decide_eq_false hday;have HD:=qH hday;obtain ⟨t0,t1⟩:=rB st x;have hwz:(yd x).size<=9223372036854775807:=by have:=vA HX.out;omega
 have hlz:=qZ HX.out (stp st x) t0 t1;have hWD:Hid (∀ w c0 c1 c2,Calls prog 174 #[.pointer (some ⟨gX,0,none⟩)] w (Ret (.string (yd x)) w)):=qH (fun w c0 c1 c2=>sR ⟨gX,0,none⟩ x HX.out w c0 c1 c2);have hST:Hid (∀ w,Calls prog 232 #[.int .i64 st,.string (yd x)] w (RetQ (.int .i64 (stp st x)) w)):=qH (fun w=>nZ st _ hs0 hs1 hwz w);have hLN:=qH (fun w c0 c1 c2=>lE (stp st x) ⟨gX,0,none⟩ x HX.out t0 t1 w c0 c1 c2);obtain ⟨ln,hln⟩:=zN (yI (stp st x) x);obtain ⟨b,hb0⟩:=zN (s ++ ln);rw [<-hln] at hLN hlz;have hadd:=fun (w:World)=>run_string_add_sum (P:=prog) w s ln (by omega);have hbz:b.size<=9223372036854775807:=by rw [hb0,ByteArray.size_append'];omega
 rw [<-hb0] at hadd;have HB:Hid (s ++ yI (stp st x) x=b):=qH (by rw [<-hln];exact hb0.symm);obtain ⟨sv,hsv⟩:=zN (stp st x);rw [<-hsv] at hLN hST;obtain ⟨wd,hwd⟩:=zN (yd x);rw [<-hwd] at hWD hST;clear hsv hwd hln hb0 hwz hlz t0 t1;go_wp2_with fail;replace hv:Below w.heap.size w W2.drew:=hv.drew;replace hB:=hB.below (Below.refl W2.heap.size W2).drew;replace hX:=hX.below (Below.refl W2.heap.size W2).drew;replace hown:=ze hown (Below.refl W2.heap.size W2).drew;refine zH (fun w'=>Blk w' g 201 (RV s n st A m c)/\Blk w' gX 141 #[Value.int .i64 x.day,Value.string x.what,Value.int .i64 x.value]) ?_ (fun hHeld=>?_)
 ·exact ⟨hB,hX⟩
 refine zU 0 24 ?_;refine zU 1 25 ?_;refine zU 2 26 ?_;refine zU 3 27 ?_;refine zT 4 28 rfl (fun w hSw=>by
  have k0:=yc0 hSw.1;have k1:=yc1 hSw.1;have k2:=yc2 hSw.1;have k3:=yc3 hSw.1;have x0:=yc0 hSw.2;have x1:=yc1 hSw.2;have x2:=yc2 hSw.2;go_simp;try with_reducible rfl) ?_
 refine zR 5 (some 29) rfl (fun K hK=>?_);go_simp;go_split_ands;refine qS (hWD.out _ (hX.cell 0) (hX.cell 1) (hX.cell 2)) fun W3 hb=>?_;replace hv:=za hv hb;replace hB:=hB.below hb;replace hX:=hX.below hb;replace hown:=ze hown hb;clear hb;go_wp2_with fail;refine zK hK ⟨hB,hX⟩ (fun hHeld=>?_);clear hK K;refine zR 6 (some 30) rfl (fun K hK=>?_);go_simp;go_split_ands;refine qR (hST.out _) ?_;go_wp2_with fail;refine zK hK ⟨hB,hX⟩ (fun hHeld=>?_);clear hK K;refine zR 7 (some 31) rfl (fun K hK=>?_);go_simp;go_split_ands;refine qS (hLN.out _ (hX.cell 0) (hX.cell 1) (hX.cell 2)) fun W4 hb=>?_;replace hv:=za hv hb;replace hB:=hB.below hb;replace hX:=hX.below hb;replace hown:=ze hown hb;clear hb;go_wp2_with fail;refine zK hK ⟨hB,hX⟩ (fun hHeld=>?_);clear hK K;refine zU 8 32 ?_;refine zU 9 8 ?_;refine zD ?_;clear hHeld hadd;by_cases hbig:4000 < (b.size:Int)
 ·have HR:=qH (HR0.out.trans (qz (s:=s) (es:=es) (st:=st) HX.out (by have h:=HD.out;omega) (by rw [HB.out];omega)));go_wp2;go_returns;exact RetT.mk (by rw [HR.out];rfl) hv
 ·have HR:=qH (HR0.out.trans (qA (s:=s) (es:=es) (st:=st) HX.out (by have h:=HD.out;omega) (by rw [HB.out];omega)));have hbd:decide (4000 < (b.size:Int))=false:=decide_eq_false hbig;go_wp2;go_returns;exact RetT.mk (by rw [HR.out,HB.out];rfl) hv
def zdV(w:World)(lo hi g:Nat)(d:Dk):Prop:=∃ (A:Option Addr) (n c:Nat),Blk w g 32 ((cD d.f A n c d.s d.lg))/\d.xs.length=n/\Own w lo hi 100 6 n (.slice A n c) (zd Last.cells d.xs)
structure XIn (w0 w:World) (gd ga:Nat) (f:Foot) (xs:List Last) (s:Style) (lg:ByteArray) (n c:Nat) (A An:Option Addr) (ws:List ByteArray) (ns:List Int) (nw kn:Nat):Prop where
 hbw:Below w0.heap.size w0 w
 hws:Arr w0 (some ⟨ga,0,none⟩) (zd zt ws)
 hns:Arr w An (zd zp ns)
 hdk:Blk w gd 32 (cD f A n c s lg)
 hgd:w0.heap.size<=gd
 hown:w.ownsRow w0.heap.size 100 6 (.slice A n c) n (zd Last.cells xs)
 hne:∀ k,(Value.slice A n c).ownBlock=some k->k≠gd
 hn:Hid (xs.length=n)
 hnw:Hid (ws.length=nw)
 hkn:Hid (ns.length=kn)
 nw0:0 < nw
 nw1:nw<=1048577
 htabs:Tabs w0
 hchg:ChgN w0
 hok:(Dk.mk f xs s lg).ok=true
 hsz:∀ y ∈ ws,y.size<=1048576
 hrsz:(yz ws).size<=1048576
def OutX(w0:World)(gd:Nat)(r:xD)(e:Ending)(w':World):Prop:=∃ (A:Option Addr) (k c:Nat),e=.returned (.tuple #[.slice A k c,.int .i64 r.2.2])/\Below w0.heap.size w0 w'/\(r.2.2=0->r.2.1.length=k/\∃ mid,w'.ownsRow mid 9 1 (.slice A k c) k (zd zt r.2.1)/\zdV w' w0.heap.size mid gd r.1)
theorem oI{w:World}{g lo:Nat}{t:ByteArray}(h:Blk w g 9 #[.string t])(hg:lo<=g):w.ownsRow lo 9 1 (.slice (some ⟨g,0,none⟩) 1 1) 1 (zd zt [t]):=
 ⟨rfl,.inr ⟨g,1,#[.string t],rfl,hg,h,Nat.le_refl _,by unfold maxLen;omega,rfl,rfl⟩⟩
theorem OutX.no{w0 w':World}{gd:Nat}{r:xD}{c:Int}(hc:r.2.2=c)(h0:c≠0)(hb:Below w0.heap.size w0 w'):OutX w0 gd r (.returned (.tuple #[.slice none 0 0,.int .i64 c])) w':=by
 subst hc;exact ⟨none,0,0,rfl,hb,fun h=>absurd h h0⟩
theorem OutX.one{w0 W:World}{gd n c:Nat}{A:Option Addr}{f:Foot}{xs:List Last}{s:Style}{lg t:ByteArray}{r:xD}(hr:r=(⟨f,xs,s,lg⟩,[t],0))(hn:xs.length=n)(hb:Below w0.heap.size w0 W)(hO:W.ownsRow w0.heap.size 100 6 (.slice A n c) n (zd Last.cells xs))(hD:Blk W gd 32 ((cD f A n c s lg))):OutX w0 gd r (.returned (.tuple #[.slice (some ⟨W.heap.size,0,none⟩) 1 1,.int .i64 0])) (W.alloc (Obj.cells #[.string t] 9)):=by
 subst hr;exact ⟨_,1,1,rfl,zc hb _,fun _=>⟨rfl,W.heap.size,oI (Blk.new _ _ _) (Nat.le_refl _),A,n,c,hD.alloc _,hn,(Own.of hO hb).below (zc (Below.refl _ _) _)⟩⟩
theorem OutX.many{w0 W W5:World}{gd n c c5:Nat}{A A5:Option Addr}{f:Foot}{xs:List Last}{s:Style}{lg:ByteArray}{L:List ByteArray}{r:xD}(hr:r=(⟨f,xs,s,lg⟩,L,0))(hn:xs.length=n)(hb:Below w0.heap.size w0 W)(hO:W.ownsRow w0.heap.size 100 6 (.slice A n c) n (zd Last.cells xs))(hD:Blk W gd 32 ((cD f A n c s lg)))(hb5:Below W.heap.size W W5)(h5:W5.ownsRow W.heap.size 9 1 (.slice A5 L.length c5) L.length (zd zt L)) :
 OutX w0 gd r (.returned (.tuple #[.slice A5 L.length c5,.int .i64 0])) W5:=by
 subst hr;exact ⟨A5,L.length,c5,rfl,za hb hb5,fun _=>⟨rfl,W.heap.size,h5,A,n,c,hD.below hb5,hn,(Own.of hO hb).below hb5⟩⟩
section
variable {w0 w:World} {gd ga:Nat} {f:Foot} {xs:List Last} {s:Style} {lg:ByteArray} {n c:Nat} {A An:Option Addr} {ws:List ByteArray} {ns:List Int} {nw kn:Nat}
theorem XIn.n30(h:XIn w0 w gd ga f xs s lg n c A An ws ns nw kn):n<=30:=by
 have h1:=wj (yj h.hok).2.1;have h2:=h.hn.out;dsimp only at h1;omega
theorem XIn.word(h:XIn w0 w gd ga f xs s lg n c A An ws ns nw kn){k:Nat}(hk:k < nw):w.cell? ⟨ga,k,none⟩=some (.string (zf ws k)):=by
 have h1:ws[k]?=some (zf ws k):=by
  unfold zf;have h3:k < ws.length:=by rw [h.hnw.out];exact hk
  rw [List.getD_eq_getElem?_getD,List.getElem?_eq_getElem h3];rfl
 exact zb h.hbw (yh h.hws h1)
theorem XIn.word0(h:XIn w0 w gd ga f xs s lg n c A An ws ns nw kn){t:ByteArray}(hk:zf ws 0=t):w.cell? ⟨ga,0,none⟩=some (.string t):=by
 rw [<-hk];exact h.word h.nw0
theorem XIn.join(h:XIn w0 w gd ga f xs s lg n c A An ws ns nw kn):Calls prog 69 #[.slice (some ⟨ga,1,none⟩) (nw - 1) (nw - 1),.string ⟨#[32]⟩] w (Ret (.string (yz ws)) w):=by
 have hl:(ws.drop 1).length=nw - 1:=by rw [List.length_drop,h.hnw.out]
 have hga:ga < w.heap.size:=block_lt_of_cell (h.word h.nw0);have hz:(yz ws).size=(Lib.join ((ws.drop 1).map (·.data.toList)) (ByteArray.mk #[32]).data.toList).length:=by
  unfold yz yB;rw [<-zu]
 have hr:=h.hrsz;rw [hz] at hr;have hjn:=Tryz.strings_Join ga 1 (nw - 1) (ws.drop 1) ⟨#[32]⟩ w (fun i y hy=>by
  rw [List.getElem?_drop] at hy;have h1:=zb h.hbw (yh h.hws hy);exact h1) hga (by rw [hl];have:=h.nw1;omega) (by rw [hl];exact Nat.le_refl _) (Nat.le_trans hr (by omega))
 rw [hl] at hjn;refine qS hjn fun W3 hb3=>?_;exact Ret.mk rfl hb3
theorem XIn.numO(h:XIn w0 w gd ga f xs s lg n c A An ws ns nw kn){gn:Nat}(hA:An=some ⟨gn,0,none⟩){k:Nat}(hk:k < kn):w.cell? ⟨gn,k,none⟩=some (.int .i64 (yW ns k)):=by
 have h1:ns[k]?=some (yW ns k):=by
  unfold yW;have h3:k < ns.length:=by rw [h.hkn.out];exact hk
  rw [List.getD_eq_getElem?_getD,List.getElem?_eq_getElem h3];rfl
 obtain ⟨ad,e,_,hc⟩:=yn h.hns h1;rw [hA] at e;injection e with e;subst e;rw [show (⟨gn,0,none⟩:Addr).add k=⟨gn,k,none⟩ by unfold Addr.add;split <;> simp_all] at hc;exact hc
theorem XIn.join1(h:XIn w0 w gd ga f xs s lg n c A An ws ns 1 kn):Calls prog 69 #[.slice (some ⟨ga,0,none⟩) 0 0,.string ⟨#[32]⟩] w (Ret (.string (yz ws)) w):=by
 have hga:ga < w.heap.size:=block_lt_of_cell (h.word h.nw0);have hl:ws.drop 1=[]:=List.drop_eq_nil_of_le (by rw [h.hnw.out];exact Nat.le_refl _);have hr:yz ws=⟨#[]⟩:=by unfold yz yB;rw [hl];rfl
 have hjn:=Tryz.strings_Join ga 0 0 [] ⟨#[32]⟩ w (fun i y hy=>by cases hy) hga (by simp) (by simp) (by simp [Lib.join_nil]);refine qS hjn fun W3 hb3=>?_;exact Ret.mk (by rw [hr];rfl) hb3
end
theorem vZ{w:World}{g:Nat}{t:TypeId}{cs:Array Value}(h:Blk w g t cs){o n:Nat}(hn:o + n<=cs.size):w.there g o n:=fun j hj=>
 ⟨by rw [h.cell,Array.getElem?_eq_getElem (by omega)];rfl,h.frozen _⟩
theorem xj(w:World)(g o:Nat)(v:Value):w.grownBy (w.setCell ⟨g,o,none⟩ v) (some g):=
 ⟨rfl,rfl,rfl,by simp [World.setCell],fun k _ hk=>Below.heap_setCell w ⟨g,o,none⟩ v k (fun e=>hk (by rw [e]))⟩
theorem xw(g:Nat):∀ (vs:List Value) (o:Nat) (w:World),w.grownBy (w.setCells g o vs) (some g)
 | [],_,_=>yN (Below.refl _ _) _
 | v :: r,o,w=>vw (xj w g o v) (xw g r (o + 1) _)
theorem qC{a w:World}{g:Nat}(h:Below a.heap.size a w)(hg:a.heap.size<=g)(o:Nat)(vs:List Value):Below a.heap.size a (w.setCells g o vs):=
 zi h (xw g vs o w) (fun k e=>by injection e with e;omega)
theorem tO{w:World}{g g' o:Nat}{t:TypeId}{cs:Array Value}(h:Blk w g t cs)(hg:g≠g')(vs:List Value):Blk (w.setCells g' o vs) g t cs:=
 h.grown (xw g' vs o w) (fun e=>hg (by injection e))
theorem sw{w:World}{base e size n g:Nat}{v:Value}{cs:List Value}(h:w.ownsRow base e size v n cs)(hp:∀ k,v.ownBlock=some k->k≠g)(o:Nat)(vs:List Value):(w.setCells g o vs).ownsRow base e size v n cs:=
 h.kept (xw g vs o w) (by
  cases hv:v.ownBlock with
  | none=>exact .inl rfl
  | some k=>exact .inr (fun e=>hp k hv (by injection e)))
def oq(L:List ByteArray):Prop:=L.length<=5000/\∀ y ∈ L,y.size<=2000000
theorem wh{t:ByteArray}(h:t.size<=2000000):oq [t]:=⟨by simp,fun y hy=>by
 obtain rfl:y=t:=by simpa using hy
 exact h⟩
theorem dS:oq []:=⟨by simp,fun y hy=>by cases hy⟩
theorem oC{v:Int}(h0:-9223372036854775808<=v)(h1:v<=9223372036854775807):(zm v).size<=21:=xg h0 h1
theorem jO{n:Nat}(h:n<=1000000):(okW n).size<=24:=by
 have h1:=oC (v:=(n:Int)) (by omega) (by omega);have h3:(⟨#[111,107,32]⟩:ByteArray).size=3:=rfl;unfold okW;rw [zv,h3];omega
theorem lV{l:List Int}(hl:l.length<=3)(h:∀ v ∈ l,-100000<=v/\v<=100000):(uj l).size<=75:=by
 have h1:=qN ⟨#[32]⟩ (by decide) (xL l) (fun y hy=>by
  obtain ⟨v,hv,rfl⟩:=List.mem_map.1 hy;obtain ⟨a,b⟩:=h v hv;exact oC (by omega) (by omega))
 have h2:(xL l).length=l.length:=by unfold xL;rw [List.length_map]
 have h3:(uj l).size=(Lib.join ((xL l).map (·.data.toList)) (ByteArray.mk #[32]).data.toList).length:=by
  unfold uj yB;rw [<-zu]
 rw [h3];rw [h2] at h1;omega
theorem oF{x:Last}{f:Foot}(hx:zy x=true)(hf:ym f=true):(wK x f).length<=3/\∀ v ∈ wK x f,-100000<=v/\v<=100000:=by
 obtain ⟨_,hf2,_,_⟩:=yU hx;obtain ⟨⟨a1,a2⟩,⟨b1,b2⟩,⟨c1,c2⟩,⟨d1,d2⟩⟩:=wH hf2;obtain ⟨⟨e1,e2⟩,⟨g1,g2⟩,⟨h1,h2⟩,⟨i1,i2⟩⟩:=wH hf;simp only [Last.foot] at a1 a2 b1 b2 c1 c2 d1 d2;refine ⟨by simp [wK],fun v hv=>?_⟩;simp only [wK,List.mem_cons,List.not_mem_nil,or_false] at hv;rcases hv with rfl | rfl | rfl <;> omega
theorem jV(a b c e:Int):(xy a b c e).1.length<=3/\∀ v ∈ (xy a b c e).1,-100000<=v/\v<=100000:=by
 unfold xy;by_cases h:(shB a && (shB b && (shB c && shB e)))=true
 · rw [if_pos h];simp only [shB,Bool.and_eq_true,inB_iff] at h;split
   ·exact ⟨by simp,fun v hv=>by cases hv⟩
   ·refine ⟨by simp,fun v hv=>?_⟩;simp only [List.mem_cons,List.not_mem_nil,or_false] at hv;rcases hv with rfl | rfl | rfl <;> omega
 ·rw [if_neg h];exact ⟨by simp,fun v hv=>by cases hv⟩
theorem mC:∀ l:List Int,(∀ v ∈ l,-1000000<=v/\v<=1000000)->-1000000 * (l.length:Int)<=l.sum/\l.sum<=1000000 * (l.length:Int)
 | [],_=>by simp
 | a :: r,h=>by
   have h1:=mC r (fun v hv=>h v (by simp [hv]));have h2:=h a (by simp);rw [List.sum_cons,List.length_cons];omega
theorem mW(s t:ByteArray):(uV s t).length<=4000/\∀ v ∈ uV s t,-1000000<=v/\v<=1000000:=by
 by_cases h:cdW s t=0
 ·rw [mX h];have h0:=zat h;refine ⟨Nat.le_trans (zbM _ _) (Nat.le_trans (re s) (vo h0)),fun v hv=>?_⟩;unfold wN at hv;obtain ⟨e,he,rfl⟩:=List.mem_map.1 hv;have h1:=uo ((vO s).ent e (List.mem_filter.1 he).1);omega
 ·rw [oL h];exact ⟨by simp,fun v hv=>by cases hv⟩
theorem cY{d:Dk}(h:d.ok=true)(ws:List ByteArray)(ns:List Int):oq (yi d ws ns).2.1:=by
 obtain ⟨h1,h2,h3,h4⟩:=yj h;have hno:∀ c,oq (noD d c).2.1:=fun c=>dS;have hlen:=wj h2;unfold yi;split
 · unfold vj;split
   ·rename_i f hf;exact wh (Nat.le_trans (vK (sx hf).2) (by omega))
   ·exact hno _
 split
 · unfold xt;split
   · rename_i x hx;split
     ·rename_i ha;have hl:=wj (kO ha).1;have hd:=oC (v:=(((yT d.xs x).1.length:Nat):Int)) (by omega) (by omega);have hf:=vK h1;have e1:(⟨#[32]⟩:ByteArray).size=1:=rfl;have e2:(⟨#[32,108,97,115,116,115]⟩:ByteArray).size=6:=rfl;refine wh ?_;unfold tp;rw [zv,zv,zv,e1,e2];omega
     ·exact hno _
   ·exact hno _
 split
 · refine ⟨?_,fun y hy=>?_⟩
   · show (d.xs.map xT ++ [okW d.xs.length]).length<=5000
     rw [List.length_append,List.length_map,List.length_singleton];omega
   · rcases List.mem_append.1 (show y ∈ d.xs.map xT ++ [okW d.xs.length] from hy) with hy | hy
     ·obtain ⟨x,hx,rfl⟩:=List.mem_map.1 hy;exact Nat.le_trans (lH (xc h2 x hx)) (by omega)
     · obtain rfl:y=okW d.xs.length:=by simpa using hy
       exact Nat.le_trans (jO (by omega)) (by omega)
 split
 · unfold uQ;split
   ·rename_i hb;obtain ⟨k,x,e1,e2,_⟩:=pF hb;rw [e1,Int.toNat_natCast,e2];exact wh (Nat.le_trans (yH (xc h2 x (List.mem_of_getElem? e2))) (by omega))
   ·exact hno _
 split
 · unfold vW;split
   ·rename_i hb;have hx:=xc h2 _ (List.mem_of_getElem? (nM hb).1);obtain ⟨e1,e2⟩:=oF hx h1;exact wh (Nat.le_trans (lV e1 e2) (by omega))
   ·exact hno _
 split
 · unfold xB;split
   ·exact hno _
   · rename_i k a _;split
     · split
       ·rename_i ha;obtain ⟨e1,e2⟩:=rD ha;refine wh ?_;rw [e1,qi e2];exact Nat.le_trans (lH e2) (by omega)
       ·exact hno _
     ·exact hno _
 split
 · have ho:=fun hc=>(yj (rW h (t:=yz ws) hc).1).2.2.1;unfold wF at ho |-;split
   ·rename_i hc;rw [if_pos hc] at ho;exact wh (Nat.le_trans (pr (ho rfl)).1 (by omega))
   ·exact hno _
 split
 · have ho:=fun hc=>(yj (sL h (t:=yz ws) hc).1).2.2.1;unfold xV at ho |-;split
   ·rename_i hc;rw [if_pos hc] at ho;exact wh (Nat.le_trans (pr (ho rfl)).1 (by omega))
   ·exact hno _
 split
 · unfold vu;split
   ·obtain ⟨e1,e2⟩:=jV (yW ns 0) (yW ns 1) (yW ns 2) (yW ns 3);exact wh (Nat.le_trans (lV e1 e2) (by omega))
   ·exact hno _
 split
 · unfold vp;split
   ·obtain ⟨e1,e2⟩:=mW (xK d.lg ⟨yW ns 0,zf ws 2,yW ns 1⟩).1 (zf ws 2);have e3:=mC _ e2;exact wh (Nat.le_trans (oC (by omega) (by omega)) (by omega))
   ·exact hno _
 · have hg:=vO d.lg;have hf:=Nat.le_trans (re d.lg) (vo h4);refine ⟨?_,fun y hy=>?_⟩
   · show ((rdL d.lg).1.map yd ++ [okW (rdL d.lg).1.length]).length<=5000
     rw [List.length_append,List.length_map,List.length_singleton];omega
   · rcases List.mem_append.1 (show y ∈ (rdL d.lg).1.map yd ++ [okW (rdL d.lg).1.length] from hy) with hy | hy
     ·obtain ⟨x,hx,rfl⟩:=List.mem_map.1 hy;exact Nat.le_trans (vA (hg.ent x hx)) (by omega)
     · obtain rfl:y=okW (rdL d.lg).1.length:=by simpa using hy
       exact Nat.le_trans (jO (by omega)) (by omega)
theorem jb(c:Int):(wZ c).size<=2000000:=by
 have e1:=rI c;have e2:(⟨#[101,114,114,111,114,32]⟩:ByteArray).size=6:=rfl;unfold wZ;rw [zv,e2];omega
structure SR (w0 w:World) (g:Nat) (d:Dk) (O:List ByteArray) (ns:List Int) (ts:List ByteArray) (A Ao An At:Option Addr) (n c no co kn cn kt ct:Nat):Prop where
 blk:Blk w g 73 (#[Value.int .i64 d.f.length,Value.int .i64 d.f.b,Value.int .i64 d.f.i,Value.int .i64 d.f.h,Value.slice A n c,Value.string d.s.u,Value.string d.s.c,Value.string d.s.l,Value.string d.s.s,Value.int .i64 d.s.t,Value.int .i64 d.s.h,Value.int .i64 d.s.e,Value.int .i64 d.s.d,Value.bool d.s.q,Value.string d.lg,Value.slice Ao no co,Value.slice An kn cn,Value.slice At kt ct])
 hn:d.xs.length=n
 ho:O.length=no
 hk:ns.length=kn
 ht:ts.length=kt
 own:w.ownsRow w0.heap.size 100 6 (.slice A n c) n (zd Last.cells d.xs)
 out:w.ownsRow w0.heap.size 9 1 (.slice Ao no co) no (zd zt O)
 nums:Arr w An (zd zp ns)
 texts:Arr w At (zd zt ts)
 ag:∀ ad,A=some ad->ad.block≠g/\ad.block < w.heap.size
 og:∀ ad,Ao=some ad->ad.block≠g/\ad.block < w.heap.size
 ng:∀ ad,An=some ad->ad.block≠g/\ad.block < w.heap.size
 tg:∀ ad,At=some ad->ad.block≠g/\ad.block < w.heap.size
 ao:∀ a o,A=some a->Ao=some o->a.block≠o.block
 no_:∀ a o,An=some a->Ao=some o->a.block≠o.block
 to_:∀ a o,At=some a->Ao=some o->a.block≠o.block
 bel:w0.grownBy w (some g)
 an_:∀ a b,A=some a->An=some b->a.block≠b.block
 at_:∀ a b,A=some a->At=some b->a.block≠b.block
def OutSY(w0:World)(g:Nat)(d:Dk)(O:List ByteArray)(ns:List Int)(ts:List ByteArray)(A An At:Option Addr)(n c kn cn kt ct:Nat)(w:World)(v:Value)(e:Ending)(w':World):Prop:=
 e=.returned v/\w.heap.size<=w'.heap.size/\∃ (Ao:Option Addr) (no co:Nat),SR w0 w' g d O ns ts A Ao An At n c no co kn cn kt ct
def vl(w0:World)(g:Nat)(d:Dk)(O:List ByteArray)(ns:List Int)(ts:List ByteArray)(w:World)(v:Value)(e:Ending)(w':World):Prop:=
 e=.returned v/\w.heap.size<=w'.heap.size/\∃ (A Ao An At:Option Addr) (n c no co kn cn kt ct:Nat),SR w0 w' g d O ns ts A Ao An At n c no co kn cn kt ct
theorem tv{a b c:World}{row row2:Option Nat}(h:a.grownBy b row)(k:b.grownBy c row2)(hr:∀ q,row2=some q->a.heap.size<=q):a.grownBy c row:=
 ⟨k.os.trans h.os,k.tape.trans h.tape,k.output.trans h.output,Nat.le_trans h.size k.size,fun i hi hne=>(k.block i (Nat.lt_of_lt_of_le hi h.size) (fun e=>by have:=hr i e.symm;omega)).trans (h.block i hi hne)⟩
theorem qf{w:World}{base e size n c:Nat}{A:Option Addr}{cs:List Value}(h:w.ownsRow base e size (.slice A n c) n cs):∀ ad,A=some ad->(Value.slice A n c).ownBlock=some ad.block:=fun ad e=>by subst e;rfl
theorem aE(w0 w:World)(g:Nat)(d:Dk)(O:List ByteArray)(ns:List Int)(ts:List ByteArray)(A Ao An At:Option Addr)(n c no co kn cn kt ct:Nat)(h:SR w0 w g d O ns ts A Ao An At n c no co kn cn kt ct)(hno:no<=1000000)(t:ByteArray) :
 Calls prog 43 #[.pointer (some ⟨g,0,none⟩),.string t] w (OutSY w0 g d (O ++ [t]) ns ts A An At n c kn cn kt ct w (.tuple #[])):=by
 obtain ⟨i0,hi0,hz0,hz1,hz2⟩:=info_parts (P:=prog) (e:=9) (z:=.string ByteArray.empty) (size:=1) (bytes:=16) vL;have HR:=qH h.out;have HB:=qH h.blk;have hbw:=h.bel.size;have H:=qH h;have c15:=gj h.blk;clear h;go_in;go_wp2_with (at_builtin;refine yu w #[.string t] rfl _ _ 24 9 rfl i0 _ 1 16 underlying24 hi0 hz0 hz1 hz2 rfl (by omega) w0.heap.size Ao no co _ rfl _ rfl rfl HR.out rfl (by simp [Value.oneCell']) (by unfold maxLen;omega) (by omega) hbw ?_;intro g7 c7 w7 hown7 hg7 hfr7;have HB7:=qH (HB.out.grown hg7 (fun e=>by cases Ao with | none=>cases e | some ao=>injection e with e;exact (H.out.og ao rfl).1 e.symm));have c15':=gj HB7.out;have f15:w7.frozen? ⟨g,15,none⟩=false:=HB7.out.frozen 15)
 go_returns;have hh:=H.out;have hs7:=hg7.size;have hgl:=hh.blk.lt;have e9:zd zt (O ++ [t])=zd zt O ++ #[Value.string t].toList:=by simp [zd,zt]
 rw [<-e9] at hown7;have hfr:∀ p:Nat,p < w.heap.size->(∀ ao,Ao=some ao->p≠ao.block)->p≠g7:=fun p h1 h2=>by
  rcases hfr7 with e7 | e7
  ·exact h2 _ e7
  ·omega
 have hrow:∀ p:Nat,(∀ ao,Ao=some ao->p≠ao.block)->some p≠Option.map (·.block) Ao:=fun p h1 e=>by
  cases Ao with
  | none=>cases e
  | some ao=>injection e with e;exact h1 ao rfl e
 have hgo:∀ ao,Ao=some ao->g≠ao.block:=fun ao e e2=>(hh.og ao e).1 e2.symm;have hsz:(w7.setCell ⟨g,15,none⟩ (.slice (some ⟨g7,0,none⟩) (no + 1) c7)).heap.size=w7.heap.size:=World.size_setCell _ _ _;have kept:∀ {E size m:Nat} {B:Option Addr} {k:Nat} {cs:List Value},w.ownsRow w0.heap.size E size (.slice B m k) m cs->(∀ ad,B=some ad->ad.block≠g)->(∀ a o,B=some a->Ao=some o->a.block≠o.block)->(w7.setCell ⟨g,15,none⟩ (.slice (some ⟨g7,0,none⟩) (no + 1) c7)).ownsRow w0.heap.size E size (.slice B m k) m cs:=fun {E size m B k cs} hb h1 h2=>by
  refine yy (hb.kept hg7 ?_) (p:=⟨g,15,none⟩) (fun p e=>?_) _
  · cases B with
    | none=>exact .inl rfl
    | some ad=>exact .inr (hrow _ (fun ao e=>h2 ad ao rfl e))
  · cases B with
    | none=>cases e
    | some ad=>injection e with e;subst e;exact h1 ad rfl
 have keptA:∀ {B:Option Addr} {cs:List Value},Arr w B cs->(∀ ad,B=some ad->ad.block≠g)->(∀ a o,B=some a->Ao=some o->a.block≠o.block)->Arr (w7.setCell ⟨g,15,none⟩ (.slice (some ⟨g7,0,none⟩) (no + 1) c7)) B cs:=fun {B cs} hb h1 h2=>
  (hb.grown hg7 (fun ad e=>hrow _ (fun ao e2=>h2 ad ao e e2))).grown (xj w7 g 15 _) (fun ad e e2=>by injection e2 with e2;exact h1 ad e e2)
 refine ⟨rfl,by rw [hsz];omega,some ⟨g7,0,none⟩,no + 1,c7,⟨HB7.out.set_ 15 _,hh.hn,by rw [List.length_append,hh.ho];rfl,hh.hk,hh.ht,kept hh.own (fun ad e=>(hh.ag ad e).1) hh.ao,yy hown7 (p:=⟨g,15,none⟩) (fun p e=>?_) _,keptA hh.nums (fun ad e=>(hh.ng ad e).1) hh.no_,keptA hh.texts (fun ad e=>(hh.tg ad e).1) hh.to_,fun ad e=>⟨(hh.ag ad e).1,by rw [hsz];have:=(hh.ag ad e).2;omega⟩,fun ad e=>?_,fun ad e=>⟨(hh.ng ad e).1,by rw [hsz];have:=(hh.ng ad e).2;omega⟩,fun ad e=>⟨(hh.tg ad e).1,by rw [hsz];have:=(hh.tg ad e).2;omega⟩,fun a o e1 e2=>?_,fun a o e1 e2=>?_,fun a o e1 e2=>?_,?_,hh.an_,hh.at_⟩⟩
 ·injection e with e;subst e;exact fun e=>hfr g hgl hgo e.symm
 ·injection e with e;subst e;exact ⟨fun e=>hfr g hgl hgo e.symm,by rw [hsz];exact yr hown7 g7 rfl⟩
 ·injection e2 with e2;subst e2;exact hfr _ (hh.ag a e1).2 (fun ao e=>hh.ao a ao e1 e)
 ·injection e2 with e2;subst e2;exact hfr _ (hh.ng a e1).2 (fun ao e=>hh.no_ a ao e1 e)
 ·injection e2 with e2;subst e2;exact hfr _ (hh.tg a e1).2 (fun ao e=>hh.to_ a ao e1 e)
 · exact zF (tv hh.bel hg7 (fun p e=>by
    cases Ao with
    | none=>cases e
    | some ao=>injection e with e;rw [<-e];exact zn hh.out _ rfl)) (p:=⟨g,15,none⟩) (.inl rfl) _
theorem OutSY.any{w0 w:World}{g:Nat}{d:Dk}{O:List ByteArray}{ns:List Int}{ts:List ByteArray}{A An At:Option Addr}{n c kn cn kt ct:Nat}{v:Value}(e:Ending)(w':World)(h:OutSY w0 g d O ns ts A An At n c kn cn kt ct w v e w'):vl w0 g d O ns ts w v e w':=by
 obtain ⟨h1,h2,Ao,no,co,h3⟩:=h;exact ⟨h1,h2,A,Ao,An,At,n,c,no,co,kn,cn,kt,ct,h3⟩
theorem sZ(w0 w:World)(g:Nat)(d:Dk)(O:List ByteArray)(ns:List Int)(ts:List ByteArray)(A Ao An At:Option Addr)(n c no co kn cn kt ct:Nat)(h:SR w0 w g d O ns ts A Ao An At n c no co kn cn kt ct)(hno:no<=1000000)(t:ByteArray) :
 Calls prog 43 #[.pointer (some ⟨g,0,none⟩),.string t] w (vl w0 g d (O ++ [t]) ns ts w (.tuple #[])):=
 (aE w0 w g d O ns ts A Ao An At n c no co kn cn kt ct h hno t).mono OutSY.any
theorem SR.below{w0 w w':World}{g:Nat}{d:Dk}{O:List ByteArray}{ns:List Int}{ts:List ByteArray}{A Ao An At:Option Addr}{n c no co kn cn kt ct:Nat}(h:SR w0 w g d O ns ts A Ao An At n c no co kn cn kt ct)(hb:Below w.heap.size w w'):SR w0 w' g d O ns ts A Ao An At n c no co kn cn kt ct:=
 have hs:=hb.size
 ⟨h.blk.below hb,h.hn,h.ho,h.hk,h.ht,ze h.own hb,ze h.out hb,h.nums.below hb,h.texts.below hb,fun ad e=>⟨(h.ag ad e).1,by have:=(h.ag ad e).2;omega⟩,fun ad e=>⟨(h.og ad e).1,by have:=(h.og ad e).2;omega⟩,
   fun ad e=>⟨(h.ng ad e).1,by have:=(h.ng ad e).2;omega⟩,fun ad e=>⟨(h.tg ad e).1,by have:=(h.tg ad e).2;omega⟩,h.ao,h.no_,h.to_,xM h.bel hb,h.an_,h.at_⟩
theorem SR.same{w0 w w':World}{g:Nat}{d:Dk}{O:List ByteArray}{ns:List Int}{ts:List ByteArray}{A Ao An At:Option Addr}{n c no co kn cn kt ct:Nat}(h:SR w0 w g d O ns ts A Ao An At n c no co kn cn kt ct)(hb:Below w.heap.size w w'){v:Value}:vl w0 g d O ns ts w v (.returned v) w':=
 ⟨rfl,hb.size,A,Ao,An,At,n,c,no,co,kn,cn,kt,ct,h.below hb⟩
theorem yP(w0 w:World)(g:Nat)(d:Dk)(O:List ByteArray)(ns:List Int)(ts:List ByteArray)(A Ao An At:Option Addr)(n c no co kn cn kt ct:Nat)(h:SR w0 w g d O ns ts A Ao An At n c no co kn cn kt ct)(hno:no<=1000000)(k:Int) :
 Calls prog 41 #[.pointer (some ⟨g,0,none⟩),.int .i64 k] w (vl w0 g d (if k=0 then O else O ++ [wZ k]) ns ts w (.bool (decide (k≠0)))):=by
 by_cases hk:k=0
 ·subst hk;go_in;go_wp2;go_returns;exact h.same (Below.refl _ _)
 ·rw [if_neg hk,decide_eq_true hk];have HC:=qH (gG k w);have l6:(⟨#[101,114,114,111,114,32]⟩:ByteArray).size=6:=rfl;have ez:=rI k;have a0:=fun (w:World)=>run_string_add_sum (P:=prog) w ⟨#[101,114,114,111,114,32]⟩ (vJ k) (by omega);have HS:=qH (fun w' hb=>sZ w0 w' g d O ns ts A Ao An At n c no co kn cn kt ct (h.below hb) hno (wZ k));have HEW:wZ k=(⟨#[101,114,114,111,114,32]⟩:ByteArray) ++ vJ k:=rfl;obtain ⟨tE,htE⟩:=zN (wZ k);rw [<-htE] at HEW HS;rw [<-HEW] at a0;rw [<-htE];clear HEW htE h ez;go_in;go_wp2_with fail;refine qS HC.out fun W hb=>?_;go_wp2_with fail;refine (HS.out _ hb).mono ?_;rintro e W2 ⟨rfl,hz,hr⟩;have HR:=qH hr;have hzz:=hb.size;clear hr hb;go_wp2;go_returns;exact ⟨rfl,by omega,HR.out⟩
theorem zaJ(w0 w:World)(gd ga:Nat)(f:Foot)(xs:List Last)(s:Style)(lg:ByteArray)(n c:Nat)(A An:Option Addr)(ws:List ByteArray)(ns:List Int)(nw kn cn:Nat)(h:XIn w0 w gd ga f xs s lg n c A An ws ns nw kn)(hk:zf ws 0=ya)(h2:2<=nw) :
 Calls prog 35 #[.pointer (some ⟨gd,0,none⟩),.slice (some ⟨ga,0,none⟩) nw nw,.slice An kn cn] w (OutX w0 gd (vj ⟨f,xs,s,lg⟩ (yz ws))):=by
 have HBW:=qH h.hbw;have HWS:=qH h.hws;have HD:Hid (Blk w gd 32 (cD f A n c s lg)):=qH h.hdk;have HO:=qH h.hown;have HNE:=qH h.hne;have HT:=qH h.htabs;have HCN:=qH h.hchg;have HOK:=qH h.hok;have HSZ:=qH h.hsz;have hn:=h.hn;have hnw:=h.hnw;have hkn:=h.hkn;have hgd:=h.hgd;have hn30:=h.n30;have hnw0:=h.nw0;have hnw1:=h.nw1;have HJ:=qH (h.join);have hx0:=h.word0 hk;have HK:=qH hk;have hrz:(yz ws).size<=4194304:=Nat.le_trans h.hrsz (by omega);clear h hk;have hl1:(1:Int)<=(nw:Int):=by omega
 have hl2:¬ (nw - 1=0):=by omega
 have hl0:(0:Int) < (nw:Int):=by omega
 have hx1:w.cell? ⟨ga,0,none⟩=some (.string ⟨#[102,111,111,116]⟩):=hx0;clear hx0;go_in;go_wp2_with fail;refine qS HJ.out fun W hb=>?_;obtain ⟨rt,hrt⟩:=zN (yz ws);have HRT:=qH hrt;rw [<-hrt];rw [<-hrt] at hrz;clear hrt HJ;replace HBW:=qH (za HBW.out hb);replace HD:=qH (HD.out.below hb);replace HO:=qH (ze HO.out hb);replace hx1:=zb hb hx1;clear hb;clear hl1 hl2;have HRF:=fun w h=>nJ rt hrz w h;have HFD:Hid (vj ⟨f,xs,s,lg⟩ rt=match xl rt with
  | some g=>(⟨g,xs,s,lg⟩,[xb g],0)
  | none=>(⟨f,xs,s,lg⟩,[],7)):=qH rfl
 have HSO:=qH (fun g (h:xl rt=some g)=>(sx h).2);obtain ⟨o,ho⟩:=zN (xl rt);rw [<-ho] at HRF HFD HSO;replace HRF:=qH HRF;clear ho;go_wp2_with fail;refine qS (HRF.out _ (HT.out.below HBW.out)) fun W2 hb=>?_;replace HBW:=qH (za HBW.out hb);replace HD:=qH (HD.out.below hb);replace HO:=qH (ze HO.out hb);clear hb;have hsz:=HBW.out.size;obtain ⟨gz,hgz⟩:=zN W2.heap.size;obtain ⟨W3,hW3⟩:=zN (W2.alloc (Obj.cells cG 27));have HB0:Hid (Blk W3 gz 27 cG):=qH (by rw [hW3,hgz];exact Blk.new _ _ _);have hb:Below W2.heap.size W2 W3:=by rw [hW3];exact zc (Below.refl _ _) _
 have hgw:w0.heap.size<=gz:=by omega
 have hgne:gd < gz:=by have:=HD.out.lt;omega
 have hone:Hid (∀ k,(Value.slice A n c).ownBlock=some k->k≠gz):=qH (fun k e=>by have:=yr HO.out k e;omega);have HG:=qH hgz;have HW:=qH hW3;clear hgz hW3;replace HBW:=qH (za HBW.out hb);replace HD:=qH (HD.out.below hb);replace HO:=qH (ze HO.out hb);clear hb;cases o with
 | none=>
   rw [show sh none=#[.agg #[.int .i64 0,.int .i64 0,.int .i64 0,.int .i64 0],.bool false] from rfl];have HE:=qH (HFD.out:vj ⟨f,xs,s,lg⟩ rt=(⟨f,xs,s,lg⟩,[],7));go_wp2_with (rw [<-HW.out,<-HG.out];refine yS gz cG HB0.out ?_)
   go_returns;exact OutX.no (by rw [<-HRT.out,HE.out]) (by decide) (zg HBW.out hgw _)
 | some g=>
   rw [show sh (some g)=#[.agg #[.int .i64 g.length,.int .i64 g.b,.int .i64 g.i,.int .i64 g.h],.bool true] from rfl];have HE:=qH (HFD.out:vj ⟨f,xs,s,lg⟩ rt=(⟨g,xs,s,lg⟩,[xb g],0));have HFG:=qH (HSO.out g rfl);have HFT:=qH (fun w h=>oQ g w h);have HTT:=qH (show ftB g=xb g by unfold ftB;rw [if_pos HFG.out]);go_wp2_with (first
    | (refine yL gz HF5.out underlying27 ?_)
    | (refine yL gz HF4.out underlying27 ?_)
    | (refine wpList_store_mid rfl 27 _ _ rfl gd 0 (cF g) rfl rfl (vZ HD4.out (by show 0 + 4<=15;omega)) (by kernel_rfl) (by simp [Value.oneCell']) ?_
       have HD5:Hid (Blk (World.setCells W4 gd 0 (Array.toList (cF g))) gd 32 (cD g A n c s lg)):=qH ((((HD4.out.set_ 0 _).set_ 1 _).set_ 2 _).set_ 3 _);have HF5:=qH (tO (g':=gd) HF4.out (by omega) (o:=0) (Array.toList (cF g)));have HO5:=qH (sw HO4.out HNE.out 0 (Array.toList (cF g)));have HBW5:=qH (qC HBW4.out hgd 0 (Array.toList (cF g)));obtain ⟨W5,hW5⟩:=zN (World.setCells W4 gd 0 (Array.toList (cF g)));rw [<-hW5] at HD5 HF5 HO5 HBW5 |-;clear hW5;clear HD4 HF4 HO4 HBW4)
    | (rw [<-HW.out,<-HG.out];refine yS gz (cF g) HB0.out ?_
       have HF4:Hid (Blk (World.setRow W3 gz (cF g)) gz 27 (cF g)):=qH (setRow_heap _ _ _ _ _ _ HB0.out);have hg4:=yl W3 gz (cF g);have HD4:=qH (HD.out.grown hg4 (fun e=>by injection e with e;omega));have HO4:=qH (wD HO.out hone.out (cF g));have HBW4:=qH (zg HBW.out hgw (cF g));clear hg4;obtain ⟨W4,hW4⟩:=zN (World.setRow W3 gz (cF g));rw [<-hW4] at HF4 HD4 HO4 HBW4 |-;clear hW4))
   refine qS (HFT.out _ (HT.out.below HBW5.out)) fun W6 hb=>?_;have HD6:=qH (HD5.out.below hb);have HO6:=qH (ze HO5.out hb);have HBW6:=qH (za HBW5.out hb);clear hb HF5 HD5 HO5 HBW5;rw [HTT.out];go_wp2;go_returns;exact OutX.one (by rw [<-HRT.out,HE.out]) hn.out HBW6.out HO6.out HD6.out
end Go.Proofs.YtpiehlfffjhoaaaGreatDoor
