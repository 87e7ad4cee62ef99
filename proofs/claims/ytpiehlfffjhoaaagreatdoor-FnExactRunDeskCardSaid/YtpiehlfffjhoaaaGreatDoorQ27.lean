/- Lemmas for the law on the console: the parts CrB,CoE,StyK,StyJ,StyD,StyF. -/
import Derived.Test.YtpiehlfffjhoaaaGreatDoorQ1
import Derived.Test.YtpiehlfffjhoaaaGreatDoorQ0
import Derived.Test.YtpiehlfffjhoaaaGreatDoorQ22
import Derived.Test.YtpiehlfffjhoaaaGreatDoorQ26
import Derived.Test.YtpiehlfffjhoaaaGreatDoorQ7
import Derived.Test.YtpiehlfffjhoaaaGreatDoorQ11
import Derived.Test.YtpiehlfffjhoaaaGreatDoorQ19
namespace Go.Proofs.YtpiehlfffjhoaaaGreatDoor
open Go.RowKit
set_option maxRecDepth 100000
set_option maxHeartbeats 8000000
structure SR (w0 w:World) (g:Nat) (d:Dk) (O:List ByteArray) (ns:List Int) (ts:List ByteArray) (A Ao An At:Option Addr) (n c no co kn cn kt ct:Nat):Prop where
 blk:Blk w g 73 (#[Value.int .i64 d.f.length,Value.int .i64 d.f.b,Value.int .i64 d.f.i,Value.int .i64 d.f.h,Value.slice A n c,Value.string d.s.u,Value.string d.s.c,Value.string d.s.l,Value.string d.s.s,Value.int .i64 d.s.t,Value.int .i64 d.s.h,Value.int .i64 d.s.e,Value.int .i64 d.s.d,Value.bool d.s.q,Value.string d.lg,Value.slice Ao no co,Value.slice An kn cn,Value.slice At kt ct])
 hn:d.xs.length=n
 ho:O.length=no
 hk:ns.length=kn
 ht:ts.length=kt
 own:w.ownsRow w0.heap.size 100 6 (.slice A n c) n (zd Last.cells d.xs)
 out:w.ownsRow w0.heap.size 9 1 (.slice Ao no co) no (zd zn O)
 nums:Arr w An (zd zp ns)
 texts:Arr w At (zd zn ts)
 ag:∀ ad,A=some ad→ad.block≠g∧ad.block < w.heap.size
 og:∀ ad,Ao=some ad→ad.block≠g∧ad.block < w.heap.size
 ng:∀ ad,An=some ad→ad.block≠g∧ad.block < w.heap.size
 tg:∀ ad,At=some ad→ad.block≠g∧ad.block < w.heap.size
 ao:∀ a o,A=some a→Ao=some o→a.block≠o.block
 no_:∀ a o,An=some a→Ao=some o→a.block≠o.block
 to_:∀ a o,At=some a→Ao=some o→a.block≠o.block
 bel:w0.grownBy w (some g)
 an_:∀ a b,A=some a→An=some b→a.block≠b.block
 at_:∀ a b,A=some a→At=some b→a.block≠b.block
def OutSY (w0:World) (g:Nat) (d:Dk) (O:List ByteArray) (ns:List Int) (ts:List ByteArray) (A An At:Option Addr) (n c kn cn kt ct:Nat) (w:World) (v:Value) (e:Ending) (w':World):Prop:=
 e=.returned v∧w.heap.size≤w'.heap.size∧∃ (Ao:Option Addr) (no co:Nat),SR w0 w' g d O ns ts A Ao An At n c no co kn cn kt ct
def vg (w0:World) (g:Nat) (d:Dk) (O:List ByteArray) (ns:List Int) (ts:List ByteArray) (w:World) (v:Value) (e:Ending) (w':World):Prop:=
 e=.returned v∧w.heap.size≤w'.heap.size∧∃ (A Ao An At:Option Addr) (n c no co kn cn kt ct:Nat),SR w0 w' g d O ns ts A Ao An At n c no co kn cn kt ct
theorem uZ {a b c:World} {row row2:Option Nat} (h:a.grownBy b row) (k:b.grownBy c row2) (hr:∀ q,row2=some q→a.heap.size≤q):a.grownBy c row:=
 ⟨k.os.trans h.os,k.tape.trans h.tape,k.output.trans h.output,Nat.le_trans h.size k.size,fun i hi hne=>(k.block i (Nat.lt_of_lt_of_le hi h.size) (fun e=>by have:=hr i e.symm;omega)).trans (h.block i hi hne)⟩
theorem rN {w:World} {base e size n c:Nat} {A:Option Addr} {cs:List Value} (h:w.ownsRow base e size (.slice A n c) n cs):∀ ad,A=some ad→(Value.slice A n c).ownBlock=some ad.block:=fun ad e=>by subst e;rfl
theorem cR (w0 w:World) (g:Nat) (d:Dk) (O:List ByteArray) (ns:List Int) (ts:List ByteArray) (A Ao An At:Option Addr) (n c no co kn cn kt ct:Nat) (h:SR w0 w g d O ns ts A Ao An At n c no co kn cn kt ct) (hno:no≤1000000) (t:ByteArray) :
 Calls Tryz.prog 43 #[.pointer (some ⟨g,0,none⟩),.string t] w (OutSY w0 g d (O ++ [t]) ns ts A An At n c kn cn kt ct w (.tuple #[])):=by
 obtain ⟨i0,hi0,hz0,hz1,hz2⟩:=info_parts (P:=Tryz.prog) (e:=9) (z:=.string ByteArray.empty) (size:=1) (bytes:=16) vq;have HR:=qH h.out;have HB:=qH h.blk;have hbw:=h.bel.size;have H:=qH h;have c15:w.cell? ⟨g,15,none⟩=some (.slice Ao no co):=h.blk.cell 15;clear h;go_enter Tryz.func43,Tryz.ntmps43;go_wp2_with (at_builtin;refine yq w #[.string t] rfl _ _ 24 9 rfl i0 _ 1 16 Tryz.underlying24 hi0 hz0 hz1 hz2 rfl (by omega) w0.heap.size Ao no co _ rfl _ rfl rfl HR.out rfl (by simp [Value.oneCell']) (by unfold maxLen;omega) (by omega) hbw ?_;intro g7 c7 w7 hown7 hg7 hfr7;have HB7:=qH (HB.out.grown hg7 (fun e=>by cases Ao with | none=>cases e | some ao=>injection e with e;exact (H.out.og ao rfl).1 e.symm));have c15':w7.cell? ⟨g,15,none⟩=some (.slice Ao no co):=HB7.out.cell 15;have f15:w7.frozen? ⟨g,15,none⟩=false:=HB7.out.frozen 15)
 go_returns;have hh:=H.out;have hs7:=hg7.size;have hgl:=hh.blk.lt;have e9:zd zn (O ++ [t])=zd zn O ++ #[Value.string t].toList:=by simp [zd,zn]
 rw [←e9] at hown7;have hfr:∀ p:Nat,p < w.heap.size→(∀ ao,Ao=some ao→p≠ao.block)→p≠g7:=fun p h1 h2=>by
  rcases hfr7 with e7 | e7
  · exact h2 _ e7
  · omega
 have hrow:∀ p:Nat,(∀ ao,Ao=some ao→p≠ao.block)→some p≠Option.map (·.block) Ao:=fun p h1 e=>by
  cases Ao with
  | none=>cases e
  | some ao=>injection e with e;exact h1 ao rfl e
 have hgo:∀ ao,Ao=some ao→g≠ao.block:=fun ao e e2=>(hh.og ao e).1 e2.symm;have hsz:(w7.setCell ⟨g,15,none⟩ (.slice (some ⟨g7,0,none⟩) (no + 1) c7)).heap.size=w7.heap.size:=World.size_setCell _ _ _;have kept:∀ {E size m:Nat} {B:Option Addr} {k:Nat} {cs:List Value},w.ownsRow w0.heap.size E size (.slice B m k) m cs→(∀ ad,B=some ad→ad.block≠g)→(∀ a o,B=some a→Ao=some o→a.block≠o.block)→(w7.setCell ⟨g,15,none⟩ (.slice (some ⟨g7,0,none⟩) (no + 1) c7)).ownsRow w0.heap.size E size (.slice B m k) m cs:=fun {E size m B k cs} hb h1 h2=>by
  refine xm (hb.kept hg7 ?_) (p:=⟨g,15,none⟩) (fun p e=>?_) _
  · cases B with
    | none=>exact .inl rfl
    | some ad=>exact .inr (hrow _ (fun ao e=>h2 ad ao rfl e))
  · cases B with
    | none=>cases e
    | some ad=>injection e with e;subst e;exact h1 ad rfl
 have keptA:∀ {B:Option Addr} {cs:List Value},Arr w B cs→(∀ ad,B=some ad→ad.block≠g)→(∀ a o,B=some a→Ao=some o→a.block≠o.block)→Arr (w7.setCell ⟨g,15,none⟩ (.slice (some ⟨g7,0,none⟩) (no + 1) c7)) B cs:=fun {B cs} hb h1 h2=>
  (hb.grown hg7 (fun ad e=>hrow _ (fun ao e2=>h2 ad ao e e2))).grown (xh w7 g 15 _) (fun ad e e2=>by injection e2 with e2;exact h1 ad e e2)
 refine ⟨rfl,by rw [hsz];omega,some ⟨g7,0,none⟩,no + 1,c7,⟨HB7.out.set_ 15 _,hh.hn,by rw [List.length_append,hh.ho];rfl,hh.hk,hh.ht,kept hh.own (fun ad e=>(hh.ag ad e).1) hh.ao,xm hown7 (p:=⟨g,15,none⟩) (fun p e=>?_) _,keptA hh.nums (fun ad e=>(hh.ng ad e).1) hh.no_,keptA hh.texts (fun ad e=>(hh.tg ad e).1) hh.to_,fun ad e=>⟨(hh.ag ad e).1,by rw [hsz];have:=(hh.ag ad e).2;omega⟩,fun ad e=>?_,fun ad e=>⟨(hh.ng ad e).1,by rw [hsz];have:=(hh.ng ad e).2;omega⟩,fun ad e=>⟨(hh.tg ad e).1,by rw [hsz];have:=(hh.tg ad e).2;omega⟩,fun a o e1 e2=>?_,fun a o e1 e2=>?_,fun a o e1 e2=>?_,?_,hh.an_,hh.at_⟩⟩
 · injection e with e;subst e;exact fun e=>hfr g hgl hgo e.symm
 · injection e with e;subst e;exact ⟨fun e=>hfr g hgl hgo e.symm,by rw [hsz];exact yw hown7 g7 rfl⟩
 · injection e2 with e2;subst e2;exact hfr _ (hh.ag a e1).2 (fun ao e=>hh.ao a ao e1 e)
 · injection e2 with e2;subst e2;exact hfr _ (hh.ng a e1).2 (fun ao e=>hh.no_ a ao e1 e)
 · injection e2 with e2;subst e2;exact hfr _ (hh.tg a e1).2 (fun ao e=>hh.to_ a ao e1 e)
 · exact zZ (uZ hh.bel hg7 (fun p e=>by
    cases Ao with
    | none=>cases e
    | some ao=>injection e with e;rw [←e];exact zl hh.out _ rfl)) (p:=⟨g,15,none⟩) (.inl rfl) _
theorem OutSY.any {w0 w:World} {g:Nat} {d:Dk} {O:List ByteArray} {ns:List Int} {ts:List ByteArray} {A An At:Option Addr} {n c kn cn kt ct:Nat} {v:Value} (e:Ending) (w':World) (h:OutSY w0 g d O ns ts A An At n c kn cn kt ct w v e w'):vg w0 g d O ns ts w v e w':=by
 obtain ⟨h1,h2,Ao,no,co,h3⟩:=h;exact ⟨h1,h2,A,Ao,An,At,n,c,no,co,kn,cn,kt,ct,h3⟩
theorem tQ (w0 w:World) (g:Nat) (d:Dk) (O:List ByteArray) (ns:List Int) (ts:List ByteArray) (A Ao An At:Option Addr) (n c no co kn cn kt ct:Nat) (h:SR w0 w g d O ns ts A Ao An At n c no co kn cn kt ct) (hno:no≤1000000) (t:ByteArray) :
 Calls Tryz.prog 43 #[.pointer (some ⟨g,0,none⟩),.string t] w (vg w0 g d (O ++ [t]) ns ts w (.tuple #[])):=
 (cR w0 w g d O ns ts A Ao An At n c no co kn cn kt ct h hno t).mono OutSY.any
theorem SR.below {w0 w w':World} {g:Nat} {d:Dk} {O:List ByteArray} {ns:List Int} {ts:List ByteArray} {A Ao An At:Option Addr} {n c no co kn cn kt ct:Nat} (h:SR w0 w g d O ns ts A Ao An At n c no co kn cn kt ct) (hb:Below w.heap.size w w'):SR w0 w' g d O ns ts A Ao An At n c no co kn cn kt ct:=
 have hs:=hb.size
 ⟨h.blk.below hb,h.hn,h.ho,h.hk,h.ht,ze h.own hb,ze h.out hb,h.nums.below hb,h.texts.below hb,fun ad e=>⟨(h.ag ad e).1,by have:=(h.ag ad e).2;omega⟩,fun ad e=>⟨(h.og ad e).1,by have:=(h.og ad e).2;omega⟩,
   fun ad e=>⟨(h.ng ad e).1,by have:=(h.ng ad e).2;omega⟩,fun ad e=>⟨(h.tg ad e).1,by have:=(h.tg ad e).2;omega⟩,h.ao,h.no_,h.to_,wA h.bel hb,h.an_,h.at_⟩
theorem SR.same {w0 w w':World} {g:Nat} {d:Dk} {O:List ByteArray} {ns:List Int} {ts:List ByteArray} {A Ao An At:Option Addr} {n c no co kn cn kt ct:Nat} (h:SR w0 w g d O ns ts A Ao An At n c no co kn cn kt ct) (hb:Below w.heap.size w w') {v:Value}:vg w0 g d O ns ts w v (.returned v) w':=
 ⟨rfl,hb.size,A,Ao,An,At,n,c,no,co,kn,cn,kt,ct,h.below hb⟩
theorem yI (w0 w:World) (g:Nat) (d:Dk) (O:List ByteArray) (ns:List Int) (ts:List ByteArray) (A Ao An At:Option Addr) (n c no co kn cn kt ct:Nat) (h:SR w0 w g d O ns ts A Ao An At n c no co kn cn kt ct) (hno:no≤1000000) (k:Int) :
 Calls Tryz.prog 41 #[.pointer (some ⟨g,0,none⟩),.int .i64 k] w (vg w0 g d (if k=0 then O else O ++ [xw k]) ns ts w (.bool (decide (k≠0)))):=by
 by_cases hk:k=0
 · subst hk;go_enter Tryz.func41,Tryz.ntmps41;go_wp2_with fail;go_returns;exact h.same (Below.refl _ _)
 · rw [if_neg hk,decide_eq_true hk];have HC:=qH (jz k w);have l6:(⟨#[101,114,114,111,114,32]⟩:ByteArray).size=6:=rfl;have ez:=rq k;have a0:=fun (w:World)=>run_string_add_sum (P:=Tryz.prog) w ⟨#[101,114,114,111,114,32]⟩ (vC k) (by omega);have HS:=qH (fun w' hb=>tQ w0 w' g d O ns ts A Ao An At n c no co kn cn kt ct (h.below hb) hno (xw k));have HEW:xw k=(⟨#[101,114,114,111,114,32]⟩:ByteArray) ++ vC k:=rfl;obtain ⟨tE,htE⟩:=zN (xw k);rw [←htE] at HEW HS;rw [←HEW] at a0;rw [←htE];clear HEW htE h ez;go_enter Tryz.func41,Tryz.ntmps41;go_wp2_with fail;refine qS HC.out fun W hb=>?_;go_wp2_with fail;refine (HS.out _ hb).mono ?_;rintro e W2 ⟨rfl,hz,hr⟩;have HR:=qH hr;have hzz:=hb.size;clear hr hb;go_wp2_with fail;go_returns;exact ⟨rfl,by omega,HR.out⟩
theorem ah (w0 w:World) (gd ga:Nat) (f:Foot) (xs:List Last) (s:Style) (lg:ByteArray) (n c:Nat) (A An:Option Addr) (ws:List ByteArray) (ns:List Int) (nw kn cn:Nat) (h:XIn w0 w gd ga f xs s lg n c A An ws ns nw kn) (hk:zf ws 0=ya) (h2:2≤nw) :
 Calls Tryz.prog 35 #[.pointer (some ⟨gd,0,none⟩),.slice (some ⟨ga,0,none⟩) nw nw,.slice An kn cn] w (OutX w0 gd (vd ⟨f,xs,s,lg⟩ (yx ws))):=by
 have HBW:=qH h.hbw;have HWS:=qH h.hws;have HD:Hid (Blk w gd 32 (cD f A n c s lg)):=qH h.hdk;have HO:=qH h.hown;have HNE:=qH h.hne;have HT:=qH h.htabs;have HCN:=qH h.hchg;have HOK:=qH h.hok;have HSZ:=qH h.hsz;have hn:=h.hn;have hnw:=h.hnw;have hkn:=h.hkn;have hgd:=h.hgd;have hn30:=h.n30;have hnw0:=h.nw0;have hnw1:=h.nw1;have HJ:=qH (h.join);have hx0:=h.word0 hk;have HK:=qH hk;have hrz:(yx ws).size≤4194304:=Nat.le_trans h.hrsz (by omega);clear h hk;have hl1:(1:Int)≤(nw:Int):=by omega
 have hl2:¬ (nw - 1=0):=by omega
 have hl0:(0:Int) < (nw:Int):=by omega
 have hx1:w.cell? ⟨ga,0,none⟩=some (.string ⟨#[102,111,111,116]⟩):=hx0;clear hx0;go_enter Tryz.func35,Tryz.ntmps35;go_wp2_with fail;refine qS HJ.out fun W hb=>?_;obtain ⟨rt,hrt⟩:=zN (yx ws);have HRT:=qH hrt;rw [←hrt];rw [←hrt] at hrz;clear hrt HJ;replace HBW:=qH (za HBW.out hb);replace HD:=qH (HD.out.below hb);replace HO:=qH (ze HO.out hb);replace hx1:=zb hb hx1;clear hb;clear hl1 hl2;have HRF:=fun w h=>nb rt hrz w h;have HFD:Hid (vd ⟨f,xs,s,lg⟩ rt=match xk rt with
  | some g=>(⟨g,xs,s,lg⟩,[yZ g],0)
  | none=>(⟨f,xs,s,lg⟩,[],7)):=qH rfl
 have HSO:=qH (fun g (h:xk rt=some g)=>(se h).2);obtain ⟨o,ho⟩:=zN (xk rt);rw [←ho] at HRF HFD HSO;replace HRF:=qH HRF;clear ho;go_wp2_with fail;refine qS (HRF.out _ (HT.out.below HBW.out)) fun W2 hb=>?_;replace HBW:=qH (za HBW.out hb);replace HD:=qH (HD.out.below hb);replace HO:=qH (ze HO.out hb);clear hb;have hsz:=HBW.out.size;obtain ⟨gz,hgz⟩:=zN W2.heap.size;obtain ⟨W3,hW3⟩:=zN (W2.alloc (Obj.cells cG 27));have HB0:Hid (Blk W3 gz 27 cG):=qH (by rw [hW3,hgz];exact Blk.new _ _ _);have hb:Below W2.heap.size W2 W3:=by rw [hW3];exact zc (Below.refl _ _) _
 have hgw:w0.heap.size≤gz:=by omega
 have hgne:gd < gz:=by have:=HD.out.lt;omega
 have hone:Hid (∀ k,(Value.slice A n c).ownBlock=some k→k≠gz):=qH (fun k e=>by have:=yw HO.out k e;omega);have HG:=qH hgz;have HW:=qH hW3;clear hgz hW3;replace HBW:=qH (za HBW.out hb);replace HD:=qH (HD.out.below hb);replace HO:=qH (ze HO.out hb);clear hb;cases o with
 | none=>
   rw [show tP none=#[.agg #[.int .i64 0,.int .i64 0,.int .i64 0,.int .i64 0],.bool false] from rfl];have HE:=qH (HFD.out:vd ⟨f,xs,s,lg⟩ rt=(⟨f,xs,s,lg⟩,[],7));go_wp2_with (rw [←HW.out,←HG.out];refine yS gz cG HB0.out ?_)
   go_returns;exact OutX.no (by rw [←HRT.out,HE.out]) (by decide) (zg HBW.out hgw _)
 | some g=>
   rw [show tP (some g)=#[.agg #[.int .i64 g.length,.int .i64 g.b,.int .i64 g.i,.int .i64 g.h],.bool true] from rfl];have HE:=qH (HFD.out:vd ⟨f,xs,s,lg⟩ rt=(⟨g,xs,s,lg⟩,[yZ g],0));have HFG:=qH (HSO.out g rfl);have HFT:=qH (fun w h=>om g w h);have HTT:=qH (show ftB g=yZ g by unfold ftB;rw [if_pos HFG.out]);go_wp2_with (first
    | (refine yL gz HF5.out Tryz.underlying27 ?_)
    | (refine yL gz HF4.out Tryz.underlying27 ?_)
    | (refine wpList_store_mid rfl 27 _ _ rfl gd 0 (cF g) rfl rfl (vS HD4.out (by show 0 + 4≤15;omega)) (by kernel_rfl) (by simp [Value.oneCell']) ?_
       have HD5:Hid (Blk (World.setCells W4 gd 0 (Array.toList (cF g))) gd 32 (cD g A n c s lg)):=qH ((((HD4.out.set_ 0 _).set_ 1 _).set_ 2 _).set_ 3 _);have HF5:=qH (tz (g':=gd) HF4.out (by omega) (o:=0) (Array.toList (cF g)));have HO5:=qH (tZ HO4.out HNE.out 0 (Array.toList (cF g)));have HBW5:=qH (qg HBW4.out hgd 0 (Array.toList (cF g)));obtain ⟨W5,hW5⟩:=zN (World.setCells W4 gd 0 (Array.toList (cF g)));rw [←hW5] at HD5 HF5 HO5 HBW5 ⊢;clear hW5;clear HD4 HF4 HO4 HBW4)
    | (rw [←HW.out,←HG.out];refine yS gz (cF g) HB0.out ?_
       have HF4:Hid (Blk (World.setRow W3 gz (cF g)) gz 27 (cF g)):=qH (setRow_heap _ _ _ _ _ _ HB0.out);have hg4:=yh W3 gz (cF g);have HD4:=qH (HD.out.grown hg4 (fun e=>by injection e with e;omega));have HO4:=qH (wS HO.out hone.out (cF g));have HBW4:=qH (zg HBW.out hgw (cF g));clear hg4;obtain ⟨W4,hW4⟩:=zN (World.setRow W3 gz (cF g));rw [←hW4] at HF4 HD4 HO4 HBW4 ⊢;clear hW4))
   refine qS (HFT.out _ (HT.out.below HBW5.out)) fun W6 hb=>?_;have HD6:=qH (HD5.out.below hb);have HO6:=qH (ze HO5.out hb);have HBW6:=qH (za HBW5.out hb);clear hb HF5 HD5 HO5 HBW5;rw [HTT.out];go_wp2_with fail;go_returns;exact OutX.one (by rw [←HRT.out,HE.out]) hn.out HBW6.out HO6.out HD6.out
def cl3 (x:Style):ByteArray:=if 0 < x.h then ⟨#[104,101,101,108,32]⟩ ++ zm x.h else ⟨#[]⟩
def cl4 (x:Style):ByteArray:=if 0 < x.e then ⟨#[101,121,101,108,101,116,115,32]⟩ ++ zm x.e else ⟨#[]⟩
def oM (x:Style):ByteArray:=if 0 < x.d then ⟨#[115,116,105,116,99,104,32]⟩ ++ zm x.d else ⟨#[]⟩
def cl5 (x:Style):ByteArray:=if x.q=true then oM x ++ ⟨#[32,100,111,117,98,108,101]⟩ else oM x
theorem zbP {x:Style} (hx:xb x=true):cl3 x=tt x∧cl4 x=tu x∧cl5 x=tv x:=by
 rw [wB] at hx;obtain ⟨_,_,_,_,_,h6,h7,h8⟩:=hx;rw [inB_iff] at h6 h7;refine ⟨?_,?_,?_⟩
 · unfold cl3 tt;by_cases h:x.h=0
   · rw [if_pos h,if_neg (by omega)]
   · rw [if_neg h,if_pos (by omega)]
 · unfold cl4 tu;by_cases h:x.e=0
   · rw [if_pos h,if_neg (by omega)]
   · rw [if_neg h,if_pos (by omega)]
 · have hd:oM x=uA x:=by
    unfold oM uA;rw [Bool.or_eq_true,Bool.and_eq_true,decide_eq_true_eq,Bool.not_eq_true',inB_iff] at h8;rcases h8 with ⟨h1,h2⟩ | h8
    · rw [if_neg (by omega:¬ 0 < x.d),if_pos (show x.d=0∧x.q=false from ⟨h1,h2⟩)]
    · rw [if_pos (by omega:0 < x.d),if_neg (show ¬ (x.d=0∧x.q=false) from fun h=>by have:=h.1;omega)]
   unfold cl5 tv;rw [hd]
def clK (k:Int) (x:Style):ByteArray:=if k=0 then vt x else if k=1 then tq x else if k=2 then uH x else if k=3 then cl3 x else if k=4 then cl4 x else cl5 x
theorem zaX {x:Style} (hx:xb x=true) (k:Nat) (hk:k < 6):(xB x)[k]?=some (clK k x):=by
 obtain ⟨h3,h4,h5⟩:=zbP hx;rcases k with _ | _ | _ | _ | _ | _ | k <;> first | omega | (simp [xB,clK,h3,h4,h5];done)
theorem zcA (x:Style):clK 0 x=vt x:=by simp [clK]
theorem zbM (x:Style):clK 1 x=tq x:=by simp [clK]
theorem zcB (x:Style):clK 2 x=uH x:=by simp [clK]
theorem zbN (x:Style):clK 3 x=cl3 x:=by simp [clK]
theorem zbO (x:Style):clK 4 x=cl4 x:=by simp [clK]
theorem zcC (x:Style):clK 5 x=cl5 x:=by simp [clK]
theorem sH {t:ByteArray} (h:zo t=true):t.size≤12:=by
 by_cases h12:12 < t.size
 · rw [wN (.inl h12)] at h;cases h
 · omega
theorem pL {x:Style} (hx:xb x=true):(x.u.size≤12∧x.c.size≤12∧x.l.size≤12∧x.s.size≤12)∧(10≤x.t∧x.t≤300)∧(0≤x.h∧x.h≤1200)∧(0≤x.e∧x.e≤12)∧(0≤x.d∧x.d≤80):=by
 rw [wB] at hx;obtain ⟨h1,h2,h3,h4,h5,h6,h7,h8⟩:=hx;rw [inB_iff] at h5 h6 h7;rw [Bool.or_eq_true] at h3 h8;refine ⟨⟨sH h1,sH h2,?_,sH h4⟩,h5,h6,h7,?_⟩
 · rcases h3 with h | h
   · have:=of_decide_eq_true h;omega
   · exact sH h
 · rcases h8 with h | h
   · rw [Bool.and_eq_true,decide_eq_true_eq] at h;omega
   · rw [inB_iff] at h;omega
theorem bW (x:Style) (hx:Hid (xb x=true)) (t:ByteArray) (ht:t ∈ styW) (w:World) (hT:Tabs w):Calls Tryz.prog 141 #[.agg #[.string x.u,.string x.c,.string x.l,.string x.s,.int .i64 x.t,.int .i64 x.h,.int .i64 x.e,.int .i64 x.d,.bool x.q],.string t] w (Ret (.string (clK (yg t) x)) w):=by
 have HT:=qH hT;clear hT;obtain ⟨⟨z0,z1,z2,z3⟩,i4,i5,i6,i7⟩:=pL hx.out;obtain ⟨d4,e4⟩:=zN (zm x.t);obtain ⟨d5,e5⟩:=zN (zm x.h);obtain ⟨d6,e6⟩:=zN (zm x.e);obtain ⟨d7,e7⟩:=zN (zm x.d);have y4:d4.size≤21:=by rw [e4];exact xd (by omega) (by omega)
 have y5:d5.size≤21:=by rw [e5];exact xd (by omega) (by omega)
 have y6:d6.size≤21:=by rw [e6];exact xd (by omega) (by omega)
 have y7:d7.size≤21:=by rw [e7];exact xd (by omega) (by omega)
 have D4:=fun w h=>xo x.t (by omega) (by omega) w h;have D5:=fun w h=>xo x.h (by omega) (by omega) w h;have D6:=fun w h=>xo x.e (by omega) (by omega) w h;have D7:=fun w h=>xo x.d (by omega) (by omega) w h;rw [←e4] at D4;rw [←e5] at D5;rw [←e6] at D6;rw [←e7] at D7;replace D4:=qH D4;replace D5:=qH D5;replace D6:=qH D6;replace D7:=qH D7;have E4:=qH e4.symm;have E5:=qH e5.symm;have E6:=qH e6.symm;have E7:=qH e7.symm;clear e4 e5 e6 e7;obtain ⟨W,hW⟩:=zN (w.alloc (Obj.cells (cS x) 30));obtain ⟨g,hg⟩:=zN w.heap.size;have hv:Below w.heap.size w W:=by rw [hW];exact zc (Below.refl _ _) _
 have hX:Hid (Blk W g 30 (cS x)):=qH (by rw [hW,hg];exact Blk.new _ _ _);have HW:=qH hW;have HG:=qH hg;clear hW hg;obtain ⟨k,hk⟩:=zN (yg t);obtain ⟨e0,e1,e2,e3,e4,e5⟩:=vE hk.symm;have hkk:k=0∨k=1∨k=2∨k=3∨k=4∨k=5:=by
  rcases vk t with ⟨_,h⟩ | ⟨_,h⟩ | ⟨_,h⟩ | ⟨_,h⟩ | ⟨_,h⟩ | ⟨_,h⟩ | ⟨h,_⟩
  all_goals first | exact absurd ht h | omega
 obtain ⟨R,hR⟩:=zN (clK k x);rw [←hk,←hR];have HR:=qH hR;clear hR hk ht;rw [show wUpper.toList=[117,112,112,101,114] from by simp [wUpper]] at e0;rw [show wLining.toList=[108,105,110,105,110,103] from by simp [wLining]] at e1;rw [show wSole.toList=[115,111,108,101] from by simp [wSole]] at e2;rw [show wHeel.toList=[104,101,101,108] from by simp [wHeel]] at e3;rw [show wEyelets.toList=[101,121,101,108,101,116,115] from by simp [wEyelets]] at e4;rw [show wStitch.toList=[115,116,105,116,99,104] from by simp [wStitch]] at e5;go_enter Tryz.func141,Tryz.ntmps141;go_upto_region 2 with fail;rw [←HW.out,←HG.out];clear HW HG;have l0:(⟨#[117,112,112,101,114,32]⟩:ByteArray).size=6:=rfl;have l1:(⟨#[32]⟩:ByteArray).size=1:=rfl;have l2:(⟨#[115,111,108,101,32]⟩:ByteArray).size=5:=rfl;have l3:(⟨#[108,105,110,105,110,103,32]⟩:ByteArray).size=7:=rfl;have l4:(⟨#[104,101,101,108,32]⟩:ByteArray).size=5:=rfl;have l5:(⟨#[101,121,101,108,101,116,115,32]⟩:ByteArray).size=8:=rfl;have l6:(⟨#[115,116,105,116,99,104,32]⟩:ByteArray).size=7:=rfl;have l7:(⟨#[32,100,111,117,98,108,101]⟩:ByteArray).size=7:=rfl;rcases hkk with rfl | rfl | rfl | rfl | rfl | rfl
 · as_aux_lemma=>
    replace e0:=e0.trans (show decide ((0:Int)=0)=true from by decide);replace e1:=e1.trans (show decide ((0:Int)=1)=false from by decide);replace e2:=e2.trans (show decide ((0:Int)=2)=false from by decide);replace e3:=e3.trans (show decide ((0:Int)=3)=false from by decide);replace e4:=e4.trans (show decide ((0:Int)=4)=false from by decide);replace e5:=e5.trans (show decide ((0:Int)=5)=false from by decide);have a0:=fun (w:World)=>run_string_add_sum (P:=Tryz.prog) w (⟨#[117,112,112,101,114,32]⟩:ByteArray) x.u (by omega);have a1:=fun (w:World)=>run_string_add_sum (P:=Tryz.prog) w ((⟨#[117,112,112,101,114,32]⟩:ByteArray) ++ x.u) (⟨#[32]⟩:ByteArray) (by simp only [zu];omega);have a2:=fun (w:World)=>run_string_add_sum (P:=Tryz.prog) w (((⟨#[117,112,112,101,114,32]⟩:ByteArray) ++ x.u) ++ (⟨#[32]⟩:ByteArray)) x.c (by simp only [zu];omega);have k0:W.cell? ⟨g,0,none⟩=some (.string x.u):=hX.out.cell 0;have k1:W.cell? ⟨g,1,none⟩=some (.string x.c):=hX.out.cell 1;go_wp2_with fail;go_returns;exact Ret.mk (vs (by rw [HR.out,zcA];rfl)) hv
 · as_aux_lemma=>
    replace e0:=e0.trans (show decide ((1:Int)=0)=false from by decide);replace e1:=e1.trans (show decide ((1:Int)=1)=true from by decide);replace e2:=e2.trans (show decide ((1:Int)=2)=false from by decide);replace e3:=e3.trans (show decide ((1:Int)=3)=false from by decide);replace e4:=e4.trans (show decide ((1:Int)=4)=false from by decide);replace e5:=e5.trans (show decide ((1:Int)=5)=false from by decide);have a0:=fun (w:World)=>run_string_add_sum (P:=Tryz.prog) w (⟨#[108,105,110,105,110,103,32]⟩:ByteArray) x.l (by omega);have k2:W.cell? ⟨g,2,none⟩=some (.string x.l):=hX.out.cell 2;have hE:=xH x.l;by_cases h0:x.l.size=0
    · rw [decide_eq_true h0] at hE;have hq:clK 1 x=⟨#[]⟩:=(zbM x).trans (if_pos h0);have HQ:=qH hq;clear hq h0;go_wp2_with fail;go_returns;exact Ret.mk (vs (by rw [HR.out,HQ.out])) hv
    · rw [decide_eq_false h0] at hE;have hq:clK 1 x=_:=(zbM x).trans (if_neg h0);have HQ:=qH hq;clear hq h0;go_wp2_with fail;go_returns;exact Ret.mk (vs (by rw [HR.out,HQ.out])) hv
 · as_aux_lemma=>
    replace e0:=e0.trans (show decide ((2:Int)=0)=false from by decide);replace e1:=e1.trans (show decide ((2:Int)=1)=false from by decide);replace e2:=e2.trans (show decide ((2:Int)=2)=true from by decide);replace e3:=e3.trans (show decide ((2:Int)=3)=false from by decide);replace e4:=e4.trans (show decide ((2:Int)=4)=false from by decide);replace e5:=e5.trans (show decide ((2:Int)=5)=false from by decide);have a0:=fun (w:World)=>run_string_add_sum (P:=Tryz.prog) w (⟨#[115,111,108,101,32]⟩:ByteArray) x.s (by omega);have a1:=fun (w:World)=>run_string_add_sum (P:=Tryz.prog) w ((⟨#[115,111,108,101,32]⟩:ByteArray) ++ x.s) (⟨#[32]⟩:ByteArray) (by simp only [zu];omega);have a2:=fun (w:World)=>run_string_add_sum (P:=Tryz.prog) w (((⟨#[115,111,108,101,32]⟩:ByteArray) ++ x.s) ++ (⟨#[32]⟩:ByteArray)) d4 (by simp only [zu];omega);have k3:W.cell? ⟨g,3,none⟩=some (.string x.s):=hX.out.cell 3;have k4:W.cell? ⟨g,4,none⟩=some (.int .i64 x.t):=hX.out.cell 4;go_upto_region 9 with fail;refine zH (fun w'=>Below W.heap.size W w'∧True) ?_ (fun hHeld=>?_)
    · exact ⟨(Below.refl _ _).drew,trivial⟩
    have hd9:=za hv hHeld.1;have hd8:=hHeld.1;refine zU 0 26 ?_;refine zT 1 27 rfl (fun w hSw=>by
     have x_k3:=zb hSw.1 k3;go_simp;try with_reducible rfl) ?_
    refine zU 2 28 ?_;refine zU 3 29 ?_;refine zU 4 30 ?_;refine zT 5 31 rfl (fun w hSw=>by
     have x_k4:=zb hSw.1 k4;go_simp;try with_reducible rfl) ?_
    refine zR 6 (some 32) rfl (fun K hK=>?_);go_simp;go_split_ands;refine qS (D4.out _ (HT.out.pow.below hd9)) fun W1 hb9=>?_;have hh:=za hd8 hb9;replace hv:=za hd9 hb9;clear hd9 hd8;go_wp2_with fail;refine zK hK ⟨hh,trivial⟩ (fun hHeld=>?_);clear hK K;refine zU 7 33 ?_;refine zU 8 5 ?_;refine zD ?_;clear hHeld;go_wp2_with fail;go_returns;refine Ret.mk (vs ?_) hv;rw [HR.out,zcB];unfold uH;rw [E4.out];rfl
 · as_aux_lemma=>
    replace e0:=e0.trans (show decide ((3:Int)=0)=false from by decide);replace e1:=e1.trans (show decide ((3:Int)=1)=false from by decide);replace e2:=e2.trans (show decide ((3:Int)=2)=false from by decide);replace e3:=e3.trans (show decide ((3:Int)=3)=true from by decide);replace e4:=e4.trans (show decide ((3:Int)=4)=false from by decide);replace e5:=e5.trans (show decide ((3:Int)=5)=false from by decide);have a0:=fun (w:World)=>run_string_add_sum (P:=Tryz.prog) w (⟨#[104,101,101,108,32]⟩:ByteArray) d5 (by omega);have k5:W.cell? ⟨g,5,none⟩=some (.int .i64 x.h):=hX.out.cell 5;by_cases h0:0 < x.h
    · have hq:clK 3 x=_:=(zbN x).trans (if_pos h0);rw [E5.out] at hq;have HQ:=qH hq;clear hq;go_wp2_with fail;refine qS (D5.out _ (HT.out.pow.below hv)) fun W2 hb=>?_;replace hv:=za hv hb;replace hX:=qH (hX.out.below hb);clear hb;go_wp2_with fail;go_returns;exact Ret.mk (vs (by rw [HR.out,HQ.out])) hv
    · have hq:clK 3 x=⟨#[]⟩:=(zbN x).trans (if_neg h0);have HQ:=qH hq;clear hq;go_wp2_with fail;go_returns;exact Ret.mk (vs (by rw [HR.out,HQ.out])) hv
 · as_aux_lemma=>
    replace e0:=e0.trans (show decide ((4:Int)=0)=false from by decide);replace e1:=e1.trans (show decide ((4:Int)=1)=false from by decide);replace e2:=e2.trans (show decide ((4:Int)=2)=false from by decide);replace e3:=e3.trans (show decide ((4:Int)=3)=false from by decide);replace e4:=e4.trans (show decide ((4:Int)=4)=true from by decide);replace e5:=e5.trans (show decide ((4:Int)=5)=false from by decide);have a0:=fun (w:World)=>run_string_add_sum (P:=Tryz.prog) w (⟨#[101,121,101,108,101,116,115,32]⟩:ByteArray) d6 (by omega);have k6:W.cell? ⟨g,6,none⟩=some (.int .i64 x.e):=hX.out.cell 6;by_cases h0:0 < x.e
    · have hq:clK 4 x=_:=(zbO x).trans (if_pos h0);rw [E6.out] at hq;have HQ:=qH hq;clear hq;go_wp2_with fail;refine qS (D6.out _ (HT.out.pow.below hv)) fun W2 hb=>?_;replace hv:=za hv hb;replace hX:=qH (hX.out.below hb);clear hb;go_wp2_with fail;go_returns;exact Ret.mk (vs (by rw [HR.out,HQ.out])) hv
    · have hq:clK 4 x=⟨#[]⟩:=(zbO x).trans (if_neg h0);have HQ:=qH hq;clear hq;go_wp2_with fail;go_returns;exact Ret.mk (vs (by rw [HR.out,HQ.out])) hv
 · as_aux_lemma=>
    replace e0:=e0.trans (show decide ((5:Int)=0)=false from by decide);replace e1:=e1.trans (show decide ((5:Int)=1)=false from by decide);replace e2:=e2.trans (show decide ((5:Int)=2)=false from by decide);replace e3:=e3.trans (show decide ((5:Int)=3)=false from by decide);replace e4:=e4.trans (show decide ((5:Int)=4)=false from by decide);replace e5:=e5.trans (show decide ((5:Int)=5)=true from by decide);have hq:clK 5 x=if x.q=true then oM x ++ ⟨#[32,100,111,117,98,108,101]⟩ else oM x:=zcC x
    have hq2:oM x=if 0 < x.d then (⟨#[115,116,105,116,99,104,32]⟩:ByteArray) ++ zm x.d else ⟨#[]⟩:=rfl
    rw [E7.out] at hq2;have a0:=fun (w:World)=>run_string_add_sum (P:=Tryz.prog) w (⟨#[115,116,105,116,99,104,32]⟩:ByteArray) d7 (by omega);have a1:=fun (w:World)=>run_string_add_sum (P:=Tryz.prog) w ((⟨#[115,116,105,116,99,104,32]⟩:ByteArray) ++ d7) (⟨#[32,100,111,117,98,108,101]⟩:ByteArray) (by simp only [zu];omega);have a2:=fun (w:World)=>run_string_add_sum (P:=Tryz.prog) w (⟨#[]⟩:ByteArray) (⟨#[32,100,111,117,98,108,101]⟩:ByteArray) (by decide);have k7:W.cell? ⟨g,7,none⟩=some (.int .i64 x.d):=hX.out.cell 7;have k8:W.cell? ⟨g,8,none⟩=some (.bool x.q):=hX.out.cell 8;by_cases h0:0 < x.d
    · rw [if_pos h0] at hq2;cases hd:x.q
      · rw [hd,if_neg (by simp),hq2] at hq;have HQ:=qH hq;clear hq hq2;rw [hd] at k8;go_wp2_with fail;refine qS (D7.out _ (HT.out.pow.below hv)) fun W2 hb=>?_;replace hv:=za hv hb;replace hX:=qH (hX.out.below hb);clear hb;replace k8:W2.cell? ⟨g,8,none⟩=some (.bool false):=by rw [←hd];exact hX.out.cell 8
        go_wp2_with fail;go_returns;exact Ret.mk (vs (by rw [HR.out,HQ.out])) hv
      · rw [hd,if_pos rfl,hq2] at hq;have HQ:=qH hq;clear hq hq2;rw [hd] at k8;go_wp2_with fail;refine qS (D7.out _ (HT.out.pow.below hv)) fun W2 hb=>?_;replace hv:=za hv hb;replace hX:=qH (hX.out.below hb);clear hb;replace k8:W2.cell? ⟨g,8,none⟩=some (.bool true):=by rw [←hd];exact hX.out.cell 8
        go_wp2_with fail;go_returns;exact Ret.mk (vs (by rw [HR.out,HQ.out])) hv
    · rw [if_neg h0] at hq2;cases hd:x.q
      · rw [hd,if_neg (by simp),hq2] at hq;have HQ:=qH hq;clear hq hq2;rw [hd] at k8;go_wp2_with fail;go_returns;exact Ret.mk (vs (by rw [HR.out,HQ.out])) hv
      · rw [hd,if_pos rfl,hq2] at hq;have HQ:=qH hq;clear hq hq2;rw [hd] at k8;go_wp2_with fail;go_returns;exact Ret.mk (vs (by rw [HR.out,HQ.out])) hv
structure Kp (p:ByteArray→Bool) (L D:List ByteArray) (i j:Nat):Prop where
 len:D.length=L.length
 lt:i < j
 low:D.take i=(L.take j).filter fun x=>!p x
 high:∀ k,i≤k→D[k]?=L[k]?
theorem Kp.start {p:ByteArray→Bool} {L:List ByteArray} {k:Nat} {x:ByteArray} (hx:L[k]?=some x) (hp:p x=true) (hb:∀ y ∈ L.take k,p y=false):Kp p L L k (k + 1) where
 len:=rfl
 lt:=Nat.lt_succ_self _
 low:=by
  rw [yD hx,List.filter_append,List.filter_eq_self.2 (fun y hy=>by rw [hb y hy];rfl)];simp [hp]
 high:=fun _ _=>rfl
theorem Kp.skip {p:ByteArray→Bool} {L D:List ByteArray} {i j:Nat} {x:ByteArray} (h:Kp p L D i j) (hx:L[j]?=some x) (hp:p x=true):Kp p L D i (j + 1) where
 len:=h.len
 lt:=by have:=h.lt;omega
 low:=by rw [yD hx,List.filter_append,h.low];simp [hp]
 high:=h.high
theorem Kp.keep {p:ByteArray→Bool} {L D:List ByteArray} {i j:Nat} {x:ByteArray} (h:Kp p L D i j) (hx:L[j]?=some x) (hp:p x=false):Kp p L (D.set i x) (i + 1) (j + 1) where
 len:=by rw [List.length_set];exact h.len
 lt:=by have:=h.lt;omega
 low:=by
  have hj:j < L.length:=by
   rcases Nat.lt_or_ge j L.length with h | h
   · exact h
   · rw [List.getElem?_eq_none h] at hx;cases hx
  have hi:i < D.length:=by have:=h.len;have:=h.lt;omega
  have hs:(D.set i x)[i]?=some x:=by rw [List.getElem?_set_self hi]
  rw [yD hs,List.take_set_of_le (Nat.le_refl i),h.low,yD hx,List.filter_append];simp [hp]
 high:=fun k hk=>by rw [List.getElem?_set_ne (by omega)];exact h.high k (by omega)
theorem Kp.done {p:ByteArray→Bool} {L D:List ByteArray} {i:Nat} (h:Kp p L D i L.length):D.take i=L.filter fun x=>!p x:=by
 rw [h.low,List.take_of_length_le (Nat.le_refl _)]
theorem Kp.num {p:ByteArray→Bool} {L D:List ByteArray} {i:Nat} (h:Kp p L D i L.length):(L.filter fun x=>!p x).length=i:=by
 rw [←h.done,List.length_take];have:=h.len;have:=h.lt;omega
theorem rj {x:Style} (hx:xb x=true):x.fits:=by
 obtain ⟨⟨z0,z1,z2,z3⟩,i4,i5,i6,i7⟩:=pL hx;unfold Style.fits;omega
theorem zar (k:Nat) (hk:k < 6):∃ t,styW[k]?=some t∧yg t=(k:Int):=by
 rcases k with _ | _ | _ | _ | _ | _ | k
 · exact ⟨_,rfl,qt⟩
 · exact ⟨_,rfl,qu⟩
 · exact ⟨_,rfl,qv⟩
 · exact ⟨_,rfl,qw⟩
 · exact ⟨_,rfl,qx⟩
 · exact ⟨_,rfl,uy⟩
 · omega
end Go.Proofs.YtpiehlfffjhoaaaGreatDoor
