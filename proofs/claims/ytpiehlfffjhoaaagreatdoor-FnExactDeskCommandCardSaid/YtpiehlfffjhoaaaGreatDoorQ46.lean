/- Lemmas for the law on the console: the parts CrS,CrX. -/
import Derived.Test.YtpiehlfffjhoaaaGreatDoorQ45
namespace Go.Proofs.YtpiehlfffjhoaaaGreatDoor
open Go.RowKit Go.Proofs.Tryz
set_option maxRecDepth 100000
set_option maxHeartbeats 8000000
structure SW (w0 w1 w:World) (g:Nat) (d:Dk) (O:List ByteArray) (ns:List Int) (ts:List ByteArray) (A Ao An At:Option Addr) (n c no co kn cn kt ct:Nat):Prop where
 sr:SR w0 w g d O ns ts A Ao An At n c no co kn cn kt ct
 nown:w.ownsRow w1.heap.size 2 1 (.slice An kn cn) kn (zd zp ns)
 town:w.ownsRow w1.heap.size 9 1 (.slice At kt ct) kt (zd zt ts)
 aa:∀ a,A=some a->a.block < w1.heap.size
 oo:∀ a,Ao=some a->a.block < w1.heap.size
 g1:g < w1.heap.size
 nt:∀ a b,An=some a->At=some b->a.block≠b.block
 h1:w0.heap.size<=w1.heap.size
 h2:w1.heap.size<=w.heap.size
theorem SW.below{w0 w1 w w':World}{g:Nat}{d:Dk}{O:List ByteArray}{ns:List Int}{ts:List ByteArray}{A Ao An At:Option Addr}{n c no co kn cn kt ct:Nat}(h:SW w0 w1 w g d O ns ts A Ao An At n c no co kn cn kt ct)(hb:Below w.heap.size w w'):SW w0 w1 w' g d O ns ts A Ao An At n c no co kn cn kt ct:=
 ⟨h.sr.below hb,ze h.nown hb,ze h.town hb,h.aa,h.oo,h.g1,h.nt,h.h1,Nat.le_trans h.h2 hb.size⟩
theorem SW.num{w0 w1 w w7:World}{g:Nat}{d:Dk}{O:List ByteArray}{ns:List Int}{ts:List ByteArray}{M:List Int}{A Ao An At A7:Option Addr}{n c no co kn cn kt ct k c7:Nat}(hw:SW w0 w1 w g d O ns ts A Ao An At n c no co kn cn kt ct)(hk:M.length=k)(hown7:w7.ownsRow w1.heap.size 2 1 (.slice A7 (kn + k) c7) (kn + k) (zd zp (ns ++ M)))(hg7:w.grownBy w7 (An.map (·.block)))(hfr7:A7=An\/∃ g7,A7=some ⟨g7,0,none⟩/\w.heap.size<=g7) :
 SW w0 w1 (w7.setCell ⟨g,16,none⟩ (.slice A7 (kn + k) c7)) g d O (ns ++ M) ts A Ao A7 At n c no co (kn + k) c7 kt ct:=by
 have hh:=hw.sr;have hs7:=hg7.size;have hgl:=hh.blk.lt;have hX:=tj hw.nown;have hfr:∀ p:Nat,p < w.heap.size->(∀ ao,An=some ao->p≠ao.block)->∀ a7,A7=some a7->p≠a7.block:=fun p h1 h2 a7 e=>by
  rcases hfr7 with e7 | ⟨g7,e7,h7⟩
  ·exact h2 _ (e7 ▸ e)
  ·rw [e7] at e;injection e with e;subst e;dsimp only;omega
 have hrow:∀ p:Nat,(∀ ao,An=some ao->p≠ao.block)->some p≠Option.map (·.block) An:=fun p h1 e=>by
  cases hx:An with
  | none=>rw [hx] at e;cases e
  | some ao=>rw [hx] at e;injection e with e;exact h1 ao hx e
 have hgX:∀ ao,An=some ao->g≠ao.block:=fun ao e=>by have:=hX ao e;have:=hw.g1;omega
 have hAX:∀ a,A=some a->∀ ao,An=some ao->a.block≠ao.block:=fun a ea ao e=>by have:=hX ao e;have:=hw.aa a ea;omega
 have hOX:∀ a,Ao=some a->∀ ao,An=some ao->a.block≠ao.block:=fun a ea ao e=>by have:=hX ao e;have:=hw.oo a ea;omega
 have hYX:∀ a,At=some a->∀ ao,An=some ao->a.block≠ao.block:=fun a ea ao e=>(hw.nt ao a e ea).symm;have hsz:(w7.setCell ⟨g,16,none⟩ (.slice A7 (kn + k) c7)).heap.size=w7.heap.size:=World.size_setCell _ _ _;have hB7:=hh.blk.grown hg7 (hrow g hgX);have kept:∀ {b E size m:Nat} {B:Option Addr} {q:Nat} {cs:List Value},w.ownsRow b E size (.slice B m q) m cs->(∀ ad,B=some ad->ad.block≠g)->(∀ a,B=some a->∀ ao,An=some ao->a.block≠ao.block)->(w7.setCell ⟨g,16,none⟩ (.slice A7 (kn + k) c7)).ownsRow b E size (.slice B m q) m cs:=fun {b E size m B q cs} hb h1 h2=>by
  refine yy (hb.kept hg7 ?_) (p:=⟨g,16,none⟩) (fun p e=>?_) _
  · cases B with
    | none=>exact .inl rfl
    | some ad=>exact .inr (hrow _ (h2 ad rfl))
  · cases B with
    | none=>cases e
    | some ad=>injection e with e;subst e;exact h1 ad rfl
 have h7g:∀ a7,A7=some a7->a7.block≠g:=fun a7 e e2=>hfr g hgl hgX a7 e e2.symm;have hown8:(w7.setCell ⟨g,16,none⟩ (.slice A7 (kn + k) c7)).ownsRow w1.heap.size 2 1 (.slice A7 (kn + k) c7) (kn + k) (zd zp (ns ++ M)):=yy hown7 (p:=⟨g,16,none⟩) (fun p e=>by
  cases A7 with
  | none=>cases e
  | some a7=>injection e with e;subst e;exact h7g a7 rfl) _
 have hY8:=kept hw.town (fun ad e=>(hh.tg ad e).1) hYX;have hb8:w0.grownBy (w7.setCell ⟨g,16,none⟩ (.slice A7 (kn + k) c7)) (some g):=zF (tv hh.bel hg7 (fun p e=>by
  cases hx:An with
  | none=>rw [hx] at e;cases e
  | some ao=>rw [hx] at e;injection e with e;rw [<-e];exact Nat.le_trans hw.h1 (hX ao hx))) (p:=⟨g,16,none⟩) (.inl rfl) _
 have g7:∀ ad,A7=some ad->ad.block≠g/\ad.block < (w7.setCell ⟨g,16,none⟩ (.slice A7 (kn + k) c7)).heap.size:=fun ad e=>⟨h7g ad e,jD hown8 ad e⟩
 have gk:∀ {B:Option Addr},(∀ ad,B=some ad->ad.block≠g/\ad.block < w.heap.size)->∀ ad,B=some ad->ad.block≠g/\ad.block < (w7.setCell ⟨g,16,none⟩ (.slice A7 (kn + k) c7)).heap.size:=fun hB ad e=>⟨(hB ad e).1,by rw [hsz];have:=(hB ad e).2;omega⟩
 refine ⟨⟨hB7.set_ 16 _,hh.hn,hh.ho,by rw [List.length_append,hh.hk,hk],hh.ht,kept hh.own (fun ad e=>(hh.ag ad e).1) hAX,kept hh.out (fun ad e=>(hh.og ad e).1) hOX,Arr.own hown8,Arr.own hY8,gk hh.ag,gk hh.og,g7,gk hh.tg,hh.ao,fun a o e1 e2=>(hfr _ (hh.og o e2).2 (hOX o e2) a e1).symm,hh.to_,hb8,fun a b e1 e2=>hfr _ (hh.ag a e1).2 (hAX a e1) b e2,hh.at_⟩,hown8,hY8,hw.aa,hw.oo,hw.g1,fun a b e1 e2=>(hfr _ (hh.tg b e2).2 (hYX b e2) a e1).symm,hw.h1,by rw [hsz];have:=hw.h2;omega⟩
theorem SW.txt{w0 w1 w w7:World}{g:Nat}{d:Dk}{O:List ByteArray}{ns:List Int}{ts:List ByteArray}{M:List ByteArray}{A Ao An At A7:Option Addr}{n c no co kn cn kt ct k c7:Nat}(hw:SW w0 w1 w g d O ns ts A Ao An At n c no co kn cn kt ct)(hk:M.length=k)(hown7:w7.ownsRow w1.heap.size 9 1 (.slice A7 (kt + k) c7) (kt + k) (zd zt (ts ++ M)))(hg7:w.grownBy w7 (At.map (·.block)))(hfr7:A7=At\/∃ g7,A7=some ⟨g7,0,none⟩/\w.heap.size<=g7) :
 SW w0 w1 (w7.setCell ⟨g,17,none⟩ (.slice A7 (kt + k) c7)) g d O ns (ts ++ M) A Ao An A7 n c no co kn cn (kt + k) c7:=by
 have hh:=hw.sr;have hs7:=hg7.size;have hgl:=hh.blk.lt;have hX:=tj hw.town;have hfr:∀ p:Nat,p < w.heap.size->(∀ ao,At=some ao->p≠ao.block)->∀ a7,A7=some a7->p≠a7.block:=fun p h1 h2 a7 e=>by
  rcases hfr7 with e7 | ⟨g7,e7,h7⟩
  ·exact h2 _ (e7 ▸ e)
  ·rw [e7] at e;injection e with e;subst e;dsimp only;omega
 have hrow:∀ p:Nat,(∀ ao,At=some ao->p≠ao.block)->some p≠Option.map (·.block) At:=fun p h1 e=>by
  cases hx:At with
  | none=>rw [hx] at e;cases e
  | some ao=>rw [hx] at e;injection e with e;exact h1 ao hx e
 have hgX:∀ ao,At=some ao->g≠ao.block:=fun ao e=>by have:=hX ao e;have:=hw.g1;omega
 have hAX:∀ a,A=some a->∀ ao,At=some ao->a.block≠ao.block:=fun a ea ao e=>by have:=hX ao e;have:=hw.aa a ea;omega
 have hOX:∀ a,Ao=some a->∀ ao,At=some ao->a.block≠ao.block:=fun a ea ao e=>by have:=hX ao e;have:=hw.oo a ea;omega
 have hYX:∀ a,An=some a->∀ ao,At=some ao->a.block≠ao.block:=fun a ea ao e=>hw.nt a ao ea e;have hsz:(w7.setCell ⟨g,17,none⟩ (.slice A7 (kt + k) c7)).heap.size=w7.heap.size:=World.size_setCell _ _ _;have hB7:=hh.blk.grown hg7 (hrow g hgX);have kept:∀ {b E size m:Nat} {B:Option Addr} {q:Nat} {cs:List Value},w.ownsRow b E size (.slice B m q) m cs->(∀ ad,B=some ad->ad.block≠g)->(∀ a,B=some a->∀ ao,At=some ao->a.block≠ao.block)->(w7.setCell ⟨g,17,none⟩ (.slice A7 (kt + k) c7)).ownsRow b E size (.slice B m q) m cs:=fun {b E size m B q cs} hb h1 h2=>by
  refine yy (hb.kept hg7 ?_) (p:=⟨g,17,none⟩) (fun p e=>?_) _
  · cases B with
    | none=>exact .inl rfl
    | some ad=>exact .inr (hrow _ (h2 ad rfl))
  · cases B with
    | none=>cases e
    | some ad=>injection e with e;subst e;exact h1 ad rfl
 have h7g:∀ a7,A7=some a7->a7.block≠g:=fun a7 e e2=>hfr g hgl hgX a7 e e2.symm;have hown8:(w7.setCell ⟨g,17,none⟩ (.slice A7 (kt + k) c7)).ownsRow w1.heap.size 9 1 (.slice A7 (kt + k) c7) (kt + k) (zd zt (ts ++ M)):=yy hown7 (p:=⟨g,17,none⟩) (fun p e=>by
  cases A7 with
  | none=>cases e
  | some a7=>injection e with e;subst e;exact h7g a7 rfl) _
 have hY8:=kept hw.nown (fun ad e=>(hh.ng ad e).1) hYX;have hb8:w0.grownBy (w7.setCell ⟨g,17,none⟩ (.slice A7 (kt + k) c7)) (some g):=zF (tv hh.bel hg7 (fun p e=>by
  cases hx:At with
  | none=>rw [hx] at e;cases e
  | some ao=>rw [hx] at e;injection e with e;rw [<-e];exact Nat.le_trans hw.h1 (hX ao hx))) (p:=⟨g,17,none⟩) (.inl rfl) _
 have g7:∀ ad,A7=some ad->ad.block≠g/\ad.block < (w7.setCell ⟨g,17,none⟩ (.slice A7 (kt + k) c7)).heap.size:=fun ad e=>⟨h7g ad e,jD hown8 ad e⟩
 have gk:∀ {B:Option Addr},(∀ ad,B=some ad->ad.block≠g/\ad.block < w.heap.size)->∀ ad,B=some ad->ad.block≠g/\ad.block < (w7.setCell ⟨g,17,none⟩ (.slice A7 (kt + k) c7)).heap.size:=fun hB ad e=>⟨(hB ad e).1,by rw [hsz];have:=(hB ad e).2;omega⟩
 refine ⟨⟨hB7.set_ 17 _,hh.hn,hh.ho,hh.hk,by rw [List.length_append,hh.ht,hk],kept hh.own (fun ad e=>(hh.ag ad e).1) hAX,kept hh.out (fun ad e=>(hh.og ad e).1) hOX,Arr.own hY8,Arr.own hown8,gk hh.ag,gk hh.og,gk hh.ng,g7,hh.ao,hh.no_,fun a o e1 e2=>(hfr _ (hh.og o e2).2 (hOX o e2) a e1).symm,hb8,hh.an_,fun a b e1 e2=>hfr _ (hh.ag a e1).2 (hAX a e1) b e2⟩,hY8,hown8,hw.aa,hw.oo,hw.g1,fun a b e1 e2=>hfr _ (hh.ng a e1).2 (hYX a e1) b e2,hw.h1,by rw [hsz];have:=hw.h2;omega⟩
theorem aW{α β γ:Type}{P G:World->α->β->γ->Prop}{goal:Prop}(h:Hid (∀ V a b c,P V a b c->G V a b c)->goal)(k:∀ V a b c,P V a b c->G V a b c):goal:=h (qH k)
theorem zdm{ws:List ByteArray}{l:List UInt8}{j:Nat}{b:UInt8}(h:l[j]?=some b)(k:Nat):wdT ws (l.drop j) k=(if b=120 then [zf ws k] else if b=114 then [yB ⟨#[32]⟩ (ws.drop k)] else []) ++ wdT ws (l.drop (j + 1)) (k + 1):=by rw [yM h];rfl
theorem zdl{ws:List ByteArray}{l:List UInt8}{j:Nat}{b:UInt8}(h:l[j]?=some b)(k:Nat):wdN ws (l.drop j) k=(if b=120 then [] else if b=114 then [] else [zq (zf ws k)]) ++ wdN ws (l.drop (j + 1)) (k + 1):=by rw [yM h];rfl
theorem zcT{ws:List ByteArray}{l:List UInt8}{j:Nat}{b:UInt8}(h:l[j]?=some b)(k:Nat):yQ ws (l.drop j) k=((if b=120 then true else if b=114 then true else okB (zf ws k)) && yQ ws (l.drop (j + 1)) (k + 1)):=by rw [yM h];rfl
theorem zcC{ws:List ByteArray}{k:Nat}{y:ByteArray}(h:ws[k]?=some y):zf ws k=y:=by unfold zf;rw [List.getD_eq_getElem?_getD,h];rfl
theorem bN{ws:List ByteArray}{k q:Nat}{y:ByteArray}(h:ws[k + q]?=some y)(hq:0 < q):yB ⟨#[32]⟩ ((ws.drop k).take (q + 1))=(yB ⟨#[32]⟩ ((ws.drop k).take q)) ++ ((⟨#[32]⟩:ByteArray) ++ y):=by
 have h1:(ws.drop k)[q]?=some y:=by rw [List.getElem?_drop];exact h
 rw [yJ h1];have hk:k < ws.length:=by have:=(List.getElem?_eq_some_iff.1 h).1;omega
 obtain ⟨q',rfl⟩:∃ q',q=q' + 1:=⟨q - 1,by omega⟩
 rw [List.drop_eq_getElem_cons hk,List.take_succ_cons];rw [qO];apply ByteArray.ext;apply Array.ext';simp
theorem rK(L:List ByteArray):(yB ⟨#[32]⟩ L).size=(Lib.join (L.map (·.data.toList)) [32]).length:=by
 unfold yB;rw [<-zu]
theorem jw(L:List ByteArray)(q:Nat):(yB ⟨#[32]⟩ (L.take q)).size<=(yB ⟨#[32]⟩ L).size:=by
 rw [rK,rK];cases L with
 | nil=>simp
 | cons a r=>
   cases q with
   | zero=>simp [Lib.join_nil]
   | succ q=>
     rw [List.take_succ_cons,List.map_cons,List.map_cons,Lib.join_cons,Lib.join_cons,List.length_append,List.length_append,List.map_take];have:∀ (s:List UInt8) (M:List (List UInt8)) (q:Nat),(Lib.joinTail s (M.take q)).length<=(Lib.joinTail s M).length:=by
      intro s M
      induction M with
      | nil=>intro q;simp
      | cons m M ih=>
        intro q;cases q with
        | zero=>simp [Lib.joinTail]
        | succ q=>
          have:=ih q;simp only [Lib.joinTail,List.take_succ_cons,List.map_cons,List.flatten_cons,List.length_append] at this |-;omega
     have:=this [32] (r.map (·.data.toList)) q;omega
def uK(w0:World)(g:Nat)(d:Dk)(O:List ByteArray)(ws:List ByteArray)(l:List UInt8)(B A Ao:Option Addr)(n c no co:Nat)(w:World)(e:Ending)(w':World):Prop:=
 e=.returned (.bool (yQ ws l 1))/\w.heap.size<=w'.heap.size/\∃ (ns:List Int) (ts:List ByteArray) (An At:Option Addr) (kn cn kt ct:Nat),SR w0 w' g d O ns ts A Ao An At n c no co kn cn kt ct/\(yQ ws l 1=true->ns=wdN ws l 1/\ts=wdT ws l 1)/\Arr w' B (zd zt ws)
theorem wV(w0 w:World)(g:Nat)(d:Dk)(O:List ByteArray)(ns:List Int)(ts:List ByteArray)(A Ao An At:Option Addr)(n c no co kn cn kt ct:Nat)(h:SR w0 w g d O ns ts A Ao An At n c no co kn cn kt ct)(ws:List ByteArray)(B:Option Addr)(nw cw:Nat)(hws:Arr w B (zd zt ws))(hBg:Hid (∀ ad,B=some ad->ad.block≠g/\ad.block < w.heap.size))(hnw:Hid (ws.length=nw))(hn9:(nw:Int)<=1048577)(hwz:Hid (∀ y ∈ ws,y.size<=1048576))(hjz:Hid (∀ k,(yB ⟨#[32]⟩ (ws.drop k)).size<=1048576))(fm:ByteArray)(_hf4:fm.size<=4)(hfw:fm.size + 1<=nw) :
 Calls prog 98 #[.pointer (some ⟨g,0,none⟩),.slice B nw cw,.string fm] w (uK w0 g d O ws fm.data.toList B A Ao n c no co w):=by
 obtain ⟨i0,hi0,hz0,hz1,hz2⟩:=info_parts (P:=prog) (e:=9) (z:=.string ByteArray.empty) (size:=1) (bytes:=16) vL;obtain ⟨i1,hi1,hy0,hy1,hy2⟩:=info_parts (P:=prog) (e:=2) (z:=.int .i64 0) (size:=1) (bytes:=8) qL;have hgl:=h.blk.lt;obtain ⟨Wa,hWa⟩:=zN (w.alloc (Obj.cells #[] 2));obtain ⟨g1,hg1⟩:=zN w.heap.size;obtain ⟨Wb,hWb⟩:=zN (Wa.setCell ⟨g,16,none⟩ (.slice (some ⟨g1,0,none⟩) 0 0));obtain ⟨Wc,hWc⟩:=zN (Wb.alloc (Obj.cells #[] 9));obtain ⟨g2,hg2⟩:=zN Wb.heap.size;obtain ⟨Wd,hWd⟩:=zN (Wc.setCell ⟨g,17,none⟩ (.slice (some ⟨g2,0,none⟩) 0 0));have sa:Wa.heap.size=w.heap.size + 1:=by rw [hWa];exact World.size_alloc _ _
 have sb:Wb.heap.size=Wa.heap.size:=by rw [hWb];exact World.size_setCell _ _ _
 have sc:Wc.heap.size=Wb.heap.size + 1:=by rw [hWc];exact World.size_alloc _ _
 have sd:Wd.heap.size=Wc.heap.size:=by rw [hWd];exact World.size_setCell _ _ _
 have hba:Below w.heap.size w Wa:=by rw [hWa];exact zc (Below.refl _ _) _
 have hbc:Below Wb.heap.size Wb Wc:=by rw [hWc];exact zc (Below.refl _ _) _
 have hgb:Wa.grownBy Wb (some g):=by rw [hWb];exact xj Wa g 16 _
 have hgd:Wc.grownBy Wd (some g):=by rw [hWd];exact xj Wc g 17 _
 have hW2:Arr Wd B (zd zt ws):=(((hws.below hba).grown hgb (fun ad e e2=>by injection e2 with e2;exact (hBg.out ad e).1 e2)).below hbc).grown hgd (fun ad e e2=>by injection e2 with e2;exact (hBg.out ad e).1 e2);have mv:∀ {b E size m:Nat} {C:Option Addr} {q:Nat} {cs:List Value},w.ownsRow b E size (.slice C m q) m cs->(∀ ad,C=some ad->ad.block≠g)->Wd.ownsRow b E size (.slice C m q) m cs:=fun {b E size m C q cs} hb h1=>by
  have hne:some g≠(Value.slice C m q).ownBlock:=fun e=>by
   cases C with
   | none=>cases e
   | some ad=>injection e with e;exact h1 ad rfl e.symm
  exact (ze ((ze hb hba).kept hgb (.inr hne.symm)) hbc).kept hgd (.inr hne.symm)
 have hsw:SW w0 w Wd g d O [] [] A Ao (some ⟨g1,0,none⟩) (some ⟨g2,0,none⟩) n c no co 0 0 0 0:=by
  have o1:Wa.ownsRow w.heap.size 2 1 (.slice (some ⟨g1,0,none⟩) 0 0) 0 (zd zp []):=by rw [hWa,hg1];exact zI w w.heap.size 2 1 (Nat.le_refl _)
  have o2:Wc.ownsRow w.heap.size 9 1 (.slice (some ⟨g2,0,none⟩) 0 0) 0 (zd zt []):=by rw [hWc,hg2];exact zI Wb w.heap.size 9 1 (by omega)
  have n1:some g1≠some g:=fun e=>by injection e with e;omega
  have n2:some g2≠some g:=fun e=>by injection e with e;omega
  have o1':=(ze (o1.kept hgb (.inr n1)) hbc).kept hgd (.inr n1);have o2':=o2.kept hgd (.inr n2);have lt:∀ {C:Option Addr},(∀ ad,C=some ad->ad.block≠g/\ad.block < w.heap.size)->∀ ad,C=some ad->ad.block≠g/\ad.block < Wd.heap.size:=fun hC ad e=>⟨(hC ad e).1,by have:=(hC ad e).2;omega⟩
  have hblk:=((h.blk.below hba).set_ 16 (.slice (some ⟨g1,0,none⟩) 0 0))
  rw [<-hWb] at hblk;have hblk2:=((hblk.below hbc).set_ 17 (.slice (some ⟨g2,0,none⟩) 0 0))
  rw [<-hWd] at hblk2;have hbel:w0.grownBy Wd (some g):=by
   rw [hWd];refine zF ?_ (p:=⟨g,17,none⟩) (.inl rfl) _;refine xM (b:=Wb) ?_ hbc;rw [hWb];exact zF (xM h.bel hba) (p:=⟨g,16,none⟩) (.inl rfl) _
  exact ⟨⟨hblk2,h.hn,h.ho,rfl,rfl,mv h.own (fun ad e=>(h.ag ad e).1),mv h.out (fun ad e=>(h.og ad e).1),Arr.own o1',Arr.own o2',lt h.ag,lt h.og,fun ad e=>by injection e with e;subst e;exact ⟨fun e=>n1 (by rw [<-e]),by show g1 < _;omega⟩,fun ad e=>by injection e with e;subst e;exact ⟨fun e=>n2 (by rw [<-e]),by show g2 < _;omega⟩,h.ao,fun a o e1 e2=>by injection e1 with e1;subst e1;have:=(h.og o e2).2;show g1≠_;omega,fun a o e1 e2=>by injection e1 with e1;subst e1;have:=(h.og o e2).2;show g2≠_;omega,hbel,fun a b e1 e2=>by injection e2 with e2;subst e2;have:=(h.ag a e1).2;show _≠g1;omega,fun a b e1 e2=>by injection e2 with e2;subst e2;have:=(h.ag a e1).2;show _≠g2;omega⟩,o1',o2',fun a e=>(h.ag a e).2,fun a e=>(h.og a e).2,hgl,fun a b e1 e2=>by injection e1 with e1;injection e2 with e2;subst e1 e2;show g1≠g2;omega,h.bel.size,by omega⟩
 have q16:=nF (h.blk.below hba);have r16:Wa.frozen? ⟨g,16,none⟩=false:=(h.blk.below hba).frozen 16;have hblk:=((h.blk.below hba).set_ 16 (.slice (some ⟨g1,0,none⟩) 0 0))
 rw [<-hWb] at hblk;have q17:=uz (hblk.below hbc);have r17:Wc.frozen? ⟨g,17,none⟩=false:=(hblk.below hbc).frozen 17;have Q16:(w.alloc (Obj.cells #[] 2)).cell? ⟨g,16,none⟩=some (.slice An kn cn):=by rw [<-hWa];exact q16
 have R16:(w.alloc (Obj.cells #[] 2)).frozen? ⟨g,16,none⟩=false:=by rw [<-hWa];exact r16
 have Q17:(Wb.alloc (Obj.cells #[] 9)).cell? ⟨g,17,none⟩=some (.slice At kt ct):=by rw [<-hWc];exact q17
 have R17:(Wb.alloc (Obj.cells #[] 9)).frozen? ⟨g,17,none⟩=false:=by rw [<-hWc];exact r17
 have P16:=nF h.blk;have P17:=uz hblk;clear q16 r16 q17 r17;have HSW:=qH hsw;have HW2:=qH hW2;have EA:=qH hWa;have EB:=qH hWb;have EC:=qH hWc;have ED:=qH hWd;have E1:=qH hg1;have E2:=qH hg2;have hle4:Hid (∀ (k:Nat),k < nw->∃ y,ws[k]?=some y/\y.size<=1048576):=qH (fun k hk=>by
  obtain ⟨y,hy⟩:=zx (xs:=ws) (k:=k) (by rw [hnw.out];exact hk);exact ⟨y,hy,hwz.out y (List.mem_of_getElem? hy)⟩)
 obtain ⟨l,hl⟩:=zN fm.data.toList;rw [<-hl];have HLB:=qH (fun j (hj:j < fm.size)=>(show l[j]?=some fm[j] by rw [hl];exact xU hj));have HLZ:=qH (show l.length=fm.size by rw [hl];exact zu fm);clear hsw hW2 hWa hWb hWc hWd hg1 hg2 sa sb sc sd hba hbc hgb hgd mv hl h hws hblk hgl;go_in;go_upto_region 2 with fail;rw [<-EA.out,<-E1.out,<-EB.out];clear Q16 R16 P16;go_upto_region 3 with fail;rw [<-EC.out,<-E2.out,<-ED.out];clear Q17 R17 P17 EA E1 EB EC E2 ED;clear _hf4 hwz;go_wp2_with fail
 go_loopw [6,7] (fun rv iv wr=>∃ (j:Nat) (ns':List Int) (ts':List ByteArray) (An' At':Option Addr) (kn' cn' kt' ct':Nat),rv=.bool false/\j<=fm.size/\iv=.int .i64 j/\Hid (SW w0 w wr g d O ns' ts' A Ao An' At' n c no co kn' cn' kt' ct')/\Hid (Arr wr B (zd zt ws))/\Hid (wdT ws l 1=ts' ++ wdT ws (l.drop j) (1 + j))/\Hid (wdN ws l 1=ns' ++ wdN ws (l.drop j) (1 + j))/\Hid (yQ ws l 1=yQ ws (l.drop j) (1 + j))/\kn'<=j/\kt'<=j) (fun _ i _=>fm.size - (intOf i).toNat)
 case atStart=>exact ⟨0,[],[],some ⟨g1,0,none⟩,some ⟨g2,0,none⟩,0,0,0,0,rfl,by omega,rfl,HSW,HW2,qH (by rw [List.drop_zero];rfl),qH (by rw [List.drop_zero];rfl),qH (by rw [List.drop_zero]),by omega,by omega⟩
 case round=>
 clear HSW HW2;obtain ⟨j,ns',ts',An',At',kn',cn',kt',ct',rfl,hj,rfl,HSW,HWR,HT,HNU,HO,hkn,hkt⟩:=hrel;have hj0:(0:Int)<=(j:Int):=by omega
 by_cases hlt:j < fm.size
 case neg=>
  have hj1:¬ (j:Int) < (fm.size:Int):=by omega
  have hdn:l.drop j=[]:=List.drop_eq_nil_of_le (by rw [HLZ.out];omega);have HE1:=qH (show wdT ws l 1=ts' by rw [HT.out,hdn];simp [wdT]);have HE2:=qH (show wdN ws l 1=ns' by rw [HNU.out,hdn];simp [wdN]);have HE3:=qH (show yQ ws l 1=true by rw [HO.out,hdn];rfl);clear hdn HT HNU HO;go_wp2;go_returns;exact ⟨by rw [HE3.out];rfl,HSW.out.h2,ns',ts',An',At',kn',cn',kt',ct',HSW.out.sr,fun _=>⟨HE2.out.symm,HE1.out.symm⟩,HWR.out⟩
 have hj1:(j:Int) < (fm.size:Int):=by omega
 have hbj:=HLB.out j hlt;obtain ⟨k1,hk1⟩:=zN (j + 1);have hk1n':k1 < nw:=by omega
 obtain ⟨y,hy,hyz⟩:=hle4.out k1 hk1n';obtain ⟨bd,hbd,_,d0⟩:=zh HWR.out hy;subst hbd;have hnth:zf ws (1 + j)=y:=zcC (by rw [Nat.add_comm,<-hk1];exact hy);have HT2:=HT.out.trans (by rw [zdm hbj (1 + j),hnth]);have HN2:=HNU.out.trans (by rw [zdl hbj (1 + j),hnth]);have HO2:=HO.out.trans (by rw [zcT hbj (1 + j),hnth]);have hwk:IntKind.i64.wrap ((j:Int) + 1)=(k1:Int):=by
  have h:=IntWalk.i64_in ((j:Int) + 1) (by omega);omega
 have hk10:(0:Int)<=(k1:Int):=by omega
 have hk1n:(k1:Int) < (nw:Int):=by omega
 have HCW:=qH (fun (V:World) (h:Arr V (some bd) (zd zt ws))=>(show V.cell? (bd.add k1)=some (.string y) by
  obtain ⟨b2,e2,_,d2⟩:=zh h hy;injection e2 with e2;subst e2;exact d2))
 have HK1:=qH hk1;have HDR:=qH (show zf ws (1 + j)=y/\ws.drop (1 + j)=ws.drop k1 from ⟨hnth,by rw [Nat.add_comm,<-hk1]⟩);have e9:zd zt (ts' ++ [y])=zd zt ts' ++ [Value.string y]:=by simp [zd,zt]
 have E9:=qH e9;have hbdb:=(hBg.out bd rfl).2;have hbdg:=(hBg.out bd rfl).1;obtain ⟨ch,hch⟩:=zN (fm[j]);have hchn:(ch.toNat:Int)=(fm[j].toNat:Int):=by rw [hch]
 rw [<-hch] at HT2 HN2 HO2;clear hbj HT HNU HO hk1 hnth e9;by_cases hx:ch=120
 case pos=>
  rw [if_pos hx] at HT2 HN2 HO2;rw [Bool.true_and] at HO2;rw [List.nil_append] at HN2;have HT3:=qH (HT2.trans (List.append_assoc _ _ _).symm);have HN3:=qH HN2;have HO3:=qH HO2;have hc1:((fm[j].toNat:Int) == 120)=true:=by rw [<-hch,hx];rfl
  have HNG:=qH (show some g≠Option.map (fun x:Addr=>x.block) At' from fun e=>by
   cases At' with
   | none=>cases e
   | some ao=>injection e with e;exact (HSW.out.sr.tg ao rfl).1 e.symm)
  have HNB:=qH (show some bd.block≠Option.map (fun x:Addr=>x.block) At' from fun e=>by
   cases At' with
   | none=>cases e
   | some ao=>injection e with e;have h8:=tj HSW.out.town ao rfl;have h9:bd.block=ao.block:=e;omega)
  clear hx hchn hch HT2 HN2 HO2;go_upto_region 12 with fail;apply aW (P:=fun V (_:Nat) g7 c7=>SW w0 w V g d O ns' (ts' ++ [y]) A Ao An' (some ⟨g7,0,none⟩) n c no co kn' cn' (kt' + 1) c7/\Arr V (some bd) (zd zt ws))
  · intro key;have c9:World.cell? wr.drew ⟨g,17,none⟩=some (.slice At' kt' ct'):=HSW.out.sr.blk.cell 17;refine zH (fun w'=>World.cell? w' (bd.add k1)=some (.string y)) ?_ (fun hHeld=>?_)
    ·exact HCW.out _ (HWR.out.below (Below.refl _ _).drew)
    refine zU 0 52 ?_;refine zU 1 53 ?_;refine zU 2 54 ?_;refine zU 3 55 ?_;refine zU 5 57 ?_;refine zU 6 58 ?_;refine zU 7 59 ?_;refine zU 8 60 ?_;refine zU 9 61 ?_;refine wpAnyH_ready (rs:=[4,10]) (by as_aux_lemma=>kernel_rfl) (by simp) ?_;refine AllReadyH.cons (o:={ dst:=some 56,op:=_,type:=_,pos:=_,after:=_,guard:=_ }) rfl (fun K hK=>?_) (AllReadyH.cons (o:={ dst:=some 62,op:=_,type:=_,pos:=_,after:=_,guard:=_ }) rfl (fun K hK=>?_) AllReadyH.nil)
    · go_simp;go_split_ands
      skip
      refine zK hK (HCW.out _ (HWR.out.below (Below.refl _ _).drew)) (fun hHeld=>?_);clear hK K;refine zR 10 (some 62) rfl (fun K hK=>?_);go_simp;go_split_ands;obtain ⟨W5,hW5⟩:=zN (World.drew (World.alloc wr (Obj.cells #[.string y] 9)));obtain ⟨gb,hgb⟩:=zN wr.heap.size;have HXB:Hid (Arr W5 (some ⟨gb,0,none⟩) [Value.string y]):=qH (by rw [hW5,hgb];exact vY (Blk.new wr _ _));have hb9:Below wr.heap.size wr W5:=by rw [hW5];exact (zc (Below.refl _ _) _).drew
      have HSZ:=qH (HSW.out.below hb9);have HWZ:=qH (HWR.out.below hb9);rw [<-hW5,<-hgb];clear hW5 hgb hb9;refine zK hK (HCW.out _ HWZ.out) (fun hHeld=>?_);clear hK K;refine zR 11 (some 63) rfl (fun K hK=>?_)
      skip
      go_split_ands;refine rY W5 _ _ 24 9 rfl i0 _ 1 16 underlying24 hi0 hz0 hz1 hz2 rfl (by omega) w.heap.size At' kt' ct' _ rfl HSZ.out.town _ 1 1 _ (by omega) rfl HXB.out rfl (by simp [Value.oneCell']) (by unfold maxLen;omega) (by omega) HSZ.out.h2 ?_;intro g7 c7 w7 hown7 hg7 hfr7;have HB7:=HSZ.out.sr.blk.grown hg7 HNG.out;have HSN:=HSZ.out.txt (M:=[y]) (k:=1) rfl (by rw [E9.out];exact hown7) hg7 (hfr7.elim (fun e=>.inl e.symm) (fun e=>.inr ⟨g7,rfl,by omega⟩));have HW7:=HWZ.out.grown hg7 (fun a e=>Option.some.inj e ▸ HNB.out);have HWN:=HW7.grown (xj w7 g 17 (.slice (some ⟨g7,0,none⟩) (kt' + 1) c7)) (fun a e e2=>hbdg ((congrArg Addr.block (Option.some.inj e)).trans (Option.some.inj e2)));refine zK hK (HCW.out _ HW7) (fun hHeld=>?_);clear hK K;refine zU 12 64 ?_;refine zU 13 65 ?_;refine zR 14 none rfl (fun K hK=>?_);have c7':=uz HB7;have f7':w7.frozen? ⟨g,17,none⟩=false:=HB7.frozen 17;go_simp;go_split_ands;obtain ⟨V,hV⟩:=zN (World.setCell w7 ⟨g,17,none⟩ (.slice (some ⟨g7,0,none⟩) (kt' + 1) c7));rw [<-hV] at HSN HWN |-;clear hV;refine hK.out _ _ ?_ (fun hHeld=>?_)
      ·(try dsimp only);go_split_ands;exact HCW.out _ HWN
      clear hK K;(try simp only [Act.put]);refine zD ?_;clear hHeld;exact key.out V gb g7 c7 ⟨HSN,HWN⟩
    · go_simp;go_split_ands;obtain ⟨W5,hW5⟩:=zN (World.drew (World.alloc wr (Obj.cells #[.string y] 9)));obtain ⟨gb,hgb⟩:=zN wr.heap.size;have HXB:Hid (Arr W5 (some ⟨gb,0,none⟩) [Value.string y]):=qH (by rw [hW5,hgb];exact vY (Blk.new wr _ _));have hb9:Below wr.heap.size wr W5:=by rw [hW5];exact (zc (Below.refl _ _) _).drew
      have HSZ:=qH (HSW.out.below hb9);have HWZ:=qH (HWR.out.below hb9);rw [<-hW5,<-hgb];clear hW5 hgb hb9;refine zK hK (HCW.out _ HWZ.out) (fun hHeld=>?_);clear hK K;refine zR 4 (some 56) rfl (fun K hK=>?_);have c9:=uz HSZ.out.sr.blk;go_simp;go_split_ands
      skip
      refine zK hK (HCW.out _ HWZ.out) (fun hHeld=>?_);clear hK K;refine zR 11 (some 63) rfl (fun K hK=>?_)
      skip
      go_split_ands;refine rY W5 _ _ 24 9 rfl i0 _ 1 16 underlying24 hi0 hz0 hz1 hz2 rfl (by omega) w.heap.size At' kt' ct' _ rfl HSZ.out.town _ 1 1 _ (by omega) rfl HXB.out rfl (by simp [Value.oneCell']) (by unfold maxLen;omega) (by omega) HSZ.out.h2 ?_;intro g7 c7 w7 hown7 hg7 hfr7;have HB7:=HSZ.out.sr.blk.grown hg7 HNG.out;have HSN:=HSZ.out.txt (M:=[y]) (k:=1) rfl (by rw [E9.out];exact hown7) hg7 (hfr7.elim (fun e=>.inl e.symm) (fun e=>.inr ⟨g7,rfl,by omega⟩));have HW7:=HWZ.out.grown hg7 (fun a e=>Option.some.inj e ▸ HNB.out);have HWN:=HW7.grown (xj w7 g 17 (.slice (some ⟨g7,0,none⟩) (kt' + 1) c7)) (fun a e e2=>hbdg ((congrArg Addr.block (Option.some.inj e)).trans (Option.some.inj e2)));refine zK hK (HCW.out _ HW7) (fun hHeld=>?_);clear hK K;refine zU 12 64 ?_;refine zU 13 65 ?_;refine zR 14 none rfl (fun K hK=>?_);have c7':=uz HB7;have f7':w7.frozen? ⟨g,17,none⟩=false:=HB7.frozen 17;go_simp;go_split_ands;obtain ⟨V,hV⟩:=zN (World.setCell w7 ⟨g,17,none⟩ (.slice (some ⟨g7,0,none⟩) (kt' + 1) c7));rw [<-hV] at HSN HWN |-;clear hV;refine hK.out _ _ ?_ (fun hHeld=>?_)
      ·(try dsimp only);go_split_ands;exact HCW.out _ HWN
      clear hK K;(try simp only [Act.put]);refine zD ?_;clear hHeld;exact key.out V gb g7 c7 ⟨HSN,HWN⟩
  intro V gb g7 c7 hP;have HSN:=qH hP.1;have HWN:=qH hP.2;clear hP;go_wp2_with fail;exact ⟨⟨k1,ns',ts' ++ [y],An',some ⟨g7,0,none⟩,kn',cn',kt' + 1,c7,rfl,by have:=HK1.out;omega,by first | rfl | (have:=HK1.out;exact vi (by omega)),HSN,HWN,qH (by rw [HK1.out];exact HT3.out),qH (by rw [HK1.out];exact HN3.out),qH (by rw [HK1.out];exact HO3.out),by have:=HK1.out;omega,by have:=HK1.out;omega⟩,by have:=HK1.out;simp [intOf];omega⟩
 have hc1:((fm[j].toNat:Int) == 120)=false:=by
  rw [beq_eq_false_iff_ne,<-hch];intro h9;exact hx (UInt8.toNat_inj.1 (by have h8:(120:UInt8).toNat=120:=rfl;omega))
 rw [if_neg hx] at HT2 HN2 HO2;by_cases hr:ch=114
 case pos=>
  rw [if_pos hr] at HT2 HN2 HO2;rw [Bool.true_and] at HO2;rw [List.nil_append] at HN2;rw [HDR.out.2] at HT2;have HT3:=qH (HT2.trans (List.append_assoc _ _ _).symm);have HN3:=qH HN2;have HO3:=qH HO2;have hc2:((fm[j].toNat:Int) == 114)=true:=by rw [<-hch,hr];rfl
  obtain ⟨k2,hk2⟩:=zN (k1 + 1);have hwk2:IntKind.i64.wrap ((j:Int) + 2)=(k2:Int):=by
   have h:=IntWalk.i64_in ((j:Int) + 2) (by omega);have h2:=HK1.out;omega
  have HR0:=qH (show y=yB ⟨#[32]⟩ ((ws.drop k1).take (k2 - k1)) by
   have hdl:k1 < ws.length:=by rw [hnw.out];exact hk1n'
   rw [hk2,Nat.add_sub_cancel_left,List.drop_eq_getElem_cons hdl,List.take_succ_cons,List.take_zero,rL];rw [List.getElem?_eq_getElem hdl] at hy;injection hy with hy;exact hy.symm)
  clear hr hx hchn hch HT2 HN2 HO2 hy;go_wp2_with fail
  go_loopw [8,9] (fun rv kv wz=>∃ (q:Nat) (u:ByteArray),k2<=q/\q<=nw/\kv=.int .i64 q/\rv=.string u/\Hid (u=yB ⟨#[32]⟩ ((ws.drop k1).take (q - k1)))/\Below wr.heap.size wr wz) (fun _ k _=>nw - (intOf k).toNat)
  case atStart=>exact ⟨k2,y,Nat.le_refl _,by omega,(by first | rfl | exact vi (by have:=HK1.out;omega)),rfl,HR0,Below.refl _ _⟩
  case round=>
  clear HR0 d0;obtain ⟨q,u,hq2,hqn,rfl,rfl,HU,hb⟩:=hrel;have hq0:(0:Int)<=(q:Int):=by omega
  have huz:=Nat.le_trans (jw (ws.drop k1) (q - k1)) (hjz.out k1);rw [<-HU.out] at huz;by_cases hql:q < nw
  case pos=>
   have hq1:(q:Int) < (nw:Int):=by omega
   obtain ⟨z,hz,hzz⟩:=hle4.out q hql;obtain ⟨b2,e2,_,dz⟩:=zh (HWR.out.below hb) hz;injection e2 with e2;subst e2;have l1:(⟨#[32]⟩:ByteArray).size=1:=rfl;have s1:((⟨#[32]⟩:ByteArray) ++ z).size=z.size + 1:=by rw [zv];omega
   have a0:=fun (w:World)=>run_string_add_sum (P:=prog) w ⟨#[32]⟩ z (by omega);have HU2:=qH (show u ++ ((⟨#[32]⟩:ByteArray) ++ z)=yB ⟨#[32]⟩ ((ws.drop k1).take (q + 1 - k1)) by
    have h9:=bN (ws:=ws) (k:=k1) (q:=q - k1) (y:=z) (by rw [show k1 + (q - k1)=q by omega];exact hz) (by omega);rw [show q + 1 - k1=q - k1 + 1 by omega,h9,HU.out])
   obtain ⟨zz,hzz2⟩:=zN ((⟨#[32]⟩:ByteArray) ++ z);rw [<-hzz2] at a0 s1 HU2;have a1:=fun (w:World)=>run_string_add_sum (P:=prog) w u zz (by omega);clear hz hzz2;go_wp2_with fail;exact ⟨⟨q + 1,u ++ zz,by omega,by omega,by go_num,rfl,HU2,hb⟩,by simp [intOf];omega⟩
  have hq1:¬ (q:Int) < (nw:Int):=by omega
  have HU3:=qH (show u=yB ⟨#[32]⟩ (ws.drop k1) by rw [HU.out,List.take_of_length_le (by rw [List.length_drop,hnw.out];omega)]);have HSZ:=qH (HSW.out.below hb);have HWZ:=qH (HWR.out.below hb);have e8:zd zt (ts' ++ [u])=zd zt ts' ++ [Value.string u]:=by simp [zd,zt]
  have E8:=qH e8;rw [<-HU3.out] at HT3;obtain ⟨V0,hV0⟩:=zN wr;clear e8 HSW HWR HU huz hV0;have c17:=uz HSZ.out.sr.blk;go_wp2_with (at_builtin;refine yu wr #[.string u] rfl _ _ 24 9 rfl i0 _ 1 16 underlying24 hi0 hz0 hz1 hz2 rfl (by omega) w.heap.size At' kt' ct' _ rfl _ rfl rfl HSZ.out.town rfl (by simp [Value.oneCell']) (by unfold maxLen;omega) (by omega) HSZ.out.h2 ?_;intro g7 c7 w7 hown7 hg7 hfr7;have HB7:=HSZ.out.sr.blk.grown hg7 (fun e=>by cases At' with | none=>cases e | some ao=>injection e with e;exact (HSZ.out.sr.tg ao rfl).1 e.symm);have c7':=uz HB7;have f7':w7.frozen? ⟨g,17,none⟩=false:=HB7.frozen 17;have HSN:=qH (HSZ.out.txt (M:=[u]) (k:=1) rfl (by rw [E8.out];exact hown7) hg7 (hfr7.elim (fun e=>.inl e.symm) (fun e=>.inr ⟨g7,rfl,e⟩)));have HWN:=qH ((HWZ.out.grown hg7 (fun a e e2=>by injection e with e;subst e;cases At' with | none=>cases e2 | some ao=>injection e2 with e2;have h8:=tj HSZ.out.town ao rfl;have h9:bd.block=ao.block:=e2;omega)).grown (xj w7 g 17 (.slice (some ⟨g7,0,none⟩) (kt' + 1) c7)) (fun a e e2=>by injection e with e;subst e;injection e2 with e2;exact hbdg e2)))
  exact ⟨⟨k1,ns',ts' ++ [u],An',some ⟨g7,0,none⟩,kn',cn',kt' + 1,c7,rfl,by have:=HK1.out;omega,by first | rfl | (have:=HK1.out;exact vi (by omega)),HSN,HWN,qH (by rw [HK1.out];exact HT3.out),qH (by rw [HK1.out];exact HN3.out),qH (by rw [HK1.out];exact HO3.out),by have:=HK1.out;omega,by have:=HK1.out;omega⟩,by have:=HK1.out;simp [intOf];omega⟩
 have hc2:((fm[j].toNat:Int) == 114)=false:=by
  rw [beq_eq_false_iff_ne,<-hch];intro h9;exact hr (UInt8.toNat_inj.1 (by have h8:(114:UInt8).toNat=114:=rfl;omega))
 rw [if_neg hr] at HT2 HN2 HO2;rw [List.nil_append] at HT2;have HNM:=fun w=>xm y (by omega) w;change ∀ w,Calls prog 156 #[.string y] w (RetT #[.int .i64 (zq y),.bool (okB y)] w) at HNM;obtain ⟨nv,hnv⟩:=zN (zq y);obtain ⟨b9,hb9⟩:=zN (okB y);rw [<-hnv,<-hb9] at HNM;rw [<-hnv] at HN2;rw [<-hb9] at HO2;replace HNM:=qH HNM;have HT3:=qH HT2;have HN3:=qH (HN2.trans (List.append_assoc _ _ _).symm);have HO4:=qH HO2;clear hr hx hchn hch HT2 HN2 HO2 hnv hb9 hy;go_wp2_with fail;refine qS (HNM.out _) fun W5 hb=>?_;have HSZ:=qH (HSW.out.below hb);have HWZ:=qH (HWR.out.below hb);clear hb d0 HNM;cases b9
 ·have HO5:=qH (HO4.out.trans (Bool.false_and _));clear HSW HWR;go_wp2;go_returns;exact ⟨by rw [HO5.out];rfl,HSZ.out.h2,ns',ts',An',At',kn',cn',kt',ct',HSZ.out.sr,(fun h9=>by rw [HO5.out] at h9;cases h9),HWZ.out⟩
 have HO3:=qH (HO4.out.trans (Bool.true_and _));have e8:zd zp (ns' ++ [nv])=zd zp ns' ++ [Value.int .i64 nv]:=by simp [zd,zp]
 have E8:=qH e8;clear e8 HSW HWR;have c16:=nF HSZ.out.sr.blk;go_wp2_with (at_builtin;refine yu W5 #[.int .i64 nv] rfl _ _ 58 2 rfl i1 _ 1 8 underlying58 hi1 hy0 hy1 hy2 rfl (by omega) w.heap.size An' kn' cn' _ rfl _ rfl rfl HSZ.out.nown rfl (by simp [Value.oneCell']) (by unfold maxLen;omega) (by omega) HSZ.out.h2 ?_;intro g7 c7 w7 hown7 hg7 hfr7;have HB7:=HSZ.out.sr.blk.grown hg7 (fun e=>by cases An' with | none=>cases e | some ao=>injection e with e;exact (HSZ.out.sr.ng ao rfl).1 e.symm);have c7':=nF HB7;have f7':w7.frozen? ⟨g,16,none⟩=false:=HB7.frozen 16;have HSN:=qH (HSZ.out.num (M:=[nv]) (k:=1) rfl (by rw [E8.out];exact hown7) hg7 (hfr7.elim (fun e=>.inl e.symm) (fun e=>.inr ⟨g7,rfl,e⟩)));have HWN:=qH ((HWZ.out.grown hg7 (fun a e e2=>by injection e with e;subst e;cases An' with | none=>cases e2 | some ao=>injection e2 with e2;have h8:=tj HSZ.out.nown ao rfl;have h9:bd.block=ao.block:=e2;omega)).grown (xj w7 g 16 (.slice (some ⟨g7,0,none⟩) (kn' + 1) c7)) (fun a e e2=>by injection e with e;subst e;injection e2 with e2;exact hbdg e2)))
 exact ⟨⟨k1,ns' ++ [nv],ts',some ⟨g7,0,none⟩,At',kn' + 1,c7,kt',ct',rfl,by have:=HK1.out;omega,by first | rfl | (have:=HK1.out;exact vi (by omega)),HSN,HWN,qH (by rw [HK1.out];exact HT3.out),qH (by rw [HK1.out];exact HN3.out),qH (by rw [HK1.out];exact HO3.out),by have:=HK1.out;omega,by have:=HK1.out;omega⟩,by have:=HK1.out;simp [intOf];omega⟩
end Go.Proofs.YtpiehlfffjhoaaaGreatDoor
