/- Lemmas for the law on the console: the parts CrC,CrD,CrE. -/
import Derived.Test.YtpiehlfffjhoaaaGreatDoorQ35
import Derived.Deep.Upon
namespace Go.Proofs.YtpiehlfffjhoaaaGreatDoor
open Go.RowKit Go.Proofs.Tryz
set_option maxRecDepth 100000
set_option maxHeartbeats 4000000
theorem SR.put{w0 w w7:World}{g:Nat}{d:Dk}{O L:List ByteArray}{ns:List Int}{ts:List ByteArray}{A Ao An At A7:Option Addr}{n c no co kn cn kt ct k c7:Nat}(hh:SR w0 w g d O ns ts A Ao An At n c no co kn cn kt ct)(hk:L.length=k)(hown7:w7.ownsRow w0.heap.size 9 1 (.slice A7 (no + k) c7) (no + k) (zd zt (O ++ L)))(hg7:w.grownBy w7 (Ao.map (·.block)))(hfr7:A7=Ao\/∃ g7,A7=some ⟨g7,0,none⟩/\w.heap.size<=g7) :
 SR w0 (w7.setCell ⟨g,15,none⟩ (.slice A7 (no + k) c7)) g d (O ++ L) ns ts A A7 An At n c (no + k) c7 kn cn kt ct:=by
 have hs7:=hg7.size;have hgl:=hh.blk.lt;have hfr:∀ p:Nat,p < w.heap.size->(∀ ao,Ao=some ao->p≠ao.block)->∀ a7,A7=some a7->p≠a7.block:=fun p h1 h2 a7 e=>by
  rcases hfr7 with e7 | ⟨g7,e7,h7⟩
  ·exact h2 _ (e7 ▸ e)
  ·rw [e7] at e;injection e with e;subst e;dsimp only;omega
 have hrow:∀ p:Nat,(∀ ao,Ao=some ao->p≠ao.block)->some p≠Option.map (·.block) Ao:=fun p h1 e=>by
  cases Ao with
  | none=>cases e
  | some ao=>injection e with e;exact h1 ao rfl e
 have hgo:∀ ao,Ao=some ao->g≠ao.block:=fun ao e e2=>(hh.og ao e).1 e2.symm;have hsz:(w7.setCell ⟨g,15,none⟩ (.slice A7 (no + k) c7)).heap.size=w7.heap.size:=World.size_setCell _ _ _;have hB7:=hh.blk.grown hg7 (hrow g hgo);have kept:∀ {E size m:Nat} {B:Option Addr} {q:Nat} {cs:List Value},w.ownsRow w0.heap.size E size (.slice B m q) m cs->(∀ ad,B=some ad->ad.block≠g)->(∀ a o,B=some a->Ao=some o->a.block≠o.block)->(w7.setCell ⟨g,15,none⟩ (.slice A7 (no + k) c7)).ownsRow w0.heap.size E size (.slice B m q) m cs:=fun {E size m B q cs} hb h1 h2=>by
  refine yy (hb.kept hg7 ?_) (p:=⟨g,15,none⟩) (fun p e=>?_) _
  · cases B with
    | none=>exact .inl rfl
    | some ad=>exact .inr (hrow _ (fun ao e=>h2 ad ao rfl e))
  · cases B with
    | none=>cases e
    | some ad=>injection e with e;subst e;exact h1 ad rfl
 have keptA:∀ {B:Option Addr} {cs:List Value},Arr w B cs->(∀ ad,B=some ad->ad.block≠g)->(∀ a o,B=some a->Ao=some o->a.block≠o.block)->Arr (w7.setCell ⟨g,15,none⟩ (.slice A7 (no + k) c7)) B cs:=fun {B cs} hb h1 h2=>
  (hb.grown hg7 (fun ad e=>hrow _ (fun ao e2=>h2 ad ao e e2))).grown (xj w7 g 15 _) (fun ad e e2=>by injection e2 with e2;exact h1 ad e e2)
 have h7g:∀ a7,A7=some a7->a7.block≠g:=fun a7 e e2=>hfr g hgl hgo a7 e e2.symm;refine ⟨hB7.set_ 15 _,hh.hn,by rw [List.length_append,hh.ho,hk],hh.hk,hh.ht,kept hh.own (fun ad e=>(hh.ag ad e).1) hh.ao,yy hown7 (p:=⟨g,15,none⟩) (fun p e=>?_) _,keptA hh.nums (fun ad e=>(hh.ng ad e).1) hh.no_,keptA hh.texts (fun ad e=>(hh.tg ad e).1) hh.to_,fun ad e=>⟨(hh.ag ad e).1,by rw [hsz];have:=(hh.ag ad e).2;omega⟩,fun ad e=>⟨h7g ad e,by rw [hsz];exact yr hown7 _ (qf hown7 ad e)⟩,
  fun ad e=>⟨(hh.ng ad e).1,by rw [hsz];have:=(hh.ng ad e).2;omega⟩,fun ad e=>⟨(hh.tg ad e).1,by rw [hsz];have:=(hh.tg ad e).2;omega⟩,fun a o e1 e2=>hfr _ (hh.ag a e1).2 (fun ao e=>hh.ao a ao e1 e) o e2,fun a o e1 e2=>hfr _ (hh.ng a e1).2 (fun ao e=>hh.no_ a ao e1 e) o e2,fun a o e1 e2=>hfr _ (hh.tg a e1).2 (fun ao e=>hh.to_ a ao e1 e) o e2,?_,hh.an_,hh.at_⟩
 · cases A7 with
   | none=>cases e
   | some a7=>injection e with e;subst e;exact h7g a7 rfl
 · exact zF (tv hh.bel hg7 (fun p e=>by
    cases Ao with
    | none=>cases e
    | some ao=>injection e with e;rw [<-e];exact zn hh.out _ rfl)) (p:=⟨g,15,none⟩) (.inl rfl) _
theorem zai{P:Program}{ops:Array Oper}{rest:List Oper}{o:Oper}{a:Act}{Q:Exit->Act->World->Prop}(w:World)(hgd:o.guard=none)(s x:Operand)(t e:TypeId)(ho:o.op=.call { callee:=.builtin .append,args:=#[s,x],argTypes:=#[t,t] })(i:TypeInfo)(z:Value)(bytes:Nat)(ht:P.underlying t=some (.slice e))(hi:P.info? e=some i)(hz:i.zero=some z)(hsize:i.size=1)(hby:i.bytes=bytes)(hzs:z.cells.size=1)(base:Nat)(A:Option Addr)(n cp:Nat)(cs:List Value)(hs:a.eval s=.slice A n cp)(hown:w.ownsRow base e 1 (.slice A n cp) n cs)(B:Option Addr)(m c:Nat)(L:List ByteArray)(hx:a.eval x=.slice B m c)(hA:Arr w B (zd zt L))(hl:L.length=m)(h63:n + m<=maxLen)(hbytes:(n + m) * bytes<=140737488355328)(hbase:base<=w.heap.size)(h:∀ A7 c7 w7,w7.ownsRow base e 1 (.slice A7 (n + m) c7) (n + m) (cs ++ zd zt L)->w.grownBy w7 (A.map (·.block))->(A7=A\/∃ g7,A7=some ⟨g7,0,none⟩/\w.heap.size<=g7)->wpList P ops Q rest (a.put o.dst (.slice A7 (n + m) c7)) w7) :
 wpList P ops Q (o :: rest) a w:=by
 have hlf:(zd zt L).length=m * 1:=by rw [xo,List.length_map,hl];omega
 by_cases hm:0 < m
 · obtain ⟨ad,hB,_,_⟩:=hA.at_ (j:=0) (by omega);subst hB;refine lc w hgd s x t e ho i z 1 bytes ht hi hz hsize hby hzs (by omega) base A n cp cs hs hown ad m c (zd zt L) hm hx hA hlf (dQ L) h63 hbytes hbase ?_;intro g c' w' h2 h3 h4;refine h _ _ _ h2 h3 ?_;rcases h4 with h4 | h4
   ·exact .inl h4.symm
   ·exact .inr ⟨g,rfl,by omega⟩
 · obtain rfl:m=0:=by omega
   obtain rfl:L=[]:=List.eq_nil_of_length_eq_zero hl;have hnc:n<=cp:=by obtain ⟨_,_,e1,h1,_⟩:=wc hown;injection e1 with _ _ e3;omega
   have hsrc:Go.Src P i.size t (.slice B 0 c) 0 [] w:=by
    cases B with
    | none=>exact Go.Src.ofNil w ht c
    | some ad=>exact Go.Src.ofSlice w ht ad 0 c [] (by simp) (fun j u hu=>by cases hu) (fun u hu=>by cases hu)
   have hr:=run_append_nothing (P:=P) w t t o.type e i ht hi A n cp hnc (.slice B 0 c) hsrc;refine wpList_plain hgd fun K hK=>?_;unfold Oper.wp execOp;simp only [ho,resolve,invoke,builtin,Sem.run_bind,Sem.run_pure,Result.andThen_ok,List.map_toArray,List.map_cons,List.map_nil,hs,hx,hr];exact hK _ _ (h A cp w (by rw [show zd zt ([]:List ByteArray)=[] from rfl,List.append_nil];exact hown) (World.grownBy.refl w _) (.inl rfl))
theorem ah(w0 w:World)(g:Nat)(d:Dk)(O L:List ByteArray)(ns:List Int)(ts:List ByteArray)(A Ao An At B:Option Addr)(n c no co kn cn kt ct m cb:Nat)(h:SR w0 w g d O ns ts A Ao An At n c no co kn cn kt ct)(hno:no<=900000)(hL:Hid (L.length=m))(hm:m<=10000)(hB:Arr w B (zd zt L)) :
 Calls prog 173 #[.pointer (some ⟨g,0,none⟩),.slice B m cb] w (vl w0 g d (O ++ L ++ [okW m]) ns ts w (.tuple #[])):=by
 obtain ⟨i0,hi0,hz0,hz1,hz2⟩:=info_parts (P:=prog) (e:=9) (z:=.string ByteArray.empty) (size:=1) (bytes:=16) vL;have HR:=qH h.out;have HBK:=qH h.blk;have hbw:=h.bel.size;have H:=qH h;have HB:=qH hB;have c15:=gj h.blk;have HDC:=qH (fun w=>xh (m:Int) (by omega) (by omega) w);have dz:=xg (v:=(m:Int)) (by omega) (by omega);have l3:(⟨#[111,107,32]⟩:ByteArray).size=3:=rfl;have HEW:okW m=(⟨#[111,107,32]⟩:ByteArray) ++ zm m:=rfl;obtain ⟨dm,hdm⟩:=zN (zm (m:Int));rw [<-hdm] at HDC dz HEW;have a0:=fun (w:World)=>run_string_add_sum (P:=prog) w ⟨#[111,107,32]⟩ dm (by omega);rw [<-HEW] at a0;obtain ⟨tE,htE⟩:=zN (okW m);rw [<-htE] at a0;rw [<-htE];clear h hB hdm dz HEW htE;go_in;go_upto_region 1 with (at_builtin;refine zai w rfl _ _ 24 9 rfl i0 _ 16 underlying24 hi0 hz0 hz1 hz2 rfl w0.heap.size Ao no co _ rfl HR.out B m cb L rfl HB.out hL.out (by unfold maxLen;omega) (by omega) hbw ?_;intro A7 c7 w7 hown7 hg7 hfr7;have hBK7:=HBK.out.grown hg7 (fun e=>by cases Ao with | none=>cases e | some ao=>injection e with e;exact (H.out.og ao rfl).1 e.symm);have c15':=gj hBK7;have f15:w7.frozen? ⟨g,15,none⟩=false:=hBK7.frozen 15)
 have e9:zd zt (O ++ L)=zd zt O ++ zd zt L:=zY _ _ _;rw [<-e9] at hown7;have HS:=qH (H.out.put hL.out hown7 hg7 hfr7);have hz7:=hg7.size;obtain ⟨W8,hW8⟩:=zN (w7.setCell ⟨g,15,none⟩ (.slice A7 (no + m) c7));have hz8:W8.heap.size=w7.heap.size:=by rw [hW8];exact World.size_setCell _ _ _
 rw [<-hW8] at HS |-;clear hW8 f15 c15' c15 hBK7 hown7 hg7 hfr7 e9 H HR HBK HB;have HZ8:=qH hz8;clear hz8;go_wp2_with fail;refine qS (HDC.out _) fun W9 hb=>?_;have HS9:=qH (sZ w0 W9 g d (O ++ L) ns ts A A7 An At n c (no + m) c7 kn cn kt ct (HS.out.below hb) (by omega) tE);have hz9:=hb.size;clear hb HS;go_wp2_with fail;refine HS9.out.mono ?_;rintro e W10 ⟨rfl,hz,hr⟩;have HRR:=qH hr;have hzz:=HZ8.out;clear hr HS9;go_wp2;go_returns;exact ⟨rfl,by omega,HRR.out⟩
theorem rL(sep x:ByteArray):yB sep [x]=x:=by
 apply ByteArray.ext;apply Array.ext';unfold yB;simp [Lib.join_one]
theorem qO(sep y x:ByteArray)(L:List ByteArray):yB sep (y :: L ++ [x])=(yB sep (y :: L) ++ sep) ++ x:=by
 apply ByteArray.ext;apply Array.ext';unfold yB;simp only [List.cons_append,List.map_cons,List.map_append,List.map_nil,Lib.join_cons,Lib.joinTail,rE,List.flatten_append,List.flatten_cons,List.flatten_nil];simp
def sI(ps:List Int)(k:Nat):ByteArray:=yB ⟨#[32]⟩ (xL (ps.take k))
theorem zbt{ps:List Int}{v:Int}(h:ps[0]?=some v):sI ps 1=zm v:=by
 cases ps with
 | nil=>cases h
 | cons a r=>injection h with h;subst h;exact rL _ _
theorem aB{ps:List Int}{v:Int}{k:Nat}(h:ps[k]?=some v)(h0:0 < k):sI ps (k + 1)=(sI ps k ++ ⟨#[32]⟩) ++ zm v:=by
 unfold sI xL;rw [List.take_add_one,h,List.map_append];cases ps with
 | nil=>simp at h
 | cons a r=>
   obtain ⟨j,rfl⟩:∃ j,k=j + 1:=⟨k - 1,by omega⟩
   rw [List.take_succ_cons,List.map_cons];exact qO _ _ _ _
theorem aA{ps:List Int}(k:Nat)(hb:∀ v ∈ ps,-1000000000<=v/\v<=1000000000):(sI ps k).size<=25 * k:=by
 have h:=qN ⟨#[32]⟩ (by decide) (xL (ps.take k)) (fun y hy=>by
  unfold xL at hy;obtain ⟨v,hv,rfl⟩:=List.mem_map.1 hy;have:=hb v (List.mem_of_mem_take hv);exact xg (by omega) (by omega))
 have e:(sI ps k).size=(Lib.join ((xL (ps.take k)).map (·.data.toList)) [32]).length:=by
  rw [<-zu];unfold sI yB;simp
 have hl:(xL (ps.take k)).length<=k:=by unfold xL;rw [List.length_map,List.length_take];omega
 have h2:25 * (xL (ps.take k)).length<=25 * k:=Nat.mul_le_mul_left _ hl;rw [e];exact Nat.le_trans h h2
theorem aC(w0 w:World)(g:Nat)(d:Dk)(O:List ByteArray)(ns:List Int)(ts:List ByteArray)(A Ao An At B:Option Addr)(n c no co kn cn kt ct m cb:Nat)(ps:List Int)(h:SR w0 w g d O ns ts A Ao An At n c no co kn cn kt ct)(hno:no<=900000)(hp:Hid (ps.length=m))(hm:m<=1000)(hb:Hid (∀ k ∈ ps,-1000000000<=k/\k<=1000000000))(hB:Arr w B (zd zp ps)) :
 Calls prog 175 #[.pointer (some ⟨g,0,none⟩),.slice B m cb] w (OutSY w0 g d (O ++ [uj ps]) ns ts A An At n c kn cn kt ct w (.tuple #[])):=by
 have H:=qH h;have HBB:=qH hB;clear h hB;go_in;go_wp2_with fail
 go_loopw [4,5] (fun v i wr=>∃ (j:Nat),i=.int .i64 j/\v=.string (sI ps j)/\j<=m/\Below w.heap.size w wr) (fun _ i _=>m - (intOf i).toNat)
 case atStart=>exact ⟨0,rfl,rfl,by omega,Below.refl _ _⟩
 case round=>
  obtain ⟨j,rfl,rfl,hj,hv⟩:=hrel;have hi0:(0:Int)<=(j:Int):=by omega
  by_cases hlt:j < m
  · obtain ⟨k,hkj⟩:=zx (xs:=ps) (k:=j) (by rw [hp.out];exact hlt);obtain ⟨bd,hbd,hbb,d0⟩:=yn (HBB.out.below hv) hkj;subst hbd;obtain ⟨hk0,hk1⟩:=hb.out k (List.mem_of_getElem? hkj);have HDC:=fun w=>xh k (by omega) (by omega) w;have dz:=xg (v:=k) (by omega) (by omega);have hsz:=aA (ps:=ps) j hb.out;have HK1:=qH (fun (e:j=0)=>zbt (ps:=ps) (v:=k) (by rw [<-e];exact hkj));have HK2:=qH (aB hkj);obtain ⟨t,ht⟩:=zN (zm k);rw [<-ht] at HDC dz HK1 HK2;replace HDC:=qH HDC;have hi1:(j:Int) < (m:Int):=by omega
    clear hkj ht;by_cases hj0:j=0
    · have e0:sI ps j=⟨#[]⟩:=by rw [hj0];rfl
      rw [e0];have hi2:¬ (0:Int) < (j:Int):=by omega
      have a0:=fun (w:World)=>run_string_add_sum (P:=prog) w ⟨#[]⟩ t (by have:(⟨#[]⟩:ByteArray).size=0:=rfl;omega);have e1:(⟨#[]⟩:ByteArray) ++ t=t:=by apply ByteArray.ext;simp
      rw [e1] at a0;have e2:=HK1.out hj0;rw [show (1:Nat)=j + 1 by omega] at e2;clear hj0 e0;go_wp2_with fail;refine qS (HDC.out _) fun W2 hb9=>?_;replace hv:=za hv hb9;clear hb9 HDC d0;go_wp2_with fail;exact ⟨⟨j + 1,by go_num,by rw [e2],by omega,hv⟩,by simp [intOf];omega⟩
    · have e2:=HK2.out (by omega);have hi2:(0:Int) < (j:Int):=by omega
      obtain ⟨T,hT⟩:=zN (sI ps j);rw [<-hT] at e2 hsz |-;have l1:(⟨#[32]⟩:ByteArray).size=1:=rfl;have a0:=fun (w:World)=>run_string_add_sum (P:=prog) w T ⟨#[32]⟩ (by omega);have s1:(T ++ (⟨#[32]⟩:ByteArray)).size=T.size + 1:=ByteArray.size_append;obtain ⟨T1,hT1⟩:=zN (T ++ (⟨#[32]⟩:ByteArray));rw [<-hT1] at a0 e2 s1;have a1:=fun (w:World)=>run_string_add_sum (P:=prog) w T1 t (by omega);clear hT hT1;go_wp2_with fail;refine qS (HDC.out _) fun W2 hb9=>?_;replace hv:=za hv hb9;clear hb9 HDC d0;go_wp2_with fail;exact ⟨⟨j + 1,by go_num,by rw [e2],by omega,hv⟩,by simp [intOf];omega⟩
  · have hjm:j=m:=by omega
    subst hjm;have hi1:¬ (j:Int) < (j:Int):=by omega
    have hR:sI ps j=uj ps:=by unfold sI uj;rw [List.take_of_length_le (by rw [hp.out];exact Nat.le_refl _)]
    rw [hR];have HS:=qH (aE w0 wr g d O ns ts A Ao An At n c no co kn cn kt ct (H.out.below hv) (by omega) (uj ps));have hz:=hv.size;go_wp2_with fail;refine HS.out.mono ?_;rintro e W3 ⟨rfl,hz3,hr⟩;go_wp2;go_returns;exact ⟨rfl,by omega,hr⟩
theorem zdQ(w0 w:World)(g:Nat)(d:Dk)(O:List ByteArray)(ns:List Int)(ts:List ByteArray)(A Ao An At B:Option Addr)(n c no co kn cn kt ct m cb:Nat)(ps:List Int)(h:SR w0 w g d O ns ts A Ao An At n c no co kn cn kt ct)(hno:no<=900000)(hp:Hid (ps.length=m))(hm:m<=1000)(hb:Hid (∀ k ∈ ps,-1000000000<=k/\k<=1000000000))(hB:Arr w B (zd zp ps)) :
 Calls prog 175 #[.pointer (some ⟨g,0,none⟩),.slice B m cb] w (vl w0 g d (O ++ [uj ps]) ns ts w (.tuple #[])):=
 (aC w0 w g d O ns ts A Ao An At B n c no co kn cn kt ct m cb ps h hno hp hm hb hB).mono OutSY.any
theorem SR.mid{w0 w:World}{g:Nat}{d e:Dk}{O:List ByteArray}{ns:List Int}{ts:List ByteArray}{A Ao An At:Option Addr}{n c no co kn cn kt ct:Nat}(h:SR w0 w g d O ns ts A Ao An At n c no co kn cn kt ct)(o:Nat)(vs:List Value)(hx:e.xs=d.xs)(hb:Blk (w.setCells g o vs) g 73 (#[Value.int .i64 e.f.length,Value.int .i64 e.f.b,Value.int .i64 e.f.i,Value.int .i64 e.f.h,Value.slice A n c,Value.string e.s.u,Value.string e.s.c,Value.string e.s.l,Value.string e.s.s,Value.int .i64 e.s.t,Value.int .i64 e.s.h,Value.int .i64 e.s.e,Value.int .i64 e.s.d,Value.bool e.s.q,Value.string e.lg,Value.slice Ao no co,Value.slice An kn cn,Value.slice At kt ct])):SR w0 (w.setCells g o vs) g e O ns ts A Ao An At n c no co kn cn kt ct:=by
 have hg:=xw g vs o w;have hs:=hg.size;have hk:∀ {B:Option Addr} {m k:Nat},(∀ ad,B=some ad->ad.block≠g/\ad.block < w.heap.size)->∀ q,(Value.slice B m k).ownBlock=some q->q≠g:=fun {B m k} hB q hq=>by
  cases B with
  | none=>cases hq
  | some ad=>injection hq with hq;subst hq;exact (hB ad rfl).1
 have ha:∀ {B:Option Addr},(∀ ad,B=some ad->ad.block≠g/\ad.block < w.heap.size)->∀ ad,B=some ad->ad.block≠g/\ad.block < (w.setCells g o vs).heap.size:=fun hB ad e=>⟨(hB ad e).1,by have:=(hB ad e).2;omega⟩
 exact ⟨hb,by rw [hx];exact h.hn,h.ho,h.hk,h.ht,by rw [hx];exact sw h.own (hk h.ag) o vs,sw h.out (hk h.og) o vs,h.nums.grown hg (fun ad e1 e2=>by injection e2 with e2;exact (h.ng ad e1).1 e2),h.texts.grown hg (fun ad e1 e2=>by injection e2 with e2;exact (h.tg ad e1).1 e2),ha h.ag,ha h.og,ha h.ng,ha h.tg,h.ao,h.no_,h.to_,vw h.bel hg,h.an_,h.at_⟩
def wS(r:xD):List ByteArray:=if r.2.2=0 then r.2.1 else [wZ r.2.2]
theorem zb3(w0 w:World)(g:Nat)(d:Dk)(O:List ByteArray)(ns:List Int)(ts:List ByteArray)(A Ao An At:Option Addr)(n c no co kn cn kt ct:Nat)(t:ByteArray)(h:SR w0 w g d O ns ts A Ao An At n c no co kn cn kt ct)(hno:no<=900000)(ht:ts[0]?=some t)(htz:t.size<=4194304) :
 Calls prog 103 #[.pointer (some ⟨g,0,none⟩)] w (vl w0 g (vj d t).1 (O ++ wS (vj d t)) ns ts w (.tuple #[])):=by
 obtain ⟨ad,hAt,hcol,d0⟩:=zh h.texts ht;subst hAt;have d1:w.cell? ad=some (.string t):=by rw [<-show ad.add 0=ad from by unfold Addr.add;split <;> simp_all];exact d0
 have hkt:0 < kt:=by rw [<-h.ht];exact (List.getElem?_eq_some_iff.1 ht).1
 have c17:=uz h.blk;have HRF:=fun w=>oR t htz w;have HFD:Hid (vj d t=match xl t with
  | some v=>(⟨v,d.xs,d.s,d.lg⟩,[xb v],0)
  | none=>(d,[],7)):=qH rfl
 have HSO:=qH (fun v (h:xl t=some v)=>(sx h).2);obtain ⟨o,ho⟩:=zN (xl t);rw [<-ho] at HRF HFD HSO;replace HRF:=qH HRF;have H:=qH h;clear ho h;go_in;go_wp2_with fail;refine qS (HRF.out _) fun W2 hb=>?_;have HR2:=qH (H.out.below hb);obtain ⟨gz,hgz⟩:=zN W2.heap.size;obtain ⟨W3,hW3⟩:=zN (W2.alloc (Obj.cells cG 27));have HB0:Hid (Blk W3 gz 27 cG):=qH (by rw [hW3,hgz];exact Blk.new _ _ _);have hb3:Below W2.heap.size W2 W3:=by rw [hW3];exact zc (Below.refl _ _) _
 have hgne:g < gz:=by have:=HR2.out.blk.lt;omega
 have hz2:=hb.size;have hgz2:W2.heap.size<=gz:=by omega
 clear d0 d1 hcol c17;have HG:=qH hgz;have HW:=qH hW3;have HZ2:=qH hz2;clear hgz hW3 hz2 hb;cases o with
 | none=>
   rw [show sh none=#[.agg #[.int .i64 0,.int .i64 0,.int .i64 0,.int .i64 0],.bool false] from rfl];go_wp2_with (first
    | (rw [<-HW.out,<-HG.out];refine yS gz cG HB0.out ?_))
   have HS4:=qH (HR2.out.below (zg hb3 hgz2 cG));have hb4:=(zg hb3 hgz2 cG).size;obtain ⟨W4,hW4⟩:=zN (World.setRow W3 gz cG);rw [<-hW4] at HS4 hb4 |-;clear hW4;refine (yP w0 W4 g d O ns ts A Ao An (some ad) n c no co kn cn kt ct HS4.out (by omega) 7).mono ?_;rintro e W5 ⟨rfl,hz5,hr5⟩;go_wp2;go_returns;have hz2:=HZ2.out;rw [HFD.out];exact ⟨rfl,by omega,hr5⟩
 | some v=>
   rw [show sh (some v)=#[.agg #[.int .i64 v.length,.int .i64 v.b,.int .i64 v.i,.int .i64 v.h],.bool true] from rfl];have HFG:=qH (HSO.out v rfl);have HLT:=qH (fun w=>pM v HFG w);go_wp2_with (first
    | (refine yL gz HF5.out underlying27 ?_)
    | (refine yL gz HF4.out underlying27 ?_)
    | (refine wpList_store_mid rfl 27 _ _ rfl g 0 (cF v) rfl rfl (vZ HS4.out.blk (by show 0 + 4<=18;omega)) (by kernel_rfl) (by simp [Value.oneCell']) ?_
       have HS5:=qH (HS4.out.mid (e:=⟨v,d.xs,d.s,d.lg⟩) 0 (Array.toList (cF v)) rfl ((((HS4.out.blk.set_ 0 _).set_ 1 _).set_ 2 _).set_ 3 _));have HF5:=qH (tO (g':=g) HF4.out (by omega) (o:=0) (Array.toList (cF v)));have hz5:=(xw g (Array.toList (cF v)) 0 W4).size;obtain ⟨W5,hW5⟩:=zN (World.setCells W4 g 0 (Array.toList (cF v)));rw [<-hW5] at HS5 HF5 hz5 |-;clear hW5;have HZ5:=qH hz5;clear HS4 HF4 hz5)
    | (rw [<-HW.out,<-HG.out];refine yS gz (cF v) HB0.out ?_
       have HF4:Hid (Blk (World.setRow W3 gz (cF v)) gz 27 (cF v)):=qH (setRow_heap _ _ _ _ _ _ HB0.out);have HS4:=qH (HR2.out.below (zg hb3 hgz2 (cF v)));have HZ4:=qH (zg hb3 hgz2 (cF v)).size;obtain ⟨W4,hW4⟩:=zN (World.setRow W3 gz (cF v));rw [<-hW4] at HF4 HS4 HZ4 |-;clear hW4))
   refine qS (HLT.out _) fun W6 hb6=>?_;have HS6:=qH (HS5.out.below hb6);have HZ6:=qH hb6.size;clear hb6 HF5 HS5;go_wp2_with fail;refine (sZ w0 W6 g _ O ns ts A Ao An (some ad) n c no co kn cn kt ct HS6.out (by omega) (xb v)).mono ?_;rintro e W7 ⟨rfl,hz7,hr7⟩;go_wp2;go_returns;have hz2:=HZ2.out;have hz4:=HZ4.out;have hz5:=HZ5.out;have hz6:=HZ6.out;rw [HFD.out];exact ⟨rfl,by omega,hr7⟩
end Go.Proofs.YtpiehlfffjhoaaaGreatDoor
