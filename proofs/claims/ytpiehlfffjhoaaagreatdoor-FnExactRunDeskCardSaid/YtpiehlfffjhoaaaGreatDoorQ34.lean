/- Lemmas for the law on the console: the parts CrD,CrE,CrG. -/
import Derived.Test.YtpiehlfffjhoaaaGreatDoorQ1
import Derived.Test.YtpiehlfffjhoaaaGreatDoorQ0
import Derived.Test.YtpiehlfffjhoaaaGreatDoorQ33
import Derived.Test.YtpiehlfffjhoaaaGreatDoorQ23
import Derived.Test.YtpiehlfffjhoaaaGreatDoorQ2
import Derived.Test.YtpiehlfffjhoaaaGreatDoorQ22
import Derived.Deep.Upon
namespace Go.Proofs.YtpiehlfffjhoaaaGreatDoor
open Go.RowKit
set_option maxRecDepth 100000
set_option maxHeartbeats 4000000
theorem ry (sep x:ByteArray):yA sep [x]=x:=by
 apply ByteArray.ext;apply Array.ext';unfold yA;simp [Lib.join_one]
theorem qs (sep y x:ByteArray) (L:List ByteArray):yA sep (y :: L ++ [x])=(yA sep (y :: L) ++ sep) ++ x:=by
 apply ByteArray.ext;apply Array.ext';unfold yA;simp only [List.cons_append,List.map_cons,List.map_append,List.map_nil,Lib.join_cons,Lib.joinTail,rl,List.flatten_append,List.flatten_cons,List.flatten_nil];simp
def sx (ps:List Int) (k:Nat):ByteArray:=yA ⟨#[32]⟩ (xL (ps.take k))
theorem zai {ps:List Int} {v:Int} (h:ps[0]?=some v):sx ps 1=zm v:=by
 cases ps with
 | nil=>cases h
 | cons a r=>injection h with h;subst h;exact ry _ _
theorem cO {ps:List Int} {v:Int} {k:Nat} (h:ps[k]?=some v) (h0:0 < k):sx ps (k + 1)=(sx ps k ++ ⟨#[32]⟩) ++ zm v:=by
 unfold sx xL;rw [List.take_add_one,h,List.map_append];cases ps with
 | nil=>simp at h
 | cons a r=>
   obtain ⟨j,rfl⟩:∃ j,k=j + 1:=⟨k - 1,by omega⟩
   rw [List.take_succ_cons,List.map_cons];exact qs _ _ _ _
theorem cN {ps:List Int} (k:Nat) (hb:∀ v ∈ ps,-1000000000≤v∧v≤1000000000):(sx ps k).size≤25 * k:=by
 have h:=qr ⟨#[32]⟩ (by decide) (xL (ps.take k)) (fun y hy=>by
  unfold xL at hy;obtain ⟨v,hv,rfl⟩:=List.mem_map.1 hy;have:=hb v (List.mem_of_mem_take hv);exact xd (by omega) (by omega))
 have e:(sx ps k).size=(Lib.join ((xL (ps.take k)).map (·.data.toList)) [32]).length:=by
  rw [←zv];unfold sx yA;simp
 have hl:(xL (ps.take k)).length≤k:=by unfold xL;rw [List.length_map,List.length_take];omega
 have h2:25 * (xL (ps.take k)).length≤25 * k:=Nat.mul_le_mul_left _ hl;rw [e];exact Nat.le_trans h h2
theorem cP (w0 w:World) (g:Nat) (d:Dk) (O:List ByteArray) (ns:List Int) (ts:List ByteArray) (A Ao An At B:Option Addr) (n c no co kn cn kt ct m cb:Nat) (ps:List Int) (h:SR w0 w g d O ns ts A Ao An At n c no co kn cn kt ct) (hno:no≤900000) (hp:Hid (ps.length=m)) (hm:m≤1000) (hb:Hid (∀ k ∈ ps,-1000000000≤k∧k≤1000000000)) (hB:Arr w B (zd zp ps)) :
 Calls Tryz.prog 175 #[.pointer (some ⟨g,0,none⟩),.slice B m cb] w (OutSY w0 g d (O ++ [vZ ps]) ns ts A An At n c kn cn kt ct w (.tuple #[])):=by
 have H:=qH h;have HBB:=qH hB;clear h hB;go_enter Tryz.func175,Tryz.ntmps175;go_wp2_with fail
 go_loopw [4,5] (fun v i wr=>∃ (j:Nat),i=.int .i64 j∧v=.string (sx ps j)∧j≤m∧Below w.heap.size w wr) (fun _ i _=>m - (intOf i).toNat)
 case atStart=>exact ⟨0,rfl,rfl,by omega,Below.refl _ _⟩
 case round=>
  obtain ⟨j,rfl,rfl,hj,hv⟩:=hrel;have hi0:(0:Int)≤(j:Int):=by omega
  by_cases hlt:j < m
  · obtain ⟨k,hkj⟩:=zx (xs:=ps) (k:=j) (by rw [hp.out];exact hlt);obtain ⟨bd,hbd,hbb,d0⟩:=yn (HBB.out.below hv) hkj;subst hbd;obtain ⟨hk0,hk1⟩:=hb.out k (List.mem_of_getElem? hkj);have HDC:=fun w=>xf k (by omega) (by omega) w;have dz:=xd (v:=k) (by omega) (by omega);have hsz:=cN (ps:=ps) j hb.out;have HK1:=qH (fun (e:j=0)=>zai (ps:=ps) (v:=k) (by rw [←e];exact hkj));have HK2:=qH (cO hkj);obtain ⟨t,ht⟩:=zN (zm k);rw [←ht] at HDC dz HK1 HK2;replace HDC:=qH HDC;have hi1:(j:Int) < (m:Int):=by omega
    clear hkj ht;by_cases hj0:j=0
    · have e0:sx ps j=⟨#[]⟩:=by rw [hj0];rfl
      rw [e0];have hi2:¬ (0:Int) < (j:Int):=by omega
      have a0:=fun (w:World)=>run_string_add_sum (P:=Tryz.prog) w ⟨#[]⟩ t (by have:(⟨#[]⟩:ByteArray).size=0:=rfl;omega);have e1:(⟨#[]⟩:ByteArray) ++ t=t:=by apply ByteArray.ext;simp
      rw [e1] at a0;have e2:=HK1.out hj0;rw [show (1:Nat)=j + 1 by omega] at e2;clear hj0 e0;go_wp2_with fail;refine qS (HDC.out _) fun W2 hb9=>?_;replace hv:=za hv hb9;clear hb9 HDC d0;go_wp2_with fail;exact ⟨⟨j + 1,by go_num,by rw [e2],by omega,hv⟩,by simp [intOf];omega⟩
    · have e2:=HK2.out (by omega);have hi2:(0:Int) < (j:Int):=by omega
      obtain ⟨T,hT⟩:=zN (sx ps j);rw [←hT] at e2 hsz ⊢;have l1:(⟨#[32]⟩:ByteArray).size=1:=rfl;have a0:=fun (w:World)=>run_string_add_sum (P:=Tryz.prog) w T ⟨#[32]⟩ (by omega);have s1:(T ++ (⟨#[32]⟩:ByteArray)).size=T.size + 1:=ByteArray.size_append;obtain ⟨T1,hT1⟩:=zN (T ++ (⟨#[32]⟩:ByteArray));rw [←hT1] at a0 e2 s1;have a1:=fun (w:World)=>run_string_add_sum (P:=Tryz.prog) w T1 t (by omega);clear hT hT1;go_wp2_with fail;refine qS (HDC.out _) fun W2 hb9=>?_;replace hv:=za hv hb9;clear hb9 HDC d0;go_wp2_with fail;exact ⟨⟨j + 1,by go_num,by rw [e2],by omega,hv⟩,by simp [intOf];omega⟩
  · have hjm:j=m:=by omega
    subst hjm;have hi1:¬ (j:Int) < (j:Int):=by omega
    have hR:sx ps j=vZ ps:=by unfold sx vZ;rw [List.take_of_length_le (by rw [hp.out];exact Nat.le_refl _)]
    rw [hR];have HS:=qH (cR w0 wr g d O ns ts A Ao An At n c no co kn cn kt ct (H.out.below hv) (by omega) (vZ ps));have hz:=hv.size;go_wp2_with fail;refine HS.out.mono ?_;rintro e W3 ⟨rfl,hz3,hr⟩;go_wp2_with fail;go_returns;exact ⟨rfl,by omega,hr⟩
theorem zct (w0 w:World) (g:Nat) (d:Dk) (O:List ByteArray) (ns:List Int) (ts:List ByteArray) (A Ao An At B:Option Addr) (n c no co kn cn kt ct m cb:Nat) (ps:List Int) (h:SR w0 w g d O ns ts A Ao An At n c no co kn cn kt ct) (hno:no≤900000) (hp:Hid (ps.length=m)) (hm:m≤1000) (hb:Hid (∀ k ∈ ps,-1000000000≤k∧k≤1000000000)) (hB:Arr w B (zd zp ps)) :
 Calls Tryz.prog 175 #[.pointer (some ⟨g,0,none⟩),.slice B m cb] w (vg w0 g d (O ++ [vZ ps]) ns ts w (.tuple #[])):=
 (cP w0 w g d O ns ts A Ao An At B n c no co kn cn kt ct m cb ps h hno hp hm hb hB).mono OutSY.any
theorem SR.mid {w0 w:World} {g:Nat} {d e:Dk} {O:List ByteArray} {ns:List Int} {ts:List ByteArray} {A Ao An At:Option Addr} {n c no co kn cn kt ct:Nat} (h:SR w0 w g d O ns ts A Ao An At n c no co kn cn kt ct) (o:Nat) (vs:List Value) (hx:e.xs=d.xs) (hb:Blk (w.setCells g o vs) g 73 (#[Value.int .i64 e.f.length,Value.int .i64 e.f.b,Value.int .i64 e.f.i,Value.int .i64 e.f.h,Value.slice A n c,Value.string e.s.u,Value.string e.s.c,Value.string e.s.l,Value.string e.s.s,Value.int .i64 e.s.t,Value.int .i64 e.s.h,Value.int .i64 e.s.e,Value.int .i64 e.s.d,Value.bool e.s.q,Value.string e.lg,Value.slice Ao no co,Value.slice An kn cn,Value.slice At kt ct])):SR w0 (w.setCells g o vs) g e O ns ts A Ao An At n c no co kn cn kt ct:=by
 have hg:=xv g vs o w;have hs:=hg.size;have hk:∀ {B:Option Addr} {m k:Nat},(∀ ad,B=some ad→ad.block≠g∧ad.block < w.heap.size)→∀ q,(Value.slice B m k).ownBlock=some q→q≠g:=fun {B m k} hB q hq=>by
  cases B with
  | none=>cases hq
  | some ad=>injection hq with hq;subst hq;exact (hB ad rfl).1
 have ha:∀ {B:Option Addr},(∀ ad,B=some ad→ad.block≠g∧ad.block < w.heap.size)→∀ ad,B=some ad→ad.block≠g∧ad.block < (w.setCells g o vs).heap.size:=fun hB ad e=>⟨(hB ad e).1,by have:=(hB ad e).2;omega⟩
 exact ⟨hb,by rw [hx];exact h.hn,h.ho,h.hk,h.ht,by rw [hx];exact tZ h.own (hk h.ag) o vs,tZ h.out (hk h.og) o vs,h.nums.grown hg (fun ad e1 e2=>by injection e2 with e2;exact (h.ng ad e1).1 e2),h.texts.grown hg (fun ad e1 e2=>by injection e2 with e2;exact (h.tg ad e1).1 e2),ha h.ag,ha h.og,ha h.ng,ha h.tg,h.ao,h.no_,h.to_,vL h.bel hg,h.an_,h.at_⟩
def wO (r:xX):List ByteArray:=if r.2.2=0 then r.2.1 else [xw r.2.2]
theorem zaN (w0 w:World) (g:Nat) (d:Dk) (O:List ByteArray) (ns:List Int) (ts:List ByteArray) (A Ao An At:Option Addr) (n c no co kn cn kt ct:Nat) (t:ByteArray) (h:SR w0 w g d O ns ts A Ao An At n c no co kn cn kt ct) (hno:no≤900000) (ht:ts[0]?=some t) (htz:t.size≤4194304) :
 Calls Tryz.prog 103 #[.pointer (some ⟨g,0,none⟩)] w (vg w0 g (vd d t).1 (O ++ wO (vd d t)) ns ts w (.tuple #[])):=by
 obtain ⟨ad,hAt,hcol,d0⟩:=zj h.texts ht;subst hAt;have d1:w.cell? ad=some (.string t):=by rw [←show ad.add 0=ad from by unfold Addr.add;split <;> simp_all];exact d0
 have hkt:0 < kt:=by rw [←h.ht];exact (List.getElem?_eq_some_iff.1 ht).1
 have c17:w.cell? ⟨g,17,none⟩=some (.slice (some ad) kt ct):=h.blk.cell 17;have HRF:=fun w=>oq t htz w;have HFD:Hid (vd d t=match xk t with
  | some v=>(⟨v,d.xs,d.s,d.lg⟩,[yZ v],0)
  | none=>(d,[],7)):=qH rfl
 have HSO:=qH (fun v (h:xk t=some v)=>(se h).2);obtain ⟨o,ho⟩:=zN (xk t);rw [←ho] at HRF HFD HSO;replace HRF:=qH HRF;have H:=qH h;clear ho h;go_enter Tryz.func103,Tryz.ntmps103;go_wp2_with fail;refine qS (HRF.out _) fun W2 hb=>?_;have HR2:=qH (H.out.below hb);obtain ⟨gz,hgz⟩:=zN W2.heap.size;obtain ⟨W3,hW3⟩:=zN (W2.alloc (Obj.cells cG 27));have HB0:Hid (Blk W3 gz 27 cG):=qH (by rw [hW3,hgz];exact Blk.new _ _ _);have hb3:Below W2.heap.size W2 W3:=by rw [hW3];exact zc (Below.refl _ _) _
 have hgne:g < gz:=by have:=HR2.out.blk.lt;omega
 have hz2:=hb.size;have hgz2:W2.heap.size≤gz:=by omega
 clear d0 d1 hcol c17;have HG:=qH hgz;have HW:=qH hW3;have HZ2:=qH hz2;clear hgz hW3 hz2 hb;cases o with
 | none=>
   rw [show tP none=#[.agg #[.int .i64 0,.int .i64 0,.int .i64 0,.int .i64 0],.bool false] from rfl];go_wp2_with (first
    | (rw [←HW.out,←HG.out];refine yS gz cG HB0.out ?_))
   have HS4:=qH (HR2.out.below (zg hb3 hgz2 cG));have hb4:=(zg hb3 hgz2 cG).size;obtain ⟨W4,hW4⟩:=zN (World.setRow W3 gz cG);rw [←hW4] at HS4 hb4 ⊢;clear hW4;refine (yI w0 W4 g d O ns ts A Ao An (some ad) n c no co kn cn kt ct HS4.out (by omega) 7).mono ?_;rintro e W5 ⟨rfl,hz5,hr5⟩;go_wp2_with fail;go_returns;have hz2:=HZ2.out;rw [HFD.out];exact ⟨rfl,by omega,hr5⟩
 | some v=>
   rw [show tP (some v)=#[.agg #[.int .i64 v.length,.int .i64 v.b,.int .i64 v.i,.int .i64 v.h],.bool true] from rfl];have HFG:=qH (HSO.out v rfl);have HLT:=qH (fun w=>pq v HFG w);go_wp2_with (first
    | (refine yL gz HF5.out Tryz.underlying27 ?_)
    | (refine yL gz HF4.out Tryz.underlying27 ?_)
    | (refine wpList_store_mid rfl 27 _ _ rfl g 0 (cF v) rfl rfl (vS HS4.out.blk (by show 0 + 4≤18;omega)) (by kernel_rfl) (by simp [Value.oneCell']) ?_
       have HS5:=qH (HS4.out.mid (e:=⟨v,d.xs,d.s,d.lg⟩) 0 (Array.toList (cF v)) rfl ((((HS4.out.blk.set_ 0 _).set_ 1 _).set_ 2 _).set_ 3 _));have HF5:=qH (tz (g':=g) HF4.out (by omega) (o:=0) (Array.toList (cF v)));have hz5:=(xv g (Array.toList (cF v)) 0 W4).size;obtain ⟨W5,hW5⟩:=zN (World.setCells W4 g 0 (Array.toList (cF v)));rw [←hW5] at HS5 HF5 hz5 ⊢;clear hW5;have HZ5:=qH hz5;clear HS4 HF4 hz5)
    | (rw [←HW.out,←HG.out];refine yS gz (cF v) HB0.out ?_
       have HF4:Hid (Blk (World.setRow W3 gz (cF v)) gz 27 (cF v)):=qH (setRow_heap _ _ _ _ _ _ HB0.out);have HS4:=qH (HR2.out.below (zg hb3 hgz2 (cF v)));have HZ4:=qH (zg hb3 hgz2 (cF v)).size;obtain ⟨W4,hW4⟩:=zN (World.setRow W3 gz (cF v));rw [←hW4] at HF4 HS4 HZ4 ⊢;clear hW4))
   refine qS (HLT.out _) fun W6 hb6=>?_;have HS6:=qH (HS5.out.below hb6);have HZ6:=qH hb6.size;clear hb6 HF5 HS5;go_wp2_with fail;refine (tQ w0 W6 g _ O ns ts A Ao An (some ad) n c no co kn cn kt ct HS6.out (by omega) (yZ v)).mono ?_;rintro e W7 ⟨rfl,hz7,hr7⟩;go_wp2_with fail;go_returns;have hz2:=HZ2.out;have hz4:=HZ4.out;have hz5:=HZ5.out;have hz6:=HZ6.out;rw [HFD.out];exact ⟨rfl,by omega,hr7⟩
theorem xF {P:Program} {ops:Array Oper} {rest:List Oper} {o:Oper} {a:Act} {Q:Exit→Act→World→Prop} (w:World) (hgd:o.guard=none) (s x:Operand) (t e:TypeId)
 (ho:o.op=.call { callee:=.builtin .append,args:=#[s,x],argTypes:=#[t,t] })
 (i:TypeInfo) (z:Value) (size bytes:Nat) (ht:P.underlying t=some (.slice e)) (hi:P.info? e=some i) (hz:i.zero=some z)
 (hsize:i.size=size) (hby:i.bytes=bytes) (hzs:z.cells.size=size) (hsz:0 < size)
 (base:Nat) (A:Option Addr) (n cp:Nat) (cs:List Value) (hs:a.eval s=.slice A n cp) (hown:w.ownsRow base e size (.slice A n cp) n cs)
 (B:Option Addr) (m c:Nat) (C:List Value) (hx:a.eval x=.slice B m c) (hA:Arr w B C)
 (hl:C.length=m * size) (h1:∀ u ∈ C,u.oneCell'=true) (h63:n + m≤maxLen) (hbytes:(n + m) * bytes≤140737488355328) (hbase:base≤w.heap.size)
 (h:∀ A7 c7 w7,w7.ownsRow base e size (.slice A7 (n + m) c7) (n + m) (cs ++ C)→w.grownBy w7 (Value.slice A n cp).ownBlock→wpList P ops Q rest (a.put o.dst (.slice A7 (n + m) c7)) w7) :
 wpList P ops Q (o :: rest) a w:=by
 cases B with
 | some ad=>exact vQ w hgd s x t e ho i z size bytes ht hi hz hsize hby hzs hsz base _ n cs hs hown ad m c C hx hA hl h1 h63 hbytes hbase h
 | none=>
   have hC:C=[]:=by
    cases C with
    | nil=>rfl
    | cons u r=>
      obtain ⟨ad,e1,_⟩:=hA (by simp);cases e1
   subst hC;obtain rfl:m=0:=by
    cases m with
    | zero=>rfl
    | succ m=>
      rw [List.length_nil,Nat.succ_mul] at hl;omega
   have hnc:n≤cp:=by obtain ⟨_,_,e1,h1,_⟩:=xT hown;injection e1 with _ _ e3;omega
   have hsrc:Go.Src P i.size t (.slice none 0 c) 0 [] w:=Go.Src.ofNil w ht c;have hr:=run_append_nothing (P:=P) w t t o.type e i ht hi A n cp hnc (.slice none 0 c) hsrc;refine wpList_plain hgd fun K hK=>?_;unfold Oper.wp execOp;simp only [ho,resolve,invoke,builtin,Sem.run_bind,Sem.run_pure,Result.andThen_ok,List.map_toArray,List.map_cons,List.map_nil,hs,hx,hr];exact hK _ _ (h A cp w (by rw [List.append_nil];exact hown) (World.grownBy.refl w _))
theorem zcj {w:World} {g k:Nat} {xs:List Last} (hk:k≤xs.length) (h:Arr w (some ⟨g,0,none⟩) (zd Last.cells xs)):Arr w (some ⟨g,k * 6,none⟩) (zd Last.cells (xs.drop k)):=fun hn=>by
 rw [sB hk] at hn ⊢;obtain ⟨ad,e,hb,hc⟩:=h (by rw [List.length_drop] at hn;omega);injection e with e;subst e;refine ⟨_,rfl,hb,fun j u hu=>?_⟩;rw [List.getElem?_drop] at hu;have:=hc (k * 6 + j) u hu;rw [Addr.add_lit,Nat.zero_add] at this;rw [Addr.add_lit];exact this
theorem jw (xs:List Last) (n c:Nat) (x:Last) (hn:Hid (xs.length=n)) (h0:n=0) (hs:Hid (∀ x ∈ xs,x.name.size≤9223372036854775807)) (hsx:x.name.size≤9223372036854775807) (w:World) (hA:Arr w none (zd Last.cells xs)) :
 Calls Tryz.prog 171 #[.slice none n c,.agg #[.string x.name,.int .i64 x.length,.int .i64 x.b,.int .i64 x.i,.int .i64 x.h,.int .i64 x.p]] w (OutL 100 6 (yO xs x).1.length (zd Last.cells (yO xs x).1) (yO xs x).2 w):=by
 subst h0;have hm:((0:Nat):Int)≤1048576:=by omega
 obtain ⟨i0,hi0,hz0,hz1,hz2⟩:=info_parts (P:=Tryz.prog) (e:=100) (z:=.agg #[.string ByteArray.empty,.int .i64 0,.int .i64 0,.int .i64 0,.int .i64 0,.int .i64 0]) (size:=6) (bytes:=56) qq;have hlen:(zd Last.cells xs).length=0 * 6:=by rw [xe Last.cells_length,hn.out]
 have HL4:=qH (fun w h=>pT none xs 0 c hn hm hs w h);have HL1:=qH (fun w=>tG x hsx w);have HLF:=qH (fun w h=>pr none xs 0 c x.name hn hm w h);go_enter Tryz.func171,Tryz.ntmps171;go_wp2_with fail;have hv0:=zc (Below.refl w.heap.size w) (Obj.cells (cL x) 100);have hX0:Blk (w.alloc (Obj.cells (cL x) 100)) w.heap.size 100 (cL x):=Blk.new _ _ _;refine qS (HL4.out _ (hA.below hv0)) fun W hb1=>?_;have hv1:Below w.heap.size w W:=za hv0 hb1;have hX1:=hX0.below hb1;clear hX0 hb1 hv0;cases ho:yz xs
 · have HO:=qH ho;clear ho;go_wp2_with fail;go_returns;exact OutL.noN (qb HO.out) hv1
 have HO:=qH ho;clear ho;have x0:W.cell? ⟨w.heap.size,0,none⟩=some (.string x.name):=hX1.cell 0;have x1:W.cell? ⟨w.heap.size,1,none⟩=some (.int .i64 x.length):=hX1.cell 1;have x2:W.cell? ⟨w.heap.size,2,none⟩=some (.int .i64 x.b):=hX1.cell 2;have x3:W.cell? ⟨w.heap.size,3,none⟩=some (.int .i64 x.i):=hX1.cell 3;have x4:W.cell? ⟨w.heap.size,4,none⟩=some (.int .i64 x.h):=hX1.cell 4;have x5:W.cell? ⟨w.heap.size,5,none⟩=some (.int .i64 x.p):=hX1.cell 5;go_wp2_with fail;refine qS (HL1.out _) fun W2 hb2=>?_;have hv2:Below w.heap.size w W2:=za hv1 hb2;have hX2:=hX1.below hb2;clear x0 x1 x2 x3 x4 x5 hX1 hb2 hv1;have x0:W2.cell? ⟨w.heap.size,0,none⟩=some (.string x.name):=hX2.cell 0;cases hq:zy x
 · have HQ:=qH hq;clear hq;go_wp2_with fail;go_returns;exact OutL.noN (qc HO.out HQ.out) hv2
 have HQ:=qH hq;clear hq;go_wp2_with fail;refine qS (HLF.out _ (hA.below hv2)) fun W3 hb3=>?_;have hv3:Below w.heap.size w W3:=za hv2 hb3;have hX3:=hX2.below hb3;clear hX2 hb3 x0 hv2;rw [pm HO.out];cases hh:xM x.name xs
 case true=>
  have HH:=qH hh;clear hh;have hl0:(0:Int)≤(lbN x.name xs:Int):=by omega
  go_wp2_with fail;go_returns;exact OutL.noN (qa HO.out HQ.out HH.out) hv3
 have HH:=qH hh;clear hh;have hle:lbN x.name xs≤0:=by rw [←hn.out];exact va _ _
 have hkk:=qH (show 0=lbN x.name xs by omega);have l1:=qH (show (zd Last.cells (xs.take 0)).length=0 * 6 from rfl);have l2:=qH (show (zd Last.cells (xs.drop 0)).length=(0 - 0) * 6 by rw [List.drop_zero];exact hlen);have hA1:=qH (fun (w':World) (_:Below w.heap.size w w')=>(show Arr w' none (zd Last.cells (xs.take 0)) from Arr.nil _ _));have hA2:=qH (fun (w':World) (_:Below w.heap.size w w')=>(show Arr w' none (zd Last.cells (xs.drop 0)) by rw [List.drop_eq_nil_of_le (by rw [hn.out];exact Nat.le_refl _)];exact Arr.nil _ _));clear hle;go_wp2_with fail
 go_loopw [6] (fun i wr=>i=.int .i64 0∧Below w.heap.size w wr∧Blk wr w.heap.size 100 (cL x)) (fun _ _=>0)
 case atStart=>exact ⟨rfl,hv3,hX3⟩
 case round=>
  clear hv3 hX3;obtain ⟨rfl,hv,hB⟩:=hrel;have x0:=hB.cell 0;dsimp [cL,cM,cS,cT] at x0;go_wp2_with fail
  go_region
  all_goals (obtain ⟨wq,hwq⟩:∃ wq,wq=wr.drew:=⟨_,rfl⟩)
  all_goals rw [←hwq]
  all_goals have hvq:Below w.heap.size w wq:=by rw [hwq];exact hv.drew
  all_goals have hBq:Blk wq w.heap.size 100 (cL x):=by rw [hwq];exact hB.below (Below.refl _ _).drew
  all_goals clear hwq hv hB x0
  have hf:¬ 0=30:=by omega
  go_wp2_with (at_builtin;first
   | (refine xF _ rfl _ _ 28 100 rfl i0 _ 6 56 Tryz.underlying28 hi0 hz0 hz1 hz2 rfl (by omega) w.heap.size (some ⟨wq.heap.size,0,none⟩) 0 0 [] rfl (zG wq w.heap.size _ _ hvq.size) _ 0 _ (zd Last.cells (xs.take 0)) rfl (hA1.out _ (zc hvq _)) l1.out (wi _) (by unfold maxLen;omega) (by omega) (by rw [World.size_alloc];have:=hvq.size;omega) ?_;intro A2 c2 w2 hown2 hg2;simp only [Nat.zero_add,List.nil_append] at hown2;have hv2:=zh (zc hvq _) hg2 (zl (zG wq w.heap.size 100 6 hvq.size));have hX2:Blk w2 w.heap.size 100 (cL x):=Blk.grown (hBq.alloc _) hg2 (by have:=hBq.lt;simp [Value.ownBlock];omega);have x0:w2.cell? ⟨w.heap.size,0,none⟩=some (.string x.name):=hX2.cell 0;have x1:w2.cell? ⟨w.heap.size,1,none⟩=some (.int .i64 x.length):=hX2.cell 1;have x2:w2.cell? ⟨w.heap.size,2,none⟩=some (.int .i64 x.b):=hX2.cell 2;have x3:w2.cell? ⟨w.heap.size,3,none⟩=some (.int .i64 x.i):=hX2.cell 3;have x4:w2.cell? ⟨w.heap.size,4,none⟩=some (.int .i64 x.h):=hX2.cell 4;have x5:w2.cell? ⟨w.heap.size,5,none⟩=some (.int .i64 x.p):=hX2.cell 5)
   | (refine xp w2 (cL x) rfl _ _ 28 100 rfl i0 _ 6 56 Tryz.underlying28 hi0 hz0 hz1 hz2 rfl (by omega) w.heap.size (.slice A2 0 c2) 0 _ rfl rfl hown2 rfl (by simp [Value.oneCell']) (by unfold maxLen;omega) (by omega) hv2.size ?_;intro A4 c4 w4 hown4 hg4;have hv4:=zh hv2 hg4 (zl hown2))
   | (refine xF _ rfl _ _ 28 100 rfl i0 _ 6 56 Tryz.underlying28 hi0 hz0 hz1 hz2 rfl (by omega) w.heap.size A4 (0 + 1) c4 _ rfl hown4 _ _ _ (zd Last.cells (xs.drop 0)) rfl (hA2.out _ hv4) (by first | exact l2.out | (rw [l2.out];simp)) (wi _) (by unfold maxLen;omega) (by omega) hv4.size ?_;intro A6 c6 w6 hown6 hg6))
  go_returns;exact OutL.ofN (uJ HO.out HQ.out HH.out (by rw [hn.out];exact hf)) (by rw [wY _ _ _ (va _ _),hn.out];first | done | omega) (by
   rw [vV,←hkk.out,←List.append_assoc];exact hown6) (zh hv4 hg6 (zl hown4))
theorem jx (g:Nat) (xs:List Last) (n c:Nat) (hnc:n≤c) (x:Last) (hn:Hid (xs.length=n)) (hm:(n:Int)≤1048576) (hs:Hid (∀ x ∈ xs,x.name.size≤9223372036854775807)) (hsx:x.name.size≤9223372036854775807) (w:World) (hA:Arr w (some ⟨g,0,none⟩) (zd Last.cells xs)) :
 Calls Tryz.prog 171 #[.slice (some ⟨g,0,none⟩) n c,.agg #[.string x.name,.int .i64 x.length,.int .i64 x.b,.int .i64 x.i,.int .i64 x.h,.int .i64 x.p]] w (OutL 100 6 (yO xs x).1.length (zd Last.cells (yO xs x).1) (yO xs x).2 w):=by
 obtain ⟨i0,hi0,hz0,hz1,hz2⟩:=info_parts (P:=Tryz.prog) (e:=100) (z:=.agg #[.string ByteArray.empty,.int .i64 0,.int .i64 0,.int .i64 0,.int .i64 0,.int .i64 0]) (size:=6) (bytes:=56) qq;have hlen:(zd Last.cells xs).length=n * 6:=by rw [xe Last.cells_length,hn.out]
 have HL4:=qH (fun w h=>pT (some ⟨g,0,none⟩) xs n c hn hm hs w h);have HL1:=qH (fun w=>tG x hsx w);have HLF:=qH (fun w h=>pr (some ⟨g,0,none⟩) xs n c x.name hn hm w h);go_enter Tryz.func171,Tryz.ntmps171;go_wp2_with fail;have hv0:=zc (Below.refl w.heap.size w) (Obj.cells (cL x) 100);have hX0:Blk (w.alloc (Obj.cells (cL x) 100)) w.heap.size 100 (cL x):=Blk.new _ _ _;refine qS (HL4.out _ (hA.below hv0)) fun W hb1=>?_;have hv1:Below w.heap.size w W:=za hv0 hb1;have hX1:=hX0.below hb1;clear hX0 hb1 hv0;cases ho:yz xs
 · have HO:=qH ho;clear ho;go_wp2_with fail;go_returns;exact OutL.noN (qb HO.out) hv1
 have HO:=qH ho;clear ho;have x0:W.cell? ⟨w.heap.size,0,none⟩=some (.string x.name):=hX1.cell 0;have x1:W.cell? ⟨w.heap.size,1,none⟩=some (.int .i64 x.length):=hX1.cell 1;have x2:W.cell? ⟨w.heap.size,2,none⟩=some (.int .i64 x.b):=hX1.cell 2;have x3:W.cell? ⟨w.heap.size,3,none⟩=some (.int .i64 x.i):=hX1.cell 3;have x4:W.cell? ⟨w.heap.size,4,none⟩=some (.int .i64 x.h):=hX1.cell 4;have x5:W.cell? ⟨w.heap.size,5,none⟩=some (.int .i64 x.p):=hX1.cell 5;go_wp2_with fail;refine qS (HL1.out _) fun W2 hb2=>?_;have hv2:Below w.heap.size w W2:=za hv1 hb2;have hX2:=hX1.below hb2;clear x0 x1 x2 x3 x4 x5 hX1 hb2 hv1;have x0:W2.cell? ⟨w.heap.size,0,none⟩=some (.string x.name):=hX2.cell 0;cases hq:zy x
 · have HQ:=qH hq;clear hq;go_wp2_with fail;go_returns;exact OutL.noN (qc HO.out HQ.out) hv2
 have HQ:=qH hq;clear hq;go_wp2_with fail;refine qS (HLF.out _ (hA.below hv2)) fun W3 hb3=>?_;have hv3:Below w.heap.size w W3:=za hv2 hb3;have hX3:=hX2.below hb3;clear hX2 hb3 x0 hv2;rw [pm HO.out];cases hh:xM x.name xs
 case true=>
  have HH:=qH hh;clear hh;have hl0:(0:Int)≤(lbN x.name xs:Int):=by omega
  go_wp2_with fail;go_returns;exact OutL.noN (qa HO.out HQ.out HH.out) hv3
 have HH:=qH hh;clear hh;have hn30:n≤30:=by rw [←hn.out];exact wg HO.out
 by_cases hf:n=30
 · subst hf;go_wp2_with fail;go_returns;exact OutL.noN (pb HO.out HQ.out HH.out hn.out) hv3
 have hni:¬ (30:Int)≤(n:Int):=by omega
 have hle:lbN x.name xs≤n:=by rw [←hn.out];exact va _ _
 go_wp2_with fail
 go_loopw [6] (fun i wr=>∃ k:Nat,lbN x.name xs≤k∧k≤n∧i=.int .i64 k∧Below w.heap.size w wr∧Blk wr w.heap.size 100 (cL x)) (fun i _=>(intOf i).toNat)
 case atStart=>exact ⟨n,hle,Nat.le_refl _,rfl,hv3,hX3⟩
 case round=>
  clear hv3 hX3;obtain ⟨k,hk1,hk2,rfl,hv,hB⟩:=hrel;have x0:=hB.cell 0;dsimp [cL,cM,cS,cT] at x0;have HP:=qH (tH HO.out);by_cases hlt:lbN x.name xs < k
  · obtain ⟨j,rfl⟩:∃ j,k=j + 1:=⟨k - 1,by omega⟩
    obtain ⟨y,hy⟩:=zx (xs:=xs) (k:=j) (by rw [hn.out];omega);have hid:yN x.name y.name=true:=oU HP.out HH.out hy (by omega);have hl:Op.bytesLess y.name.toList x.name.toList=false:=td hid;have he:(y.name.toList == x.name.toList)=false:=by rw [yJ];exact decide_eq_false (oS hid).symm
    obtain ⟨ad',e',_,d0,d1,d2,d3,d4,d5⟩:=Last.at_ (hA.below hv) hy;injection e' with e';subst e';have hw1:IntKind.i64.wrap (((j + 1:Nat):Int) - 1)=(j:Int):=IntWalk.i64_in _ (by omega) |>.trans (by omega);clear d1 d2 d3 d4 d5 hid;rw [Addr.add_lit,Nat.zero_add] at d0;go_wp2_with fail
    go_region
    all_goals go_wp2_with fail
    all_goals go_roundw
    all_goals first
     | exact ⟨j,by omega,by omega,rfl,hv.drew,hB.below (Below.refl _ _).drew⟩
     | (simp [intOf];done)
     | (simp [intOf];omega)
  · have hkk:=qH (show k=lbN x.name xs by omega);clear hlt hk1;have hkI:(k:Int)≤(n:Int):=by omega
    have hkC:(k:Int)≤(c:Int):=by omega
    have hkC2:k≤c:=by omega
    have hnC:(n:Int)≤(c:Int):=by omega
    have hA1:∀ w',Below w.heap.size w w'→Arr w' (some ⟨g,0,none⟩) (zd Last.cells (xs.take k)):=fun w' h=>by
     rw [ql (by rw [hn.out];exact hk2)];exact (hA.below h).take _
    have hA2:∀ w',Below w.heap.size w w'→Arr w' (some ⟨g,k * 6,none⟩) (zd Last.cells (xs.drop k)):=fun w' h=>zcj (by rw [hn.out];exact hk2) (hA.below h);have hA3:k=n→∀ w',Below w.heap.size w w'→Arr w' (some ⟨g,0,none⟩) (zd Last.cells (xs.drop k)):=fun e w' _=>by
     rw [List.drop_eq_nil_of_le (by rw [hn.out,e];exact Nat.le_refl _)];exact Arr.nil _ _
    replace hA1:=qH hA1;replace hA2:=qH hA2;replace hA3:=qH hA3;have l1:(zd Last.cells (xs.take k)).length=k * 6:=by rw [xe Last.cells_length,List.length_take,hn.out,Nat.min_eq_left hk2]
    have l2:(zd Last.cells (xs.drop k)).length=(n - k) * 6:=by rw [xe Last.cells_length,List.length_drop,hn.out]
    replace l1:=qH l1;replace l2:=qH l2;by_cases hk0:k=0
    · subst hk0;go_wp2_with fail
      go_region
      all_goals (obtain ⟨wq,hwq⟩:∃ wq,wq=wr.drew:=⟨_,rfl⟩)
      all_goals rw [←hwq]
      all_goals have hvq:Below w.heap.size w wq:=by rw [hwq];exact hv.drew
      all_goals have hBq:Blk wq w.heap.size 100 (cL x):=by rw [hwq];exact hB.below (Below.refl _ _).drew
      all_goals clear hwq hv hB x0
      all_goals by_cases hkn:0=c
      · subst hkn;obtain rfl:n=0:=by omega
        go_wp2_with (at_builtin;first
         | (refine xF _ rfl _ _ 28 100 rfl i0 _ 6 56 Tryz.underlying28 hi0 hz0 hz1 hz2 rfl (by omega) w.heap.size (some ⟨wq.heap.size,0,none⟩) 0 0 [] rfl (zG wq w.heap.size _ _ hvq.size) (some ⟨g,0,none⟩) 0 0 (zd Last.cells (xs.take 0)) rfl (hA1.out _ (zc hvq _)) l1.out (wi _) (by unfold maxLen;omega) (by omega) (by rw [World.size_alloc];have:=hvq.size;omega) ?_;intro A2 c2 w2 hown2 hg2;simp only [Nat.zero_add,List.nil_append] at hown2;have hv2:=zh (zc hvq _) hg2 (zl (zG wq w.heap.size 100 6 hvq.size));have hX2:Blk w2 w.heap.size 100 (cL x):=Blk.grown (hBq.alloc _) hg2 (by have:=hBq.lt;simp [Value.ownBlock];omega);have x0:w2.cell? ⟨w.heap.size,0,none⟩=some (.string x.name):=hX2.cell 0;have x1:w2.cell? ⟨w.heap.size,1,none⟩=some (.int .i64 x.length):=hX2.cell 1;have x2:w2.cell? ⟨w.heap.size,2,none⟩=some (.int .i64 x.b):=hX2.cell 2;have x3:w2.cell? ⟨w.heap.size,3,none⟩=some (.int .i64 x.i):=hX2.cell 3;have x4:w2.cell? ⟨w.heap.size,4,none⟩=some (.int .i64 x.h):=hX2.cell 4;have x5:w2.cell? ⟨w.heap.size,5,none⟩=some (.int .i64 x.p):=hX2.cell 5)
         | (refine xp w2 (cL x) rfl _ _ 28 100 rfl i0 _ 6 56 Tryz.underlying28 hi0 hz0 hz1 hz2 rfl (by omega) w.heap.size (.slice A2 0 c2) 0 _ rfl rfl hown2 rfl (by simp [Value.oneCell']) (by unfold maxLen;omega) (by omega) hv2.size ?_;intro A4 c4 w4 hown4 hg4;have hv4:=zh hv2 hg4 (zl hown2))
         | (refine xF _ rfl _ _ 28 100 rfl i0 _ 6 56 Tryz.underlying28 hi0 hz0 hz1 hz2 rfl (by omega) w.heap.size A4 (0 + 1) c4 _ rfl hown4 _ (0 - 0) _ (zd Last.cells (xs.drop 0)) rfl (hA3.out rfl _ hv4) (by first | exact l2.out | (rw [l2.out];simp)) (wi _) (by unfold maxLen;omega) (by omega) hv4.size ?_;intro A6 c6 w6 hown6 hg6))
        go_returns;exact OutL.ofN (uJ HO.out HQ.out HH.out (by rw [hn.out];exact hf)) (by rw [wY _ _ _ (va _ _),hn.out];first | done | omega) (by
         rw [vV,←hkk.out,←List.append_assoc];exact hown6) (zh hv4 hg6 (zl hown4))
      · have hkn2:¬ c=0:=fun e=>hkn e.symm;go_wp2_with (at_builtin;first
         | (refine xF _ rfl _ _ 28 100 rfl i0 _ 6 56 Tryz.underlying28 hi0 hz0 hz1 hz2 rfl (by omega) w.heap.size (some ⟨wq.heap.size,0,none⟩) 0 0 [] rfl (zG wq w.heap.size _ _ hvq.size) (some ⟨g,0,none⟩) 0 c (zd Last.cells (xs.take 0)) rfl (hA1.out _ (zc hvq _)) l1.out (wi _) (by unfold maxLen;omega) (by omega) (by rw [World.size_alloc];have:=hvq.size;omega) ?_;intro A2 c2 w2 hown2 hg2;simp only [Nat.zero_add,List.nil_append] at hown2;have hv2:=zh (zc hvq _) hg2 (zl (zG wq w.heap.size 100 6 hvq.size));have hX2:Blk w2 w.heap.size 100 (cL x):=Blk.grown (hBq.alloc _) hg2 (by have:=hBq.lt;simp [Value.ownBlock];omega);have x0:w2.cell? ⟨w.heap.size,0,none⟩=some (.string x.name):=hX2.cell 0;have x1:w2.cell? ⟨w.heap.size,1,none⟩=some (.int .i64 x.length):=hX2.cell 1;have x2:w2.cell? ⟨w.heap.size,2,none⟩=some (.int .i64 x.b):=hX2.cell 2;have x3:w2.cell? ⟨w.heap.size,3,none⟩=some (.int .i64 x.i):=hX2.cell 3;have x4:w2.cell? ⟨w.heap.size,4,none⟩=some (.int .i64 x.h):=hX2.cell 4;have x5:w2.cell? ⟨w.heap.size,5,none⟩=some (.int .i64 x.p):=hX2.cell 5)
         | (refine xp w2 (cL x) rfl _ _ 28 100 rfl i0 _ 6 56 Tryz.underlying28 hi0 hz0 hz1 hz2 rfl (by omega) w.heap.size (.slice A2 0 c2) 0 _ rfl rfl hown2 rfl (by simp [Value.oneCell']) (by unfold maxLen;omega) (by omega) hv2.size ?_;intro A4 c4 w4 hown4 hg4;have hv4:=zh hv2 hg4 (zl hown2))
         | (refine xF _ rfl _ _ 28 100 rfl i0 _ 6 56 Tryz.underlying28 hi0 hz0 hz1 hz2 rfl (by omega) w.heap.size A4 (0 + 1) c4 _ rfl hown4 _ (n - 0) _ (zd Last.cells (xs.drop 0)) rfl (hA2.out _ hv4) (by first | exact l2.out | (rw [l2.out];simp)) (wi _) (by unfold maxLen;omega) (by omega) hv4.size ?_;intro A6 c6 w6 hown6 hg6))
        go_returns;exact OutL.ofN (uJ HO.out HQ.out HH.out (by rw [hn.out];exact hf)) (by rw [wY _ _ _ (va _ _),hn.out];first | done | omega) (by
         rw [vV,←hkk.out,←List.append_assoc];exact hown6) (zh hv4 hg6 (zl hown4))
    · obtain ⟨j,rfl⟩:∃ j,k=j + 1:=⟨k - 1,by omega⟩
      obtain ⟨y,hy⟩:=zx (xs:=xs) (k:=j) (by rw [hn.out];omega);have hl:Op.bytesLess y.name.toList x.name.toList=true:=(sL x.name xs HP.out j y hy).2 (by have:=hkk.out;omega);obtain ⟨ad',e',_,d0,d1,d2,d3,d4,d5⟩:=Last.at_ (hA.below hv) hy;injection e' with e';subst e';have hw1:IntKind.i64.wrap (((j + 1:Nat):Int) - 1)=(j:Int):=IntWalk.i64_in _ (by omega) |>.trans (by omega);clear d1 d2 d3 d4 d5 hy hk0;rw [Addr.add_lit,Nat.zero_add] at d0;go_wp2_with fail
      go_region
      clear d0 hl
      all_goals (obtain ⟨wq,hwq⟩:∃ wq,wq=wr.drew:=⟨_,rfl⟩)
      all_goals rw [←hwq]
      all_goals have hvq:Below w.heap.size w wq:=by rw [hwq];exact hv.drew
      all_goals have hBq:Blk wq w.heap.size 100 (cL x):=by rw [hwq];exact hB.below (Below.refl _ _).drew
      all_goals clear hwq hv hB x0
      all_goals by_cases hkn:j + 1=c
      · subst hkn;obtain rfl:n=j + 1:=by omega
        go_wp2_with (at_builtin;first
         | (refine xF _ rfl _ _ 28 100 rfl i0 _ 6 56 Tryz.underlying28 hi0 hz0 hz1 hz2 rfl (by omega) w.heap.size (some ⟨wq.heap.size,0,none⟩) 0 0 [] rfl (zG wq w.heap.size _ _ hvq.size) (some ⟨g,0,none⟩) (j + 1) (j + 1) (zd Last.cells (xs.take (j + 1))) rfl (hA1.out _ (zc hvq _)) l1.out (wi _) (by unfold maxLen;omega) (by omega) (by rw [World.size_alloc];have:=hvq.size;omega) ?_;intro A2 c2 w2 hown2 hg2;simp only [Nat.zero_add,List.nil_append] at hown2;have hv2:=zh (zc hvq _) hg2 (zl (zG wq w.heap.size 100 6 hvq.size));have hX2:Blk w2 w.heap.size 100 (cL x):=Blk.grown (hBq.alloc _) hg2 (by have:=hBq.lt;simp [Value.ownBlock];omega);have x0:w2.cell? ⟨w.heap.size,0,none⟩=some (.string x.name):=hX2.cell 0;have x1:w2.cell? ⟨w.heap.size,1,none⟩=some (.int .i64 x.length):=hX2.cell 1;have x2:w2.cell? ⟨w.heap.size,2,none⟩=some (.int .i64 x.b):=hX2.cell 2;have x3:w2.cell? ⟨w.heap.size,3,none⟩=some (.int .i64 x.i):=hX2.cell 3;have x4:w2.cell? ⟨w.heap.size,4,none⟩=some (.int .i64 x.h):=hX2.cell 4;have x5:w2.cell? ⟨w.heap.size,5,none⟩=some (.int .i64 x.p):=hX2.cell 5)
         | (refine xp w2 (cL x) rfl _ _ 28 100 rfl i0 _ 6 56 Tryz.underlying28 hi0 hz0 hz1 hz2 rfl (by omega) w.heap.size (.slice A2 (j + 1) c2) (j + 1) _ rfl rfl hown2 rfl (by simp [Value.oneCell']) (by unfold maxLen;omega) (by omega) hv2.size ?_;intro A4 c4 w4 hown4 hg4;have hv4:=zh hv2 hg4 (zl hown2))
         | (refine xF _ rfl _ _ 28 100 rfl i0 _ 6 56 Tryz.underlying28 hi0 hz0 hz1 hz2 rfl (by omega) w.heap.size A4 ((j + 1) + 1) c4 _ rfl hown4 _ 0 _ (zd Last.cells (xs.drop (j + 1))) rfl (hA3.out rfl _ hv4) (by first | exact l2.out | (rw [l2.out];simp)) (wi _) (by unfold maxLen;omega) (by omega) hv4.size ?_;intro A6 c6 w6 hown6 hg6))
        go_returns;exact OutL.ofN (uJ HO.out HQ.out HH.out (by rw [hn.out];exact hf)) (by rw [wY _ _ _ (va _ _),hn.out];first | done | omega) (by
         rw [vV,←hkk.out,←List.append_assoc];exact hown6) (zh hv4 hg6 (zl hown4))
      · have hkn2:¬ c=j + 1:=fun e=>hkn e.symm;go_wp2_with (at_builtin;first
         | (refine xF _ rfl _ _ 28 100 rfl i0 _ 6 56 Tryz.underlying28 hi0 hz0 hz1 hz2 rfl (by omega) w.heap.size (some ⟨wq.heap.size,0,none⟩) 0 0 [] rfl (zG wq w.heap.size _ _ hvq.size) (some ⟨g,0,none⟩) (j + 1) c (zd Last.cells (xs.take (j + 1))) rfl (hA1.out _ (zc hvq _)) l1.out (wi _) (by unfold maxLen;omega) (by omega) (by rw [World.size_alloc];have:=hvq.size;omega) ?_;intro A2 c2 w2 hown2 hg2;simp only [Nat.zero_add,List.nil_append] at hown2;have hv2:=zh (zc hvq _) hg2 (zl (zG wq w.heap.size 100 6 hvq.size));have hX2:Blk w2 w.heap.size 100 (cL x):=Blk.grown (hBq.alloc _) hg2 (by have:=hBq.lt;simp [Value.ownBlock];omega);have x0:w2.cell? ⟨w.heap.size,0,none⟩=some (.string x.name):=hX2.cell 0;have x1:w2.cell? ⟨w.heap.size,1,none⟩=some (.int .i64 x.length):=hX2.cell 1;have x2:w2.cell? ⟨w.heap.size,2,none⟩=some (.int .i64 x.b):=hX2.cell 2;have x3:w2.cell? ⟨w.heap.size,3,none⟩=some (.int .i64 x.i):=hX2.cell 3;have x4:w2.cell? ⟨w.heap.size,4,none⟩=some (.int .i64 x.h):=hX2.cell 4;have x5:w2.cell? ⟨w.heap.size,5,none⟩=some (.int .i64 x.p):=hX2.cell 5)
         | (refine xp w2 (cL x) rfl _ _ 28 100 rfl i0 _ 6 56 Tryz.underlying28 hi0 hz0 hz1 hz2 rfl (by omega) w.heap.size (.slice A2 (j + 1) c2) (j + 1) _ rfl rfl hown2 rfl (by simp [Value.oneCell']) (by unfold maxLen;omega) (by omega) hv2.size ?_;intro A4 c4 w4 hown4 hg4;have hv4:=zh hv2 hg4 (zl hown2))
         | (refine xF _ rfl _ _ 28 100 rfl i0 _ 6 56 Tryz.underlying28 hi0 hz0 hz1 hz2 rfl (by omega) w.heap.size A4 ((j + 1) + 1) c4 _ rfl hown4 _ (n - (j + 1)) _ (zd Last.cells (xs.drop (j + 1))) rfl (hA2.out _ hv4) (by first | exact l2.out | (rw [l2.out];simp)) (wi _) (by unfold maxLen;omega) (by omega) hv4.size ?_;intro A6 c6 w6 hown6 hg6))
        go_returns;exact OutL.ofN (uJ HO.out HQ.out HH.out (by rw [hn.out];exact hf)) (by rw [wY _ _ _ (va _ _),hn.out];first | done | omega) (by
         rw [vV,←hkk.out,←List.append_assoc];exact hown6) (zh hv4 hg6 (zl hown4))
theorem fh {base:Nat} (A:Option Addr) (xs:List Last) (n c:Nat) (x:Last) (hn:Hid (xs.length=n)) (hm:(n:Int)≤1048576) (hs:Hid (∀ x ∈ xs,x.name.size≤9223372036854775807)) (hsx:x.name.size≤9223372036854775807) (w:World) (hO:w.ownsRow base 100 6 (.slice A n c) n (zd Last.cells xs)) :
 Calls Tryz.prog 171 #[.slice A n c,.agg #[.string x.name,.int .i64 x.length,.int .i64 x.b,.int .i64 x.i,.int .i64 x.h,.int .i64 x.p]] w (OutL 100 6 (yO xs x).1.length (zd Last.cells (yO xs x).1) (yO xs x).2 w):=by
 rcases hO.2 with ⟨hv,hz⟩ | ⟨g,cap,cur,hv,hg,hr⟩
 · injection hv with e1 e2 e3;subst e1;exact jw xs n c x hn e2 hs hsx w (Arr.own hO)
 · injection hv with e1 e2 e3;subst e1;exact jx g xs n c (by obtain ⟨_,_,e1,h1,_⟩:=xT hO;injection e1 with _ _ e3;omega) x hn hm hs hsx w (Arr.own hO)
end Go.Proofs.YtpiehlfffjhoaaaGreatDoor
