/- Lemmas for the law on the console: the parts CrH,CrF,CrQ. -/
import Derived.Test.YtpiehlfffjhoaaaGreatDoorQ1
import Derived.Test.YtpiehlfffjhoaaaGreatDoorQ0
import Derived.Test.YtpiehlfffjhoaaaGreatDoorQ34
import Derived.Test.YtpiehlfffjhoaaaGreatDoorQ28
import Derived.Test.YtpiehlfffjhoaaaGreatDoorQ11
import Derived.Test.YtpiehlfffjhoaaaGreatDoorQ21
namespace Go.Proofs.YtpiehlfffjhoaaaGreatDoor
open Go.RowKit
set_option maxRecDepth 100000
set_option maxHeartbeats 8000000
theorem uU {w:World} {base e size n c:Nat} {A:Option Addr} {cs:List Value} (h:w.ownsRow base e size (.slice A n c) n cs):∀ a,A=some a→base≤a.block:=fun a e=>zl h _ (rN h a e)
theorem kQ {w:World} {base e size n c:Nat} {A:Option Addr} {cs:List Value} (h:w.ownsRow base e size (.slice A n c) n cs):∀ a,A=some a→a.block < w.heap.size:=fun a e=>yw h _ (rN h a e)
theorem vz (p:Value) (w:World):Calls Tryz.prog 41 #[p,.int .i64 0] w (RetQ (.bool false) w):=by
 go_enter Tryz.func41,Tryz.ntmps41;go_wp2_with fail;go_returns;exact RetQ.mk rfl
theorem SR.lasts {w0 w:World} {g:Nat} {d:Dk} {O:List ByteArray} {ns:List Int} {ts:List ByteArray} {A Ao An At A2:Option Addr} {n c no co kn cn kt ct n2 c2:Nat} (h:SR w0 w g d O ns ts A Ao An At n c no co kn cn kt ct) {ys:List Last} (hn2:ys.length=n2)
 (ho:w.ownsRow w0.heap.size 100 6 (.slice A2 n2 c2) n2 (zd Last.cells ys)) (h2g:∀ ad,A2=some ad→ad.block≠g) (h2o:∀ a o,A2=some a→Ao=some o→a.block≠o.block) (h2n:∀ a o,A2=some a→An=some o→a.block≠o.block) (h2t:∀ a o,A2=some a→At=some o→a.block≠o.block) :
 SR w0 (w.setCell ⟨g,4,none⟩ (.slice A2 n2 c2)) g ⟨d.f,ys,d.s,d.lg⟩ O ns ts A2 Ao An At n2 c2 no co kn cn kt ct:=by
 have hsz:(w.setCell ⟨g,4,none⟩ (.slice A2 n2 c2)).heap.size=w.heap.size:=World.size_setCell _ _ _;have hg:=xh w g 4 (.slice A2 n2 c2);have far:∀ {E size m:Nat} {B:Option Addr} {q:Nat} {cs:List Value},w.ownsRow w0.heap.size E size (.slice B m q) m cs→(∀ ad,B=some ad→ad.block≠g)→(w.setCell ⟨g,4,none⟩ (.slice A2 n2 c2)).ownsRow w0.heap.size E size (.slice B m q) m cs:=fun {E size m B q cs} hb h1=>xm hb (p:=⟨g,4,none⟩) (fun p e=>by
  cases B with
  | none=>cases e
  | some ad=>injection e with e;subst e;exact h1 ad rfl) _
 have lt:∀ {B:Option Addr},(∀ ad,B=some ad→ad.block≠g∧ad.block < w.heap.size)→∀ ad,B=some ad→ad.block≠g∧ad.block < (w.setCell ⟨g,4,none⟩ (.slice A2 n2 c2)).heap.size:=fun hB ad e=>⟨(hB ad e).1,by rw [hsz];exact (hB ad e).2⟩
 exact ⟨h.blk.set_ 4 _,hn2,h.ho,h.hk,h.ht,far ho h2g,far h.out (fun ad e=>(h.og ad e).1),h.nums.grown hg (fun ad e e2=>by injection e2 with e2;exact (h.ng ad e).1 e2),h.texts.grown hg (fun ad e e2=>by injection e2 with e2;exact (h.tg ad e).1 e2),
  fun ad e=>⟨h2g ad e,by rw [hsz];exact kQ ho ad e⟩,lt h.og,lt h.ng,lt h.tg,h2o,h.no_,h.to_,zZ h.bel (p:=⟨g,4,none⟩) (.inl rfl) _,h2n,h2t⟩
theorem zaO (w0 w:World) (g:Nat) (d:Dk) (O:List ByteArray) (ns:List Int) (ts:List ByteArray) (A Ao An At:Option Addr) (n c no co kn cn kt ct:Nat) (t:ByteArray) (h:SR w0 w g d O ns ts A Ao An At n c no co kn cn kt ct) (hno:no≤900000) (hd:d.ok=true) (ht:ts[0]?=some t) (htz:t.size≤4194304) :
 Calls Tryz.prog 104 #[.pointer (some ⟨g,0,none⟩)] w (vg w0 g (xt d t).1 (O ++ wO (xt d t)) ns ts w (.tuple #[])):=by
 obtain ⟨ad,hAt,hcol,d0⟩:=zj h.texts ht;subst hAt;have d1:w.cell? ad=some (.string t):=by rw [←show ad.add 0=ad from by unfold Addr.add;split <;> simp_all];exact d0
 have hkt:0 < kt:=by rw [←h.ht];exact (List.getElem?_eq_some_iff.1 ht).1
 have c17:w.cell? ⟨g,17,none⟩=some (.slice (some ad) kt ct):=h.blk.cell 17;obtain ⟨hfB,hlB,hsB,hcB⟩:=ym hd;have HFB:=qH hfB;have hn30:n≤30:=by rw [←h.hn];exact wg hlB
 have HNZ:Hid (∀ x ∈ d.xs,x.name.size≤9223372036854775807):=qH (fun x hx=>Nat.le_trans (yB (yV hlB x hx)) (by omega));have HRF:=fun w=>jB t htz w;have HSO:=qH (fun x (h:wc t=some x)=>(lp h).2);have HNO:=qH (fun (h:wc t=none)=>(show xt d t=(d,[],7) by unfold xt;rw [h];rfl));have HYE:=qH (fun x (h:wc t=some x)=>(show xt d t=if (yO d.xs x).2=0 then (⟨d.f,(yO d.xs x).1,d.s,d.lg⟩,[uW d.f (yO d.xs x).1.length],0) else (d,[],(yO d.xs x).2) by unfold xt;rw [h];rfl));obtain ⟨o,ho⟩:=zN (wc t);rw [←ho] at HRF HSO HNO HYE;replace HRF:=qH HRF;have H:=qH h;have HN:=qH h.hn;clear ho h hfB hlB hsB hcB hd;go_enter Tryz.func104,Tryz.ntmps104;go_wp2_with fail;refine qS (HRF.out _) fun W2 hb=>?_;have HR2:=qH (H.out.below hb);obtain ⟨gz,hgz⟩:=zN W2.heap.size;obtain ⟨W3,hW3⟩:=zN (W2.alloc (Obj.cells cM 100));have HB0:Hid (Blk W3 gz 100 cM):=qH (by rw [hW3,hgz];exact Blk.new _ _ _);have hb3:Below W2.heap.size W2 W3:=by rw [hW3];exact zc (Below.refl _ _) _
 have hgne:g < gz:=by have:=HR2.out.blk.lt;omega
 have hz2:=hb.size;have hgz2:W2.heap.size≤gz:=by omega
 clear d0 d1 hcol c17;have HG:=qH hgz;have HW:=qH hW3;have HZ2:=qH hz2;clear hgz hW3 hz2 hb;cases o with
 | none=>
   rw [show vm none=#[.agg #[.string ⟨#[]⟩,.int .i64 0,.int .i64 0,.int .i64 0,.int .i64 0,.int .i64 0],.bool false] from rfl];have HE:=qH (HNO.out rfl);go_wp2_with (first
    | (rw [←HW.out,←HG.out];refine yS gz cM HB0.out ?_))
   have HS4:=qH (HR2.out.below (zg hb3 hgz2 cM));have hb4:=(zg hb3 hgz2 cM).size;obtain ⟨W4,hW4⟩:=zN (World.setRow W3 gz cM);rw [←hW4] at HS4 hb4 ⊢;clear hW4;refine (yI w0 W4 g d O ns ts A Ao An (some ad) n c no co kn cn kt ct HS4.out (by omega) 7).mono ?_;rintro e W5 ⟨rfl,hz5,hr5⟩;go_wp2_with fail;go_returns;have hz2:=HZ2.out;rw [HE.out];exact ⟨rfl,by omega,hr5⟩
 | some x=>
   rw [show vm (some x)=#[.agg #[.string x.name,.int .i64 x.length,.int .i64 x.b,.int .i64 x.i,.int .i64 x.h,.int .i64 x.p],.bool true] from rfl];have HXB:=qH (HSO.out x rfl);have hxz:x.name.size≤9223372036854775807:=Nat.le_trans (yB HXB.out) (by omega);have HE:=qH (HYE.out x rfl);clear HSO HNO HYE HRF;have HAL:=fun {b:Nat} w h=>fh (base:=b) A d.xs n c x HN (by omega) HNZ hxz w h;have hap:=lV d.xs x;obtain ⟨ys,hys⟩:=zN ((yO d.xs x).1);obtain ⟨cc,hco⟩:=zN ((yO d.xs x).2);rw [←hys] at HAL HE hap;rw [←hco] at HAL HE;clear hys hco;obtain ⟨n2,hn2⟩:=zN ys.length;rw [←hn2] at HAL hap HE;have HN2:Hid (ys.length=n2):=qH hn2.symm;clear hn2;replace HAL:=fun w h=>qH (@HAL w0.heap.size w h);have HALH:=qH HAL;clear HAL;go_upto_region 3 with (rw [←HW.out,←HG.out];refine yS gz (cL x) HB0.out ?_)
   have HF4:Hid (Blk (World.setRow W3 gz (cL x)) gz 100 (cL x)):=qH (setRow_heap _ _ _ _ _ _ HB0.out);have HS4:=qH (HR2.out.below (zg hb3 hgz2 (cL x)));have HZ4:=qH (zg hb3 hgz2 (cL x)).size;obtain ⟨W4,hW4⟩:=zN (World.setRow W3 gz (cL x));rw [←hW4] at HF4 HS4 HZ4 ⊢;clear hW4;obtain ⟨m0,m1,m2,m3,m4,m5⟩:=qC6 HF4.out;have c4:W4.cell? ⟨g,4,none⟩=some (.slice A n c):=HS4.out.blk.cell 4;refine zH (fun w'=>Below W4.heap.size W4 w'∧True) ?_ (fun hHeld=>?_)
   · exact ⟨(Below.refl _ _).drew,trivial⟩
   have hd9:=hHeld.1;refine zU 0 21 ?_;refine zU 1 22 ?_;refine zU 2 23 ?_;refine zU 3 24 ?_;refine zT 4 25 rfl (fun w hSw=>by
    have x_c4:=zb hSw.1 c4;go_simp;try with_reducible rfl) ?_
   refine zT 5 26 rfl (fun w hSw=>by
    have x_m0:=zb hSw.1 m0;have x_m1:=zb hSw.1 m1;have x_m2:=zb hSw.1 m2;have x_m3:=zb hSw.1 m3;have x_m4:=zb hSw.1 m4;have x_m5:=zb hSw.1 m5;go_simp;try with_reducible rfl) ?_
   refine zR 6 (some 27) rfl (fun K hK=>?_);go_simp;go_split_ands;refine ((HALH.out _ (ze HS4.out.own hd9)).out).mono ?_;rintro e V ⟨A2,c2,rfl,hown,hb9⟩;have hown2:=yT hown hd9.size;replace hd9:=za hd9 hb9;clear hb9 hown;go_wp2_with fail;refine zK hK ⟨hd9,trivial⟩ (fun hHeld=>?_);clear hK K;refine zU 7 20 ?_;refine zU 8 28 ?_;refine zU 9 29 ?_;refine zU 10 4 ?_;refine zU 11 5 ?_;refine zD ?_;clear hHeld c4 m0 m1 m2 m3 m4 m5 HALH;have HSV:=qH (HS4.out.below hd9);have HO2:=qH (yT hown2 HS4.out.bel.size);have h2g:Hid (∀ ad,A2=some ad→ad.block≠g):=qH (fun ad e=>by have:=uU hown2 ad e;have:=HS4.out.blk.lt;omega);have h2o:Hid (∀ a o,A2=some a→Ao=some o→a.block≠o.block):=qH (fun a o e1 e2=>by have:=uU hown2 a e1;have:=(HS4.out.og o e2).2;omega);have h2n:Hid (∀ a o,A2=some a→An=some o→a.block≠o.block):=qH (fun a o e1 e2=>by have:=uU hown2 a e1;have:=(HS4.out.ng o e2).2;omega);have h2t:Hid (∀ a o,A2=some a→some ad=some o→a.block≠o.block):=qH (fun a o e1 e2=>by have:=uU hown2 a e1;have:=(HS4.out.tg o e2).2;omega);have HZV:=qH hd9.size;clear hown2 hd9 HS4;by_cases hc:cc=0
   case neg=>
    rw [if_neg hc] at HE;have HRP:=qH (yI w0 V g d O ns ts A Ao An (some ad) n c no co kn cn kt ct HSV.out (by omega) cc);rw [if_neg hc,decide_eq_true hc] at HRP;have HCC:=qH hc;clear hc;go_wp2_with fail;refine HRP.out.mono ?_;rintro e W5 ⟨rfl,hz5,hr5⟩;go_wp2_with fail;go_returns;have hz2:=HZ2.out;have hz4:=HZ4.out;have hzv:=HZV.out;rw [HE.out,show wO (d,[],cc)=[xw cc] from if_neg HCC.out];exact ⟨rfl,by omega,hr5⟩
   subst hc;rw [if_pos rfl] at HE;have HR0:=qH (vz (.pointer (some ⟨g,0,none⟩)) V);have c4:V.cell? ⟨g,4,none⟩=some (.slice A n c):=HSV.out.blk.cell 4;have f4:V.frozen? ⟨g,4,none⟩=false:=HSV.out.blk.frozen 4;have HS5:=qH (HSV.out.lasts HN2.out HO2.out h2g.out h2o.out h2n.out h2t.out);have hz5:(V.setCell ⟨g,4,none⟩ (.slice A2 n2 c2)).heap.size=V.heap.size:=World.size_setCell _ _ _;go_wp2_with fail;refine HR0.out.mono ?_;rintro e V' ⟨rfl,rfl⟩;go_upto_region 6 with fail;obtain ⟨V2,hV2⟩:=zN (V'.setCell ⟨g,4,none⟩ (.slice A2 n2 c2));rw [←hV2] at HS5 hz5 ⊢;have HZ5:=qH hz5;clear hV2 f4 c4 HSV HO2 hz5;have HDT:=qH (fW d.f A2 n2 c2 HFB (by omega) g V2 (HS5.out.blk.cell 0) (HS5.out.blk.cell 1) (HS5.out.blk.cell 2) (HS5.out.blk.cell 3) (HS5.out.blk.cell 4));go_wp2_with fail;refine qS HDT.out fun W6 hb6=>?_;have HS6:=qH (HS5.out.below hb6);have HZ6:=qH hb6.size;clear hb6 HS5 HDT;go_wp2_with fail;refine (tQ w0 W6 g _ O ns ts A2 Ao An (some ad) n2 c2 no co kn cn kt ct HS6.out (by omega) (uW d.f n2)).mono ?_;rintro e W7 ⟨rfl,hz7,hr7⟩;go_wp2_with fail;go_returns;have hz2:=HZ2.out;have hz4:=HZ4.out;have hzv:=HZV.out;have hz5:=HZ5.out;have hz6:=HZ6.out;rw [HE.out];exact ⟨rfl,by omega,hr7⟩
def uh (L:List ByteArray):ByteArray:=yA ⟨#[59,32]⟩ (L.filter fun y=>!decide (y.size=0))
theorem zbI {L:List ByteArray} {y:ByteArray} (h:y.size=0):uh (L ++ [y])=uh L:=by
 unfold uh;rw [List.filter_append];simp only [List.filter_cons,List.filter_nil,decide_eq_true h,Bool.not_true,Bool.false_eq_true,if_false,List.append_nil]
theorem zbJ {L:List ByteArray} {y:ByteArray} (h:y.size≠0) (h1:(uh L).size=0):uh (L ++ [y])=uh L ++ y:=by
 unfold uh at h1 ⊢;rw [List.filter_append];simp only [List.filter_cons,List.filter_nil,decide_eq_false h,Bool.not_false,if_true];have hm:∀ z ∈ L.filter (fun y=>!decide (y.size=0)),z.size≠0:=fun z hz=>by simpa using (List.mem_filter.1 hz).2
 generalize L.filter (fun y=>!decide (y.size=0))=M at h1 hm ⊢;cases M with
 | nil=>rw [List.nil_append,ry];apply ByteArray.ext;simp [yA,Lib.join_nil]
 | cons a r=>
   have ha:=hm a (by simp);have:(yA ⟨#[59,32]⟩ (a :: r)).size=a.size + (Lib.joinTail [59,32] (r.map (·.data.toList))).length:=by
    rw [←zv];unfold yA;simp [Lib.join_cons]
   omega
theorem zbK {L:List ByteArray} {y:ByteArray} (h:y.size≠0) (h1:(uh L).size≠0):uh (L ++ [y])=(uh L ++ ⟨#[59,32]⟩) ++ y:=by
 unfold uh at h1 ⊢;rw [List.filter_append];simp only [List.filter_cons,List.filter_nil,decide_eq_false h,Bool.not_false,if_true];generalize L.filter (fun y=>!decide (y.size=0))=M at h1 ⊢;cases M with
 | nil=>exact absurd rfl h1
 | cons a r=>exact qs _ _ _ _
theorem kx:∀ L:List ByteArray,L.flatMap wm=L.filter fun y=>!decide (y.size=0)
 | []=>rfl
 | y :: r=>by
   rw [List.flatMap_cons,kx r,List.filter_cons];unfold wm;by_cases h:y.size=0
   · rw [if_pos h,decide_eq_true h];rfl
   · rw [if_neg h,decide_eq_false h];rfl
theorem zat (x:Style):xQ x=uh (xB x):=by
 unfold xQ vc uh yA;rw [kx];rfl
theorem zaQ {x:Style} (hx:xb x=true):∀ t ∈ xB x,t.size≤31:=by
 obtain ⟨h0,h1,h2,h3,h4,h5⟩:=ly hx;intro t ht;simp only [xB,List.mem_cons,List.not_mem_nil,or_false] at ht;rcases ht with rfl | rfl | rfl | rfl | rfl | rfl <;> omega
theorem nA (x:Style) (hx:Hid (xb x=true)) (g:Nat) (w:World) (hB:Blk w g 30 (cS x)):Calls Tryz.prog 162 #[.pointer (some ⟨g,0,none⟩)] w (Ret (.string (xQ x)) w):=by
 rw [zat];have HC:=fV x (qH (rj hx.out)) g w hB;unfold lM at HC;have HZ:=qH (zaQ hx.out);obtain ⟨TS,hTS⟩:=zN (xB x);have hl6:TS.length=6:=by rw [hTS];rfl
 rw [←hTS] at HC HZ ⊢;replace HC:=qH HC;have HL6:=qH hl6;clear hTS hl6 hB hx;go_enter Tryz.func162,Tryz.ntmps162;go_wp2_with fail;refine HC.out.mono ?_;rintro e W ⟨gl,rfl,_,hT,hv⟩;have HT:=qH hT;clear hT HC;go_wp2_with fail
 go_loopw [4,5] (fun v i wr=>∃ (j:Nat) (t:ByteArray),j≤6∧i=.int .i64 j∧v=.string t∧Hid (t=uh (TS.take j))∧t.size≤40 * j∧Below W.heap.size W wr) (fun _ i _=>6 - (intOf i).toNat)
 case atStart=>exact ⟨0,⟨#[]⟩,by omega,rfl,rfl,qH rfl,by decide,Below.refl _ _⟩
 case round=>
 obtain ⟨j,t,hj,rfl,rfl,HA,htz,hbel⟩:=hrel;have hj0:(0:Int)≤(j:Int):=by omega
 by_cases hlt:j < 6
 case neg=>
  have hj1:¬ (j:Int) < 6:=by omega
  have e9:t=uh TS:=by rw [HA.out,List.take_of_length_le (by rw [HL6.out];omega)]
  have HE9:=qH e9;clear e9;go_wp2_with fail;go_returns;exact Ret.mk (show Value.string t=Value.string (uh TS) from by rw [←HE9.out]) (za hv hbel)
 case pos=>
 have hj1:(j:Int) < 6:=by omega
 obtain ⟨y,hy⟩:=zx (xs:=TS) (k:=j) (by rw [HL6.out];exact hlt);have c0:wr.cell? ⟨gl,j,none⟩=some (.string y):=by
  rw [(HT.out.below hbel).cell j];simp [hy]
 have hyz:=HZ.out y (List.mem_of_getElem? hy);have l2:(⟨#[59,32]⟩:ByteArray).size=2:=rfl;have hE:=xH y;have hE2:(y.toList == [])=decide (y.size=0):=by rw [←hE];cases y.toList <;> rfl
 have hF:=xH t;have HTK:=qH (yD hy);clear hy;by_cases h0:y.size=0
 · have HN:=qH (zbI (L:=TS.take j) h0);rw [decide_eq_true h0] at hE hE2;clear h0;go_wp2_with fail;exact ⟨⟨j + 1,t,by omega,by go_num,rfl,qH (by rw [HTK.out,HN.out];exact HA.out),by omega,hbel⟩,by simp [intOf];omega⟩
 · have HN1:=qH (zbJ (L:=TS.take j) h0);have HN2:=qH (zbK (L:=TS.take j) h0);rw [←HA.out] at HN1 HN2;rw [decide_eq_false h0] at hE hE2;clear h0;by_cases h1:t.size=0
   · have HN:=qH (HN1.out h1);rw [decide_eq_true h1] at hF;have a0:=fun (w:World)=>run_string_add_sum (P:=Tryz.prog) w t y (by omega);go_wp2_with fail;exact ⟨⟨j + 1,t ++ y,by omega,by go_num,rfl,qH (by rw [HTK.out,HN.out]),by rw [zu];omega,hbel⟩,by simp [intOf];omega⟩
   · have HN:=qH (HN2.out h1);rw [decide_eq_false h1] at hF;have a0:=fun (w:World)=>run_string_add_sum (P:=Tryz.prog) w t ⟨#[59,32]⟩ (by omega);have a1:=fun (w:World)=>run_string_add_sum (P:=Tryz.prog) w (t ++ ⟨#[59,32]⟩) y (by rw [zu];omega);go_wp2_with fail;exact ⟨⟨j + 1,t ++ ⟨#[59,32]⟩ ++ y,by omega,by go_num,rfl,qH (by rw [HTK.out,HN.out]),by simp only [zu];omega,hbel⟩,by simp [intOf];omega⟩
def vJ (SN:List ByteArray):List Value:=styW.map fun t=>Value.bool (xa t SN)
theorem pz (t u:ByteArray) (SN:List ByteArray):xa t (SN ++ [u])=(xa t SN || decide (u=t)):=by
 unfold xa;rw [List.any_append];simp
theorem mq (t:ByteArray):(yg t = -1∧∀ u ∈ styW,t≠u)∨∃ k:Nat,k < 6∧yg t=(k:Int)∧styW[k]?=some t:=by
 unfold yg;by_cases h0:t=wUpper
 · exact .inr ⟨0,by omega,by rw [if_pos h0];rfl,by rw [h0];rfl⟩
 rw [if_neg h0];by_cases h1:t=wLining
 · exact .inr ⟨1,by omega,by rw [if_pos h1];rfl,by rw [h1];rfl⟩
 rw [if_neg h1];by_cases h2:t=wSole
 · exact .inr ⟨2,by omega,by rw [if_pos h2];rfl,by rw [h2];rfl⟩
 rw [if_neg h2];by_cases h3:t=wHeel
 · exact .inr ⟨3,by omega,by rw [if_pos h3];rfl,by rw [h3];rfl⟩
 rw [if_neg h3];by_cases h4:t=wEyelets
 · exact .inr ⟨4,by omega,by rw [if_pos h4];rfl,by rw [h4];rfl⟩
 rw [if_neg h4];by_cases h5:t=wStitch
 · exact .inr ⟨5,by omega,by rw [if_pos h5];rfl,by rw [h5];rfl⟩
 rw [if_neg h5];refine .inl ⟨rfl,fun u hu=>?_⟩;simp only [styW,List.mem_cons,List.not_mem_nil,or_false] at hu;rcases hu with rfl | rfl | rfl | rfl | rfl | rfl <;> assumption
theorem qL {t:ByteArray} {k:Nat} (SN:List ByteArray) (h:styW[k]?=some t):(vJ SN)[k]?=some (.bool (xa t SN)):=by
 unfold vJ;rw [List.getElem?_map,h];rfl
theorem nR {t:ByteArray} (SN:List ByteArray) (h:∀ u ∈ styW,t≠u):vJ (SN ++ [t])=vJ SN:=by
 unfold vJ;refine List.map_congr_left fun u hu=>?_;rw [pz,decide_eq_false (h u hu),Bool.or_false]
theorem cV {t:ByteArray} {k:Nat} (SN:List ByteArray) (h:styW[k]?=some t):vJ (SN ++ [t])=(vJ SN).set k (Value.bool true):=by
 have hne:∀ j u,styW[j]?=some u→j≠k→t≠u:=by
  have hk:k < 6:=(List.getElem?_eq_some_iff.1 h).1;intro j u hu hj;have hj6:j < 6:=(List.getElem?_eq_some_iff.1 hu).1;have hkk:k=0∨k=1∨k=2∨k=3∨k=4∨k=5:=by omega
  have hjj:j=0∨j=1∨j=2∨j=3∨j=4∨j=5:=by omega
  rcases hkk with rfl | rfl | rfl | rfl | rfl | rfl <;> rcases hjj with rfl | rfl | rfl | rfl | rfl | rfl <;> first | exact absurd rfl hj | (injection h with h;injection hu with hu;subst h;subst hu;decide)
 refine List.ext_getElem? fun j=>?_;rw [List.getElem?_set];have hl:(vJ SN).length=6:=rfl;by_cases hjk:k=j
 · subst hjk;have hk:k < 6:=(List.getElem?_eq_some_iff.1 h).1;rw [if_pos rfl,if_pos (by rw [hl];exact hk),qL _ h,pz,decide_eq_true rfl,Bool.or_true]
 · rw [if_neg hjk];cases hs:styW[j]? with
   | none=>unfold vJ;rw [List.getElem?_map,List.getElem?_map,hs];rfl
   | some u=>rw [qL _ hs,qL _ hs,pz,decide_eq_false (hne j u hs (fun e=>hjk e.symm)),Bool.or_false]
theorem cC {w:List ByteArray} (h:zE w=0):∃ k:Nat,k < 6∧yg (w.headD ⟨#[]⟩)=(k:Int):=by
 cases w with
 | nil=>exact absurd (show (1:Int)=0 from h) (by decide)
 | cons t r=>
   rcases mq t with ⟨h1,_⟩ | ⟨k,hk,h2,_⟩
   · simp only [zE,h1] at h;simp at h
   · exact ⟨k,hk,h2⟩
end Go.Proofs.YtpiehlfffjhoaaaGreatDoor
