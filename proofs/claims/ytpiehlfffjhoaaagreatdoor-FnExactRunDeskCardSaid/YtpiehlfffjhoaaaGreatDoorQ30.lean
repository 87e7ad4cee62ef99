/- Lemmas for the law on the console: the parts CoJ,CoK. -/
import Derived.Test.YtpiehlfffjhoaaaGreatDoorQ1
import Derived.Test.YtpiehlfffjhoaaaGreatDoorQ0
import Derived.Test.YtpiehlfffjhoaaaGreatDoorQ26
import Derived.Test.YtpiehlfffjhoaaaGreatDoorQ29
import Derived.Deep.CutBlock
import Derived.Deep.DeepCutAuto
import Derived.Test.YtpiehlfffjhoaaaGreatDoorQ24
import Derived.Test.YtpiehlfffjhoaaaGreatDoorQ18
namespace Go.Proofs.YtpiehlfffjhoaaaGreatDoor
open Go.RowKit
set_option maxRecDepth 100000
set_option maxHeartbeats 8000000
theorem qQ {g n c base e size:Nat}:∀ (vs cs:List Value) (o:Nat) (w:World),w.ownsRow base e size (.slice (some ⟨g,0,none⟩) n c) n cs→(w.setCells g o vs).ownsRow base e size (.slice (some ⟨g,0,none⟩) n c) n (uQ cs o vs):=by
 intro vs
 induction vs with
 | nil=>intro cs o w h;exact h
 | cons v r ih=>
   intro cs o w h;exact ih _ _ _ (h.stored o v).1
theorem ky {xs:List Last} {k:Nat} {y:Last} (hk:k < xs.length):uQ (zd Last.cells xs) (k * 6) y.cells=zd Last.cells (xs.set k y):=by
 have hl:(zd Last.cells xs).length=xs.length * 6:=xe Last.cells_length xs;have hy:y.cells.length=6:=Last.cells_length y;have key:∀ (xs:List Last) (k:Nat),k < xs.length→(zd Last.cells xs).take (k * 6) ++ y.cells ++ (zd Last.cells xs).drop (k * 6 + 6)=zd Last.cells (xs.set k y):=by
  intro xs
  induction xs with
  | nil=>intro k h;simp at h
  | cons x r ih=>
    intro k h;cases k with
    | zero=>
      have hx:x.cells.length=6:=Last.cells_length x;simp [zd,hx]
    | succ k=>
      have hx:x.cells.length=6:=Last.cells_length x;have h1:=ih k (by simpa using h);have e1:zd Last.cells (x :: r)=x.cells ++ zd Last.cells r:=by simp [zd]
      rw [e1,List.set_cons_succ];have e2:zd Last.cells (x :: r.set k y)=x.cells ++ zd Last.cells (r.set k y):=by simp [zd]
      rw [e2,←h1];have e3:(k + 1) * 6=x.cells.length + k * 6:=by omega
      have e4:(k + 1) * 6 + 6=x.cells.length + (k * 6 + 6):=by omega
      rw [e4,e3,List.take_length_add_append,List.drop_length_add_append];simp [List.append_assoc]
 rw [ew _ _ _ (by rw [hl,hy];omega),hy];exact key xs k hk
theorem lf {w:World} {base e n c g o m:Nat} {cs:List Value} {size:Nat} (h:w.ownsRow base e size (.slice (some ⟨g,0,none⟩) n c) n cs) (hm:o + m≤n * size):w.there g o m:=by
 rcases h.2 with ⟨hv,_⟩ | ⟨g',cap,cur,hv,_,hg,hnc,_,hcs,_⟩
 · cases hv
 · simp only [Value.slice.injEq,Option.some.injEq,Addr.mk.injEq,and_true] at hv;obtain ⟨rfl,_,rfl⟩:=hv;have hle:n * size≤c * size:=Nat.mul_le_mul_right _ hnc;exact vS (cs:=cur) hg (by rw [hcs];omega)
theorem dj (w0 w:World) (gd ga:Nat) (f:Foot) (xs:List Last) (s:Style) (lg:ByteArray) (n c:Nat) (A An:Option Addr) (ws:List ByteArray) (ns:List Int) (nw kn cn:Nat) (h:XIn w0 w gd ga f xs s lg n c A An ws ns nw kn) (hk:zf ws 0=zI) (_h2:2≤nw) (h4:4≤nw) :
 Calls Tryz.prog 35 #[.pointer (some ⟨gd,0,none⟩),.slice (some ⟨ga,0,none⟩) nw nw,.slice An kn cn] w (OutX w0 gd (xC ⟨f,xs,s,lg⟩ (zf ws 1) (zf ws 2 ++ ⟨#[32]⟩ ++ zf ws 3))):=by
 have HBW:=qH h.hbw;have HWS:=qH h.hws;have HD:Hid (Blk w gd 32 (cD f A n c s lg)):=qH h.hdk;have HO:=qH h.hown;have HNE:=qH h.hne;have HT:=qH h.htabs;have HCN:=qH h.hchg;have HOK:=qH h.hok;have HSZ:=qH h.hsz;have hn:=h.hn;have hnw:=h.hnw;have hkn:=h.hkn;have hgd:=h.hgd;have hn30:=h.n30;have hnw0:=h.nw0;have hnw1:=h.nw1;have HJ:=qH (h.join);have hx0:=h.word0 hk;have HK:=qH hk;obtain ⟨hfB,hlB,hsB,hcB⟩:=ym h.hok;have HNZ:Hid (∀ x ∈ xs,x.name.size≤9223372036854775807):=qH (fun x hx=>Nat.le_trans (yB (yV hlB x hx)) (by omega));have HLB:=qH hlB;have hz1:=h.hsz (zf ws 1);have hm1:zf ws 1 ∈ ws:=by
  unfold zf;have h3:1 < ws.length:=by rw [h.hnw.out];omega
  rw [List.getD_eq_getElem?_getD,List.getElem?_eq_getElem h3];exact List.getElem_mem h3
 replace hz1:=hz1 hm1;clear hm1;have w1:=h.word (k:=1) (by omega);have hz2:=h.hsz (zf ws 2);have hm2:zf ws 2 ∈ ws:=by
  unfold zf;have h3:2 < ws.length:=by rw [h.hnw.out];omega
  rw [List.getD_eq_getElem?_getD,List.getElem?_eq_getElem h3];exact List.getElem_mem h3
 replace hz2:=hz2 hm2;clear hm2;have w2:=h.word (k:=2) (by omega);have hz3:=h.hsz (zf ws 3);have hm3:zf ws 3 ∈ ws:=by
  unfold zf;have h3:3 < ws.length:=by rw [h.hnw.out];omega
  rw [List.getD_eq_getElem?_getD,List.getElem?_eq_getElem h3];exact List.getElem_mem h3
 replace hz3:=hz3 hm3;clear hm3;have w3:=h.word (k:=3) (by omega);clear hfB hlB hsB hcB;clear h hk;have hl1:(1:Int)≤(nw:Int):=by omega
 have hl2:¬ (nw - 1=0):=by omega
 have hl0:(0:Int) < (nw:Int):=by omega
 have hx1:w.cell? ⟨ga,0,none⟩=some (.string ⟨#[97,108,116,101,114]⟩):=hx0;clear hx0;go_enter Tryz.func35,Tryz.ntmps35;go_wp2_with fail;refine qS HJ.out fun W hb=>?_;obtain ⟨rt,hrt⟩:=zN (yx ws);have HRT:=qH hrt;rw [←hrt];clear hrt HJ;replace HBW:=qH (za HBW.out hb);replace HD:=qH (HD.out.below hb);replace HO:=qH (ze HO.out hb);replace hx1:=zb hb hx1;replace w1:=zb hb w1;replace w2:=zb hb w2;replace w3:=zb hb w3;clear hb;clear hl1 hl2;obtain ⟨p1,hp1⟩:=zN (zf ws 1);rw [←hp1] at w1 hz1;have HP1:=qH hp1;clear hp1;obtain ⟨p2,hp2⟩:=zN (zf ws 2);rw [←hp2] at w2 hz2;have HP2:=qH hp2;clear hp2;obtain ⟨p3,hp3⟩:=zN (zf ws 3);rw [←hp3] at w3 hz3;have HP3:=qH hp3;clear hp3;have h1:(1:Int) < (nw:Int):=by omega
 have h2':(2:Int) < (nw:Int):=by omega
 have h3:(3:Int) < (nw:Int):=by omega
 have l1:(⟨#[32]⟩:ByteArray).size=1:=rfl;have a0:=fun (w:World)=>run_string_add_sum (P:=Tryz.prog) w p2 ⟨#[32]⟩ (by omega);have a1:=fun (w:World)=>run_string_add_sum (P:=Tryz.prog) w (p2 ++ ⟨#[32]⟩) p3 (by rw [zu];omega);have htz:(p2 ++ ⟨#[32]⟩ ++ p3).size≤4194304:=by rw [zu,zu];omega
 obtain ⟨tx,htx⟩:=zN (p2 ++ ⟨#[32]⟩ ++ p3);have HTX:=qH htx;rw [←htx] at a1 htz;clear htx;have HRC:=fun w h1 h2=>lS tx htz w h1 h2;have HNO:=qH (fun (h:wn tx=none)=>(show xC ⟨f,xs,s,lg⟩ p1 tx=(⟨f,xs,s,lg⟩,[],7) by unfold xC;rw [h];rfl));have HYE:=qH (fun k a (h:wn tx=some (k,a))=>(show xC ⟨f,xs,s,lg⟩ p1 tx=if (yv xs p1).2=0 then
  (if (xY (atD ⟨f,xs,s,lg⟩ p1) k a).2=0 then (⟨f,xs.set (yv xs p1).1.toNat (xY (atD ⟨f,xs,s,lg⟩ p1) k a).1,s,lg⟩,[ltB (xY (atD ⟨f,xs,s,lg⟩ p1) k a).1],0) else (⟨f,xs,s,lg⟩,[],(xY (atD ⟨f,xs,s,lg⟩ p1) k a).2))
  else (⟨f,xs,s,lg⟩,[],(yv xs p1).2) by unfold xC;rw [h];rfl))
 obtain ⟨o,ho⟩:=zN (wn tx);rw [←ho] at HRC HNO HYE;clear ho;obtain ⟨ck,hck⟩:=zN ((o.getD (0,0)).1);obtain ⟨ca,hca⟩:=zN ((o.getD (0,0)).2);obtain ⟨cb,hcb⟩:=zN o.isSome;unfold qG at HRC;rw [←hck,←hca,←hcb] at HRC;have HCK:=qH hck;have HCA:=qH hca;have HCB:=qH hcb;replace HRC:=qH HRC;clear hck hca hcb;go_upto_region 37 with fail
 go_cut [23,24] (fun p b wx=>∃ gz,p=.pointer (some ⟨gz,0,none⟩)∧b=.bool cb∧W.heap.size≤gz∧Hid (Blk wx gz 126 #[.int .i64 ck,.int .i64 ca])∧Below W.heap.size W wx)
 case first=>
  refine zH (fun w'=>Below W.heap.size W w'∧True) ?_ (fun hHeld=>?_)
  · exact ⟨(Below.refl _ _).drew,trivial⟩
  have hd9:=hHeld.1;refine zU 0 174 ?_;refine zU 1 175 ?_;refine zT 2 176 rfl (fun w hSw=>by
   have x_w2:=zb hSw.1 w2;go_simp;try with_reducible rfl) ?_
  refine zU 3 177 ?_;refine zU 4 178 ?_;refine zU 5 179 ?_;refine zT 6 180 rfl (fun w hSw=>by
   have x_w3:=zb hSw.1 w3;go_simp;try with_reducible rfl) ?_
  refine zU 7 181 ?_;refine wpAnyH_ready (rs:=[8,12]) (by as_aux_lemma=>kernel_rfl) (by simp) ?_;refine AllReadyH.cons (o:={ dst:=some 182,op:=_,type:=_,pos:=_,after:=_,guard:=_ }) rfl (fun K hK=>?_) (AllReadyH.cons (o:={ dst:=some 23,op:=_,type:=_,pos:=_,after:=_,guard:=_ }) rfl (fun K hK=>?_) AllReadyH.nil)
  · skip
    go_simp;go_split_ands;refine qS (HRC.out _ (HT.out.below (za HBW.out hd9)) (HCN.out.below (za HBW.out hd9))) fun V hb9=>?_;replace hd9:=za hd9 hb9;clear hb9;go_wp2_with fail;refine zK hK ⟨hd9,trivial⟩ (fun hHeld=>?_);clear hK K;refine zU 9 173 ?_;refine zU 10 183 ?_;refine zU 11 184 ?_;refine zR 12 (some 23) rfl (fun K hK=>?_);go_simp;go_split_ands;obtain ⟨V5,hV5⟩:=zN (World.alloc V (Obj.cells #[.int .i64 0,.int .i64 0] 126));obtain ⟨gz,hgz⟩:=zN V.heap.size;have HZ:Hid (Blk V5 gz 126 #[.int .i64 0,.int .i64 0]):=qH (by rw [hV5,hgz];exact Blk.new V _ _);have hzW:W.heap.size≤gz:=by rw [hgz];exact hd9.size
    have hb9:Below (V).heap.size (V) V5:=by rw [hV5];exact zc (Below.refl _ _) _
    replace hd9:=za hd9 hb9;rw [←hV5,←hgz];clear hV5 hgz hb9;refine zK hK ⟨hd9,trivial⟩ (fun hHeld=>?_);clear hK K;refine zR 13 none rfl (fun K hK=>?_)
    skip
    go_split_ands;refine wp_store_row 126 _ _ rfl gz #[.int .i64 ck,.int .i64 ca] rfl rfl 126 #[Value.int .i64 0,Value.int .i64 0] HZ.out (by kernel_rfl) rfl (by simp [Value.oneCell']) ?_;have HZ1:Hid (Blk (World.setRow V5 gz #[Value.int .i64 ck,Value.int .i64 ca]) gz 126 #[.int .i64 ck,.int .i64 ca]):=qH (setRow_heap _ _ _ _ _ _ HZ.out);have hd8:=zg hd9 hzW #[Value.int .i64 ck,Value.int .i64 ca];clear HZ hd9;obtain ⟨V6,hV6⟩:=zN (World.setRow V5 gz #[Value.int .i64 ck,Value.int .i64 ca]);rw [←hV6] at HZ1 hd8 ⊢;clear hV6;refine hK.out _ _ ?_ (fun hHeld=>?_)
    · (try dsimp only);go_split_ands;exact ⟨hd8,trivial⟩
    clear hK K;(try simp only [Act.put]);refine zU 14 24 ?_;refine zD ?_;go_wp2_with fail
    go_meet
    exact ⟨gz,rfl,rfl,hzW,HZ1,hd8⟩
  · skip
    go_simp;go_split_ands;obtain ⟨V5,hV5⟩:=zN (World.drew (World.alloc W (Obj.cells #[.int .i64 0,.int .i64 0] 126)));obtain ⟨gz,hgz⟩:=zN W.heap.size;have HZ:Hid (Blk V5 gz 126 #[.int .i64 0,.int .i64 0]):=qH (by rw [hV5,hgz];exact Blk.new W _ _);have hzW:W.heap.size≤gz:=by rw [hgz];exact hd9.size
    have hb9:Below (W.drew).heap.size (W.drew) V5:=by rw [hV5];exact zc (Below.refl _ _) _
    replace hd9:=za hd9 hb9;rw [←hV5,←hgz];clear hV5 hgz hb9;refine zK hK ⟨hd9,trivial⟩ (fun hHeld=>?_);clear hK K;refine zR 8 (some 182) rfl (fun K hK=>?_);go_simp;go_split_ands;refine qS (HRC.out _ (HT.out.below (za HBW.out hd9)) (HCN.out.below (za HBW.out hd9))) fun V hb9=>?_;have HZ2:=qH (HZ.out.below hb9);clear HZ;have HZ:=HZ2;clear HZ2;replace hd9:=za hd9 hb9;clear hb9;go_wp2_with fail;refine zK hK ⟨hd9,trivial⟩ (fun hHeld=>?_);clear hK K;refine zU 9 173 ?_;refine zU 10 183 ?_;refine zU 11 184 ?_;refine zR 13 none rfl (fun K hK=>?_)
    skip
    go_split_ands;refine wp_store_row 126 _ _ rfl gz #[.int .i64 ck,.int .i64 ca] rfl rfl 126 #[Value.int .i64 0,Value.int .i64 0] HZ.out (by kernel_rfl) rfl (by simp [Value.oneCell']) ?_;have HZ1:Hid (Blk (World.setRow V gz #[Value.int .i64 ck,Value.int .i64 ca]) gz 126 #[.int .i64 ck,.int .i64 ca]):=qH (setRow_heap _ _ _ _ _ _ HZ.out);have hd8:=zg hd9 hzW #[Value.int .i64 ck,Value.int .i64 ca];clear HZ hd9;obtain ⟨V6,hV6⟩:=zN (World.setRow V gz #[Value.int .i64 ck,Value.int .i64 ca]);rw [←hV6] at HZ1 hd8 ⊢;clear hV6;refine hK.out _ _ ?_ (fun hHeld=>?_)
    · (try dsimp only);go_split_ands;exact ⟨hd8,trivial⟩
    clear hK K;(try simp only [Act.put]);refine zU 14 24 ?_;refine zD ?_;go_wp2_with fail
    go_meet
    exact ⟨gz,rfl,rfl,hzW,HZ1,hd8⟩
 case rest=>
 clear a0 a1 w2 w3 HRC hx1;obtain ⟨gz,rfl,rfl,hgzW,HB0,hb⟩:=hcut
 rename World=>W4
 replace w1:=zb hb w1;have hgw0:w0.heap.size≤gz:=Nat.le_trans HBW.out.size hgzW;replace HBW:=qH (za HBW.out hb);replace HD:=qH (HD.out.below hb);replace HO:=qH (ze HO.out hb);clear hb;cases o with
 | none=>
   obtain rfl:cb=false:=HCB.out;have HE:=qH (HNO.out rfl);go_wp2_with fail;go_returns;exact OutX.no (by rw [←HP1.out,←HP2.out,←HP3.out,←HTX.out,HE.out]) (by decide) HBW.out
 | some p=>
 obtain ⟨k0,a0⟩:=p;obtain rfl:cb=true:=HCB.out;obtain rfl:ck=k0:=HCK.out;obtain rfl:ca=a0:=HCA.out;have HE0:=HYE.out _ _ rfl;have c4:W4.cell? ⟨gd,4,none⟩=some (.slice A n c):=HD.out.cell 4;have HLN:=qH (oA gd A xs n c p1 hn (by omega) HNZ (by omega) W4 (Arr.own HO.out) c4);clear c4 HNO HYE;go_wp2_with fail;refine qS HLN.out fun W5 hb=>?_;clear HLN w1;replace HBW:=qH (za HBW.out hb);replace HD:=qH (HD.out.below hb);replace HO:=qH (ze HO.out hb);replace HB0:=qH (HB0.out.below hb);clear hb;have hltz:=HB0.out.lt;have hszx:=HBW.out.size;obtain ⟨gx,hgz⟩:=zN W5.heap.size;obtain ⟨W6,hW3⟩:=zN (W5.alloc (Obj.cells cM 100));have HBX:Hid (Blk W6 gx 100 cM):=qH (by rw [hW3,hgz];exact Blk.new _ _ _);have hb:Below W5.heap.size W5 W6:=by rw [hW3];exact zc (Below.refl _ _) _
 have hgwx:w0.heap.size≤gx:=by omega
 have hgnex:gd < gx:=by have:=HD.out.lt;omega
 have honex:Hid (∀ k,(Value.slice A n c).ownBlock=some k→k≠gx):=qH (fun k e=>by have:=yw HO.out k e;omega);have hzx:gz < gx:=by omega
 have HGx:=qH hgz;have HWx:=qH hW3;clear hgz hW3;replace HBW:=qH (za HBW.out hb);replace HD:=qH (HD.out.below hb);replace HO:=qH (ze HO.out hb);replace HB0:=qH (HB0.out.below hb);clear hb;by_cases hc:(yv xs p1).2=0
 case neg=>
  rw [kY hc];have HE:=qH (HE0.trans (if_neg hc));obtain ⟨co,hco⟩:=zN ((yv xs p1).2);rw [←hco] at HE hc ⊢;rw [show nK (ug,0,co)=#[.agg #[.string ⟨#[]⟩,.int .i64 0,.int .i64 0,.int .i64 0,.int .i64 0,.int .i64 0],.int .i64 0,.int .i64 co] from rfl];clear hco HE0;go_wp2_with (rw [←HWx.out,←HGx.out];refine yS gx cM HBX.out ?_)
  go_returns;exact OutX.no (by rw [←HP1.out,←HP2.out,←HP3.out,←HTX.out,HE.out]) hc (zg HBW.out hgwx _)
 obtain ⟨j,x,hk,hx,hnv⟩:=mu hc;have hat:atD ⟨f,xs,s,lg⟩ p1=x:=by unfold atD;dsimp only;rw [hk,Int.toNat_natCast,hx];rfl
 rw [if_pos hc,hat,hk,Int.toNat_natCast] at HE0;have HXB:=qH (yV HLB.out x (List.mem_of_getElem? hx));have hxz:x.name.size≤9223372036854775807:=Nat.le_trans (yB HXB.out) (by omega);have hjn:j < n:=by rw [←hn.out];exact (List.getElem?_eq_some_iff.1 hx).1
 have HAP:=fun gc w h=>oY x ck ca gc hxz w h;have HAZ:=qH (fun h=>rk (x:=x) (k:=ck) (a:=ca) h);rw [hnv];rw [show nK (x,(j:Int),0)=#[.agg #[.string x.name,.int .i64 x.length,.int .i64 x.b,.int .i64 x.i,.int .i64 x.h,.int .i64 x.p],.int .i64 (j:Int),.int .i64 0] from rfl];unfold lP at HAP;obtain ⟨y,hy⟩:=zN ((xY x ck ca).1);obtain ⟨co,hco⟩:=zN ((xY x ck ca).2);rw [←hy,←hco] at HAP HE0 HAZ;replace HAP:=qH HAP;replace HE0:=qH HE0;clear hy hco hat hnv hx hk hc;go_upto_region 43 with (rw [←HWx.out,←HGx.out];refine yS gx (cL x) HBX.out ?_;have hf4:Blk (World.setRow W6 gx (cL x)) gx 100 (cL x):=setRow_heap _ _ _ _ _ _ HBX.out;have hg4:=yh W6 gx (cL x);have hd4:=HD.out.grown hg4 (fun e=>by injection e with e;omega);have ho4:=wS HO.out honex.out (cL x);have hw4:=zg HBW.out hgwx (cL x);have hx_HB0:=HB0.out.grown hg4 (fun e=>by injection e with e;omega);clear hg4 HD HO HBW HBX;obtain ⟨W7,hW4⟩:∃ z,z=World.setRow W6 gx (cL x):=⟨_,rfl⟩;rw [←hW4] at hf4 hd4 ho4 hw4 hx_HB0 ⊢;have HBX:=qH hf4;have HD:=qH hd4;have HO:=qH ho4;have HBW:=qH hw4;replace HB0:=qH hx_HB0;clear hW4 hf4 hd4 ho4 hw4 hx_HB0)
 clear HWx HGx;obtain ⟨gc,hgc⟩:=zN W7.heap.size;obtain ⟨W8,hW8⟩:=zN (World.alloc W7 (Obj.cells #[.int .i64 ck,.int .i64 ca] 126));have HBC:Hid (Blk W8 gc 126 #[.int .i64 ck,.int .i64 ca]):=qH (by rw [hW8,hgc];exact Blk.new _ _ _);have hb8:Below W7.heap.size W7 W8:=by rw [hW8];exact zc (Below.refl _ _) _
 have HGc:=qH hgc;have HWc:=qH hW8;clear hgc hW8;go_wp2_with (first | (refine yL gx HBX.out Tryz.underlying100 ?_) | (refine yL gz HB0.out Tryz.underlying126 ?_))
 rw [←HWc.out,←HGc.out];refine qS (HAP.out gc _ HBC.out) fun W9 hb9=>?_;have hb:=za hb8 hb9;clear hb8 hb9 HAP HBC HWc HGc HB0;replace HBW:=qH (za HBW.out hb);replace HD:=qH (HD.out.below hb);replace HO:=qH (ze HO.out hb);replace HBX:=qH (HBX.out.below hb);clear hb;have honex2:Hid (∀ k,(Value.slice A n c).ownBlock=some k→k≠gx):=honex;by_cases hc:co=0
 case neg=>
  have HE:=qH (HE0.out.trans (if_neg hc));go_wp2_with (refine yS gx (cL y) HBX.out ?_;have hf4:Blk (World.setRow W9 gx (cL y)) gx 100 (cL y):=setRow_heap _ _ _ _ _ _ HBX.out;have hg4:=yh W9 gx (cL y);have hd4:=HD.out.grown hg4 (fun e=>by injection e with e;omega);have ho4:=wS HO.out honex.out (cL y);have hw4:=zg HBW.out hgwx (cL y);clear hg4 HD HO HBW HBX;obtain ⟨W10,hW4⟩:∃ z,z=World.setRow W9 gx (cL y):=⟨_,rfl⟩;rw [←hW4] at hf4 hd4 ho4 hw4 ⊢;have HBX:=qH hf4;have HD:=qH hd4;have HO:=qH ho4;have HBW:=qH hw4;clear hW4 hf4 hd4 ho4 hw4)
  go_returns;exact OutX.no (by rw [←HP1.out,←HP2.out,←HP3.out,←HTX.out,HE.out]) hc HBW.out
 subst hc;have HE:=qH (HE0.out.trans (if_pos rfl));obtain ⟨ey,hyB⟩:=HAZ.out rfl;have HYB:Hid (zy y=true):=qH (by rw [ey];exact hyB);clear ey hyB HAZ HE0;go_upto_region 46 with (refine yS gx (cL y) HBX.out ?_;have hf4:Blk (World.setRow W9 gx (cL y)) gx 100 (cL y):=setRow_heap _ _ _ _ _ _ HBX.out;have hg4:=yh W9 gx (cL y);have hd4:=HD.out.grown hg4 (fun e=>by injection e with e;omega);have ho4:=wS HO.out honex.out (cL y);have hw4:=zg HBW.out hgwx (cL y);clear hg4 HD HO HBW HBX;obtain ⟨W10,hW4⟩:∃ z,z=World.setRow W9 gx (cL y):=⟨_,rfl⟩;rw [←hW4] at hf4 hd4 ho4 hw4 ⊢;have HBX:=qH hf4;have HD:=qH hd4;have HO:=qH ho4;have HBW:=qH hw4;clear hW4 hf4 hd4 ho4 hw4)
 obtain ⟨gl,rfl⟩:=xj HO.out (by omega);have hglx:=HNE.out gl rfl;have hgly:=honex.out gl rfl;have c4:W10.cell? ⟨gd,4,none⟩=some (.slice (some ⟨gl,0,none⟩) n c):=HD.out.cell 4;have hj0:(0:Int)≤(j:Int):=by omega
 have hj1:(j:Int) < (n:Int):=by omega
 obtain ⟨m0,m1,m2,m3,m4,m5⟩:=qC6 HBX.out;refine zH (fun w'=>w'.cell? ⟨gd,4,none⟩=some (.slice (some ⟨gl,0,none⟩) n c)∧w'.cell? ⟨gx,0,none⟩=some (.string y.name)∧w'.cell? ⟨gx,1,none⟩=some (.int .i64 y.length)∧w'.cell? ⟨gx,2,none⟩=some (.int .i64 y.b)∧w'.cell? ⟨gx,3,none⟩=some (.int .i64 y.i)∧w'.cell? ⟨gx,4,none⟩=some (.int .i64 y.h)∧w'.cell? ⟨gx,5,none⟩=some (.int .i64 y.p)) ?_ (fun hHeld=>?_)
 · exact ⟨zb (Below.refl _ _).drew c4,zb (Below.refl _ _).drew m0,zb (Below.refl _ _).drew m1,zb (Below.refl _ _).drew m2,zb (Below.refl _ _).drew m3,zb (Below.refl _ _).drew m4,zb (Below.refl _ _).drew m5⟩
 refine zU 0 209 ?_;refine zU 1 210 ?_;refine zU 2 211 ?_;refine zT 3 212 rfl (fun w hSw=>by
  obtain ⟨s0,s1,s2,s3,s4,s5,s6⟩:=hSw;go_simp;try with_reducible rfl) ?_
 refine zU 4 213 ?_;refine zT 5 214 rfl (fun w hSw=>by
  obtain ⟨s0,s1,s2,s3,s4,s5,s6⟩:=hSw;go_simp;try with_reducible rfl) ?_
 refine zU 6 215 ?_;clear c4 m0 m1 m2 m3 m4 m5;refine zR 7 none rfl (fun K hK=>?_);go_split_ands;have HOD:=ze HO.out (Below.refl _ _).drew;refine wp_store_mid 100 _ _ rfl gl (j * 6) (cL y) (by rfl) rfl (lf HOD (by show j * 6 + 6≤n * 6;omega)) (by kernel_rfl) (by simp [Value.oneCell']) ?_;have HO11:=qQ (Array.toList (cL y)) _ (j * 6) _ HOD;rw [show uQ (zd Last.cells xs) (j * 6) (Array.toList (cL y))=zd Last.cells (xs.set j y) from ky (by rw [hn.out];exact hjn)] at HO11;have hg11:=xv gl (Array.toList (cL y)) (j * 6) W10.drew;have HD11:=Blk.grown (HD.out.below (Below.refl _ _).drew) hg11 (fun e=>by injection e with e;omega);have HBX11:=Blk.grown (HBX.out.below (Below.refl _ _).drew) hg11 (fun e=>by injection e with e;omega);have HBW11:=qg (HBW.out.drew) (zl HO.out gl rfl) (j * 6) (Array.toList (cL y));obtain ⟨W11,hW11⟩:=zN (World.setCells W10.drew gl (j * 6) (Array.toList (cL y)));rw [←hW11] at HO11 HD11 HBX11 HBW11 ⊢;clear hW11 HOD hg11;refine hK.out _ _ ?_ (fun hHeld=>?_)
 · (try dsimp only);exact ⟨HD11.cell 4,HBX11.cell 0,HBX11.cell 1,HBX11.cell 2,HBX11.cell 3,HBX11.cell 4,HBX11.cell 5⟩
 clear hK K;try simp only [Act.put]
 refine zD ?_;clear hHeld HD HBX HBW HO;have HD:=qH HD11;have HBX:=qH HBX11;have HBW:=qH HBW11;have HO:=qH HO11;clear HD11 HBX11 HBW11 HO11;have HN9:Hid ((xs.set j y).length=n):=qH (by rw [List.length_set];exact hn.out);have HLT:=fun w h=>rZ y (Nat.le_trans (yB HYB.out) (by omega)) w h;obtain ⟨ty,hty⟩:=zN (ltB y);rw [←hty] at HLT HE;replace HLT:=qH HLT;clear hty;go_wp2_with (refine yL gx HBX.out Tryz.underlying100 ?_)
 refine qS (HLT.out _ (HT.out.below HBW.out)) fun W12 hb=>?_;replace HBW:=qH (za HBW.out hb);replace HD:=qH (HD.out.below hb);replace HO:=qH (ze HO.out hb);clear hb;go_wp2_with fail;go_returns;exact OutX.one (by rw [←HP1.out,←HP2.out,←HP3.out,←HTX.out,HE.out]) HN9.out HBW.out HO.out HD.out
theorem mw (sp:ByteArray) (B:Option Addr) (d:Nat) (w:World):Calls Tryz.prog 77 #[.string sp,.slice B 0 d] w (Ret (.string ⟨#[]⟩) w):=by
 go_enter Tryz.func77,Tryz.ntmps77;go_wp2_with fail;have hv1:=zc (Below.refl w.heap.size w) (.cells #[] 9);have HJ:=qH (fun a w=>Tryz.strings_Join_none a 0 sp w)
 go_loopw [5,11] (fun v i wr=>∃ g:Nat,i=.int .i64 0∧v=.slice (some ⟨g,0,none⟩) 0 0∧Below w.heap.size w wr) (fun _ i _=>0)
 case atStart=>exact ⟨_,rfl,rfl,hv1⟩
 case round=>
  obtain ⟨g,rfl,rfl,hv⟩:=hrel;go_wp2_with fail;refine (HJ.out _ _).mono ?_;rintro e W3 ⟨rfl,rfl⟩;go_wp2_with fail;go_returns;exact Ret.mk rfl hv
theorem OutX.bad {w0 w':World} {gd k d:Nat} {B:Option Addr} {r:xX} {c:Int} (hc:r.2.2=c) (h0:c≠0) (hb:Below w0.heap.size w0 w'):OutX w0 gd r (.returned (.tuple #[.slice B k d,.int .i64 c])) w':=by
 subst hc;exact ⟨B,k,d,rfl,hb,fun h=>absurd h h0⟩
theorem dp (w0 w:World) (gd ga:Nat) (f:Foot) (xs:List Last) (s:Style) (lg:ByteArray) (n c:Nat) (A An:Option Addr) (ws:List ByteArray) (ns:List Int) (nw kn cn:Nat) (h:XIn w0 w gd ga f xs s lg n c A An ws ns nw kn) (hk:zf ws 0=zL) (h2:2≤nw) (gn:Nat) (hAn:An=some ⟨gn,0,none⟩) (h4:kn=4) :
 Calls Tryz.prog 35 #[.pointer (some ⟨gd,0,none⟩),.slice (some ⟨ga,0,none⟩) nw nw,.slice An kn cn] w (OutX w0 gd (vo ⟨f,xs,s,lg⟩ (yR ns 0) (yR ns 1) (yR ns 2) (yR ns 3))):=by
 have HBW:=qH h.hbw;have HWS:=qH h.hws;have HD:Hid (Blk w gd 32 (cD f A n c s lg)):=qH h.hdk;have HO:=qH h.hown;have HNE:=qH h.hne;have HT:=qH h.htabs;have HCN:=qH h.hchg;have HOK:=qH h.hok;have HSZ:=qH h.hsz;have hn:=h.hn;have hnw:=h.hnw;have hkn:=h.hkn;have hgd:=h.hgd;have hn30:=h.n30;have hnw0:=h.nw0;have hnw1:=h.nw1;have HJ:=qH (h.join);have hx0:=h.word0 hk;have HK:=qH hk;have n0:=h.numO hAn (k:=0) (by omega);have n1:=h.numO hAn (k:=1) (by omega);have n2:=h.numO hAn (k:=2) (by omega);have n3:=h.numO hAn (k:=3) (by omega);subst h4;subst hAn;clear h hk;have hl1:(1:Int)≤(nw:Int):=by omega
 have hl2:¬ (nw - 1=0):=by omega
 have hl0:(0:Int) < (nw:Int):=by omega
 have hx1:w.cell? ⟨ga,0,none⟩=some (.string ⟨#[114,97,105,115,101]⟩):=hx0;clear hx0;go_enter Tryz.func35,Tryz.ntmps35;go_wp2_with fail;refine qS HJ.out fun W hb=>?_;obtain ⟨rt,hrt⟩:=zN (yx ws);have HRT:=qH hrt;rw [←hrt];clear hrt HJ;replace HBW:=qH (za HBW.out hb);replace HD:=qH (HD.out.below hb);replace HO:=qH (ze HO.out hb);replace hx1:=zb hb hx1;replace n0:=zb hb n0;replace n1:=zb hb n1;replace n2:=zb hb n2;replace n3:=zb hb n3;clear hb;clear hl1 hl2;obtain ⟨v0,hv0⟩:=zN (yR ns 0);rw [←hv0] at n0;have HV0:=qH hv0;clear hv0;obtain ⟨v1,hv1⟩:=zN (yR ns 1);rw [←hv1] at n1;have HV1:=qH hv1;clear hv1;obtain ⟨v2,hv2⟩:=zN (yR ns 2);rw [←hv2] at n2;have HV2:=qH hv2;clear hv2;obtain ⟨v3,hv3⟩:=zN (yR ns 3);rw [←hv3] at n3;have HV3:=qH hv3;clear hv3;have HRF:=fun w=>fe v0 v1 v2 v3 w;have HFD:vo ⟨f,xs,s,lg⟩ v0 v1 v2 v3=if (xy v0 v1 v2 v3).2=0 then (⟨f,xs,s,lg⟩,[vZ (xy v0 v1 v2 v3).1],0) else (⟨f,xs,s,lg⟩,[],(xy v0 v1 v2 v3).2):=rfl
 have HBD:=ji v0 v1 v2 v3;have HYN:((xy v0 v1 v2 v3).2=0∧(xy v0 v1 v2 v3).1.length=3)∨(¬ (xy v0 v1 v2 v3).2=0∧(xy v0 v1 v2 v3).1=[]):=by
  unfold xy;split
  · split
    · exact .inr ⟨by simp,rfl⟩
    · exact .inl ⟨rfl,rfl⟩
  · exact .inr ⟨by simp,rfl⟩
 obtain ⟨r,hr⟩:=zN (xy v0 v1 v2 v3);rw [←hr] at HRF HFD HBD HYN;clear hr;obtain ⟨ps,co⟩:=r;dsimp only at HRF HFD HBD HYN;have HP:=qH HBD;have HQ:=qH HYN;replace HRF:=qH HRF;replace HFD:=qH HFD;clear HBD HYN;go_upto_region 61 with fail;refine zH (fun w'=>Below W.heap.size W w'∧True) ?_ (fun hHeld=>?_)
 · exact ⟨(Below.refl _ _).drew,trivial⟩
 have hd9:=hHeld.1;refine zU 0 260 ?_;refine zU 1 261 ?_;refine zT 2 262 rfl (fun w hSw=>by
  have x_n0:=zb hSw.1 n0;go_simp;try with_reducible rfl) ?_
 refine zU 3 263 ?_;refine zU 4 264 ?_;refine zT 5 265 rfl (fun w hSw=>by
  have x_n1:=zb hSw.1 n1;go_simp;try with_reducible rfl) ?_
 refine zU 6 266 ?_;refine zU 7 267 ?_;refine zT 8 268 rfl (fun w hSw=>by
  have x_n2:=zb hSw.1 n2;go_simp;try with_reducible rfl) ?_
 refine zU 9 269 ?_;refine zU 10 270 ?_;refine zT 11 271 rfl (fun w hSw=>by
  have x_n3:=zb hSw.1 n3;go_simp;try with_reducible rfl) ?_
 refine zR 12 (some 272) rfl (fun K hK=>?_);go_simp;go_split_ands;refine (HRF.out _).mono ?_;rintro e V ⟨B,m,d,rfl,hm,hB,hb9⟩;have HBA:=qH hB;have HM:=qH hm;replace hd9:=za hd9 hb9;clear hb9 HRF hB hm;go_wp2_with fail;refine zK hK ⟨hd9,trivial⟩ (fun hHeld=>?_);clear hK K;refine zU 13 259 ?_;refine zU 14 273 ?_;refine zU 15 274 ?_;refine zU 16 32 ?_;refine zU 17 33 ?_;refine zD ?_;clear hHeld n0 n1 n2 n3;have hb:=hd9;clear hd9;replace HBW:=qH (za HBW.out hb);replace HD:=qH (HD.out.below hb);replace HO:=qH (ze HO.out hb);clear hb;by_cases hc:co=0
 case neg=>
  have HE:=qH (HFD.out.trans (if_neg hc));obtain rfl:ps=[]:=by
   rcases HQ.out with h | h
   · exact absurd h.1 hc
   · exact h.2
  obtain rfl:m=0:=HM.out.symm;have HN0:=qH (mw ⟨#[32]⟩ B d V);go_wp2_with fail;refine qS HN0.out fun V2 hb=>?_;go_wp2_with fail;go_returns;exact OutX.bad (by rw [←HV0.out,←HV1.out,←HV2.out,←HV3.out,HE.out]) hc (zc (za HBW.out hb) _)
 subst hc;have HE:=qH (HFD.out.trans (if_pos rfl));obtain rfl:m=3:=by
  rcases HQ.out with h | h
  · rw [←HM.out,h.2]
  · exact absurd rfl h.1
 have HRW:Hid (vZ ps=yA ⟨#[32]⟩ (xL ps)):=qH rfl;have HN3:=qH (su ⟨#[32]⟩ (by decide) B ps 3 d HM (by omega) (by omega) (qH (fun v hv=>by have:=HP.out.2 v hv;omega)) V HBA.out (HT.out.below HBW.out));go_wp2_with fail;refine qS HN3.out fun V2 hb=>?_;replace HBW:=qH (za HBW.out hb);replace HD:=qH (HD.out.below hb);replace HO:=qH (ze HO.out hb);clear hb;go_wp2_with fail;go_returns;exact OutX.one (by rw [←HV0.out,←HV1.out,←HV2.out,←HV3.out,HE.out,HRW.out]) hn.out HBW.out HO.out HD.out
theorem dl (w0 w:World) (gd ga:Nat) (f:Foot) (xs:List Last) (s:Style) (lg:ByteArray) (n c:Nat) (A An:Option Addr) (ws:List ByteArray) (ns:List Int) (nw kn cn:Nat) (h:XIn w0 w gd ga f xs s lg n c A An ws ns nw kn) (hk:zf ws 0=zJ) (_h2:2≤nw) (gn:Nat) (hAn:An=some ⟨gn,0,none⟩) (h3:kn=2) (h5:4≤nw) :
 Calls Tryz.prog 35 #[.pointer (some ⟨gd,0,none⟩),.slice (some ⟨ga,0,none⟩) nw nw,.slice An kn cn] w (OutX w0 gd (vj ⟨f,xs,s,lg⟩ (yR ns 0) (zf ws 2) (yR ns 1))):=by
 have HBW:=qH h.hbw;have HWS:=qH h.hws;have HD:Hid (Blk w gd 32 (cD f A n c s lg)):=qH h.hdk;have HO:=qH h.hown;have HNE:=qH h.hne;have HT:=qH h.htabs;have HCN:=qH h.hchg;have HOK:=qH h.hok;have HSZ:=qH h.hsz;have hn:=h.hn;have hnw:=h.hnw;have hkn:=h.hkn;have hgd:=h.hgd;have hn30:=h.n30;have hnw0:=h.nw0;have hnw1:=h.nw1;have HJ:=qH (h.join);have hx0:=h.word0 hk;have HK:=qH hk;obtain ⟨hfB,hlB,hsB,hcB⟩:=ym h.hok;have hlg:=wP hcB;have HCB:=qH hcB;have n0:=h.numO hAn (k:=0) (by omega);have n1:=h.numO hAn (k:=1) (by omega);have w2:=h.word (k:=2) (by omega);have hwz:=h.hsz (zf ws 2);have hwm:zf ws 2 ∈ ws:=by
  unfold zf;have h3:2 < ws.length:=by rw [h.hnw.out];omega
  rw [List.getD_eq_getElem?_getD,List.getElem?_eq_getElem h3];exact List.getElem_mem h3
 replace hwz:=hwz hwm;clear hwm hfB hlB hsB hcB;subst h3;subst hAn;clear h hk;have hl1:(1:Int)≤(nw:Int):=by omega
 have hl2:¬ (nw - 1=0):=by omega
 have hl0:(0:Int) < (nw:Int):=by omega
 have hx1:w.cell? ⟨ga,0,none⟩=some (.string ⟨#[101,110,116,101,114]⟩):=hx0;clear hx0;go_enter Tryz.func35,Tryz.ntmps35;go_wp2_with fail;refine qS HJ.out fun W hb=>?_;obtain ⟨rt,hrt⟩:=zN (yx ws);have HRT:=qH hrt;rw [←hrt];clear hrt HJ;replace HBW:=qH (za HBW.out hb);replace HD:=qH (HD.out.below hb);replace HO:=qH (ze HO.out hb);replace hx1:=zb hb hx1;replace n0:=zb hb n0;replace n1:=zb hb n1;replace w2:=zb hb w2;clear hb;clear hl1 hl2;have hl2:(2:Int) < (nw:Int):=by omega
 obtain ⟨v0,hv0⟩:=zN (yR ns 0);rw [←hv0] at n0;obtain ⟨v1,hv1⟩:=zN (yR ns 1);rw [←hv1] at n1;obtain ⟨nm,hv2⟩:=zN (zf ws 2);rw [←hv2] at w2 hwz;have HV0:=qH hv0;have HV1:=qH hv1;have HV2:=qH hv2;clear hv0 hv1 hv2;have HAE:=fun w h=>gY lg (by omega) ⟨v0,nm,v1⟩ (by show nm.size≤_;omega) w h;dsimp only at HAE;have HFD:vj ⟨f,xs,s,lg⟩ v0 nm v1=if (xK lg ⟨v0,nm,v1⟩).2=0 then (⟨f,xs,s,(xK lg ⟨v0,nm,v1⟩).1⟩,[zm (uI (xK lg ⟨v0,nm,v1⟩).1 nm).sum],0) else (⟨f,xs,s,lg⟩,[],(xK lg ⟨v0,nm,v1⟩).2):=rfl
 have HLA:=qH (fun h=>ms (s:=lg) (x:=⟨v0,nm,v1⟩) HCB.out h);obtain ⟨r,hr⟩:=zN (xK lg ⟨v0,nm,v1⟩);rw [←hr] at HAE HFD HLA;clear hr;obtain ⟨l2,co⟩:=r;dsimp only at HAE HFD HLA;replace HAE:=qH HAE;replace HFD:=qH HFD;have c14:W.cell? ⟨gd,14,none⟩=some (.string lg):=HD.out.cell 14;go_upto_region 64 with fail;refine zH (fun w'=>Below W.heap.size W w'∧True) ?_ (fun hHeld=>?_)
 · exact ⟨(Below.refl _ _).drew,trivial⟩
 have hd9:=hHeld.1;refine zU 0 282 ?_;refine zU 1 283 ?_;refine zU 2 284 ?_;refine zT 3 285 rfl (fun w hSw=>by
  have x_c14:=zb hSw.1 c14;go_simp;try with_reducible rfl) ?_
 refine zU 4 286 ?_;refine zU 5 287 ?_;refine zT 6 288 rfl (fun w hSw=>by
  have x_n0:=zb hSw.1 n0;go_simp;try with_reducible rfl) ?_
 refine zU 7 289 ?_;refine zU 8 290 ?_;refine zT 9 291 rfl (fun w hSw=>by
  have x_w2:=zb hSw.1 w2;go_simp;try with_reducible rfl) ?_
 refine zU 10 292 ?_;refine zU 11 293 ?_;refine zT 12 294 rfl (fun w hSw=>by
  have x_n1:=zb hSw.1 n1;go_simp;try with_reducible rfl) ?_
 refine zU 13 295 ?_;refine zR 14 (some 296) rfl (fun K hK=>?_);go_simp;go_split_ands;refine qS (HAE.out _ (HT.out.below (za HBW.out hd9))) fun V hb9=>?_;replace hd9:=za hd9 hb9;clear hb9 HAE;go_wp2_with fail;refine zK hK ⟨hd9,trivial⟩ (fun hHeld=>?_);clear hK K;refine zU 15 281 ?_;refine zU 16 297 ?_;refine zU 17 298 ?_;refine zU 18 34 ?_;refine zU 19 35 ?_;refine zD ?_;clear hHeld c14 n0 n1;have hb:=hd9;clear hd9;replace w2:=zb hb w2;replace HBW:=qH (za HBW.out hb);replace HD:=qH (HD.out.below hb);replace HO:=qH (ze HO.out hb);clear hb;by_cases hc:co=0
 case neg=>
  have HE:=qH (HFD.out.trans (if_neg hc));go_wp2_with fail;go_returns;exact OutX.no (by rw [←HV0.out,←HV1.out,←HV2.out,HE.out]) hc HBW.out
 subst hc;have HE:=qH (HFD.out.trans (if_pos rfl));obtain ⟨e1,e2,e3,e4⟩:=HLA.out rfl;have hnm:zo nm=true:=by
  unfold yX at e3;simp only [Bool.and_eq_true] at e3;exact e3.1.2
 have hcw:cdW l2 nm=0:=kh e1 hnm;have HVO:=fun w h=>fk l2 nm (by omega) (by omega) w h;rw [hcw] at HVO;obtain ⟨b1,b2⟩:=mz l2 nm;obtain ⟨vs,hvs⟩:=zN (uI l2 nm);rw [←hvs] at HVO b1 b2 HE;have hsm:=nX vs b2;obtain ⟨vn,hvn⟩:=zN vs.length;rw [←hvn] at HVO b1 hsm;have HVN:Hid (vs.length=vn):=qH hvn.symm;have HB2:=qH b2;replace HVO:=qH HVO;obtain ⟨sm,hsme⟩:=zN vs.sum;rw [←hsme] at hsm HE;have HSM:=qH hsme;clear e1 e2 e3 hnm hcw hvs hvn b2 hsme HLA HFD;have c14:V.cell? ⟨gd,14,none⟩=some (.string lg):=HD.out.cell 14;have f14:V.frozen? ⟨gd,14,none⟩=false:=HD.out.frozen 14;have HD5:Hid (Blk (V.setCell ⟨gd,14,none⟩ (.string l2)) gd 32 (cD f A n c s l2)):=qH (HD.out.set_ 14 _);have HO5:=qH (xm HO.out (p:=⟨gd,14,none⟩) HNE.out (.string l2));have HBW5:=qH (zt HBW.out (p:=⟨gd,14,none⟩) hgd (.string l2));have hwl:=block_lt_of_cell w2;go_upto_region 68 with fail;obtain ⟨V2,hV2⟩:=zN (V.setCell ⟨gd,14,none⟩ (.string l2));have w2':V2.cell? ⟨ga,2,none⟩=some (.string nm):=by
  rw [hV2];exact (World.cell?_setCell_other V ⟨gd,14,none⟩ ⟨ga,2,none⟩ (.string l2) (by simp)).trans w2
 rw [←hV2] at HD5 HO5 HBW5 ⊢;clear hV2 f14 c14 HO HD HBW w2 hwl;have c14:V2.cell? ⟨gd,14,none⟩=some (.string l2):=HD5.out.cell 14;refine zH (fun w'=>Below V2.heap.size V2 w'∧True) ?_ (fun hHeld=>?_)
 · exact ⟨(Below.refl _ _).drew,trivial⟩
 have hd9:=hHeld.1;refine zU 0 307 ?_;refine zU 1 308 ?_;refine zU 2 309 ?_;refine zT 3 310 rfl (fun w hSw=>by
  have x_c14:=zb hSw.1 c14;go_simp;try with_reducible rfl) ?_
 refine zU 4 311 ?_;refine zU 5 312 ?_;refine zT 6 313 rfl (fun w hSw=>by
  have x_w2:=zb hSw.1 w2';go_simp;try with_reducible rfl) ?_
 refine zR 7 (some 314) rfl (fun K hK=>?_);go_simp;go_split_ands;refine (HVO.out _ (HT.out.below (za HBW5.out hd9))).mono ?_;rintro e V3 ⟨B,d,rfl,hown,hb9⟩;have HBA:=qH (Arr.own hown);replace hd9:=za hd9 hb9;clear hb9 HVO hown;go_wp2_with fail;refine zK hK ⟨hd9,trivial⟩ (fun hHeld=>?_);clear hK K;refine zU 8 306 ?_;refine zU 9 315 ?_;refine zU 10 316 ?_;refine zU 11 36 ?_;refine zU 12 35 ?_;refine zD ?_;clear hHeld c14 w2';have HD:=qH (HD5.out.below hd9);have HO:=qH (ze HO5.out hd9);have HBW:=qH (za HBW5.out hd9);clear HD5 HO5 HBW5 hd9;have HS:=qH (zbB B vs vn d HVN (by omega) (qH (fun v hv=>by have:=HB2.out v hv;omega)) V3 HBA.out);rw [←HSM.out] at HS;go_wp2_with fail;refine qS HS.out fun V4 hb=>?_;replace HBW:=qH (za HBW.out hb);replace HD:=qH (HD.out.below hb);replace HO:=qH (ze HO.out hb);clear hb;have HDC:=qH (fun h=>xo sm (by omega) (by omega) V4 h);go_wp2_with fail;refine qS (HDC.out (HT.out.below HBW.out).pow) fun V5 hb=>?_;replace HBW:=qH (za HBW.out hb);replace HD:=qH (HD.out.below hb);replace HO:=qH (ze HO.out hb);clear hb;go_wp2_with fail;go_returns;exact OutX.one (by rw [←HV0.out,←HV1.out,←HV2.out,HE.out]) hn.out HBW.out HO.out HD.out
end Go.Proofs.YtpiehlfffjhoaaaGreatDoor
