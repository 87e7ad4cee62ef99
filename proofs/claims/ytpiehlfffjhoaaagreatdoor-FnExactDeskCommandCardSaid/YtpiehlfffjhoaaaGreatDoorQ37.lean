/- Lemmas for the law on the console: the parts CrG,CrH,CrF. -/
import Derived.Test.YtpiehlfffjhoaaaGreatDoorQ36
namespace Go.Proofs.YtpiehlfffjhoaaaGreatDoor
open Go.RowKit Go.Proofs.Tryz
set_option maxRecDepth 100000
set_option maxHeartbeats 8000000
theorem xF{P:Program}{ops:Array Oper}{rest:List Oper}{o:Oper}{a:Act}{Q:Exit->Act->World->Prop}(w:World)(hgd:o.guard=none)(s x:Operand)(t e:TypeId)(ho:o.op=.call { callee:=.builtin .append,args:=#[s,x],argTypes:=#[t,t] })(i:TypeInfo)(z:Value)(size bytes:Nat)(ht:P.underlying t=some (.slice e))(hi:P.info? e=some i)(hz:i.zero=some z)(hsize:i.size=size)(hby:i.bytes=bytes)(hzs:z.cells.size=size)(hsz:0 < size)(base:Nat)(A:Option Addr)(n cp:Nat)(cs:List Value)(hs:a.eval s=.slice A n cp)(hown:w.ownsRow base e size (.slice A n cp) n cs)(B:Option Addr)(m c:Nat)(C:List Value)(hx:a.eval x=.slice B m c)(hA:Arr w B C)(hl:C.length=m * size)(h1:∀ u ∈ C,u.oneCell'=true)(h63:n + m<=maxLen)(hbytes:(n + m) * bytes<=140737488355328)(hbase:base<=w.heap.size)(h:∀ A7 c7 w7,w7.ownsRow base e size (.slice A7 (n + m) c7) (n + m) (cs ++ C)->w.grownBy w7 (Value.slice A n cp).ownBlock->wpList P ops Q rest (a.put o.dst (.slice A7 (n + m) c7)) w7) :
 wpList P ops Q (o :: rest) a w:=by
 cases B with
 | some ad=>exact vX w hgd s x t e ho i z size bytes ht hi hz hsize hby hzs hsz base _ n cs hs hown ad m c C hx hA hl h1 h63 hbytes hbase h
 | none=>
   have hC:C=[]:=by
    cases C with
    | nil=>rfl
    | cons u r=>
      obtain ⟨ad,e1,_⟩:=hA (by simp);cases e1
   subst hC;obtain rfl:m=0:=by
    cases m with
    | zero=>rfl
    | succ m=>
      rw [List.length_nil,Nat.succ_mul] at hl;omega
   have hnc:n<=cp:=by obtain ⟨_,_,e1,h1,_⟩:=wc hown;injection e1 with _ _ e3;omega
   have hsrc:Go.Src P i.size t (.slice none 0 c) 0 [] w:=Go.Src.ofNil w ht c;have hr:=run_append_nothing (P:=P) w t t o.type e i ht hi A n cp hnc (.slice none 0 c) hsrc;refine wpList_plain hgd fun K hK=>?_;unfold Oper.wp execOp;simp only [ho,resolve,invoke,builtin,Sem.run_bind,Sem.run_pure,Result.andThen_ok,List.map_toArray,List.map_cons,List.map_nil,hs,hx,hr];exact hK _ _ (h A cp w (by rw [List.append_nil];exact hown) (World.grownBy.refl w _))
theorem zdH{w:World}{g k:Nat}{xs:List Last}(hk:k<=xs.length)(h:Arr w (some ⟨g,0,none⟩) (zd Last.cells xs)):Arr w (some ⟨g,k * 6,none⟩) (zd Last.cells (xs.drop k)):=fun hn=>by
 rw [sN hk] at hn |-;obtain ⟨ad,e,hb,hc⟩:=h (by rw [List.length_drop] at hn;omega);injection e with e;subst e;refine ⟨_,rfl,hb,fun j u hu=>?_⟩;rw [List.getElem?_drop] at hu;have:=hc (k * 6 + j) u hu;rw [Addr.add_lit,Nat.zero_add] at this;rw [Addr.add_lit];exact this
theorem gC(xs:List Last)(n c:Nat)(x:Last)(hn:Hid (xs.length=n))(h0:n=0)(hs:Hid (∀ x ∈ xs,x.name.size<=9223372036854775807))(hsx:x.name.size<=9223372036854775807)(w:World)(hA:Arr w none (zd Last.cells xs)) :
 Calls prog 171 #[.slice none n c,.agg #[.string x.name,.int .i64 x.length,.int .i64 x.b,.int .i64 x.i,.int .i64 x.h,.int .i64 x.p]] w (OutL 100 6 (yT xs x).1.length (zd Last.cells (yT xs x).1) (yT xs x).2 w):=by
 subst h0;have hm:((0:Nat):Int)<=1048576:=by omega
 obtain ⟨i0,hi0,hz0,hz1,hz2⟩:=info_parts (P:=prog) (e:=100) (z:=.agg #[.string ByteArray.empty,.int .i64 0,.int .i64 0,.int .i64 0,.int .i64 0,.int .i64 0]) (size:=6) (bytes:=56) sP;have hlen:(zd Last.cells xs).length=0 * 6:=by rw [yK Last.cells_length,hn.out]
 have HL4:=qH (fun w h=>qh none xs 0 c hn hm hs w h);have HL1:=qH (fun w=>tT x hsx w);have HLF:=qH (fun w h=>pN none xs 0 c x.name hn hm w h);go_in;go_wp2_with fail;have hv0:=zc (Below.refl w.heap.size w) (Obj.cells (cL x) 100);have hX0:Blk (w.alloc (Obj.cells (cL x) 100)) w.heap.size 100 (cL x):=Blk.new _ _ _;refine qS (HL4.out _ (hA.below hv0)) fun W hb1=>?_;have hv1:Below w.heap.size w W:=za hv0 hb1;have hX1:=hX0.below hb1;clear hX0 hb1 hv0;cases ho:yx xs
 ·have HO:=qH ho;clear ho;go_wp2;go_returns;exact OutL.noN (qx HO.out) hv1
 have HO:=qH ho;clear ho;have x0:=yc0 hX1;have x1:=yc1 hX1;have x2:=yc2 hX1;have x3:=yc3 hX1;have x4:=yc4 hX1;have x5:=yc5 hX1;go_wp2_with fail;refine qS (HL1.out _) fun W2 hb2=>?_;have hv2:Below w.heap.size w W2:=za hv1 hb2;have hX2:=hX1.below hb2;clear x0 x1 x2 x3 x4 x5 hX1 hb2 hv1;have x0:=yc0 hX2;cases hq:zy x
 ·have HQ:=qH hq;clear hq;go_wp2;go_returns;exact OutL.noN (qy HO.out HQ.out) hv2
 have HQ:=qH hq;clear hq;go_wp2_with fail;refine qS (HLF.out _ (hA.below hv2)) fun W3 hb3=>?_;have hv3:Below w.heap.size w W3:=za hv2 hb3;have hX3:=hX2.below hb3;clear hX2 hb3 x0 hv2;rw [pL HO.out];cases hh:xN x.name xs
 case true=>
  have HH:=qH hh;clear hh;have hl0:(0:Int)<=(lbN x.name xs:Int):=by omega
  go_wp2;go_returns;exact OutL.noN (qw HO.out HQ.out HH.out) hv3
 have HH:=qH hh;clear hh;have hle:lbN x.name xs<=0:=by rw [<-hn.out];exact ve _ _
 have hkk:=qH (show 0=lbN x.name xs by omega);have l1:=qH (show (zd Last.cells (xs.take 0)).length=0 * 6 from rfl);have l2:=qH (show (zd Last.cells (xs.drop 0)).length=(0 - 0) * 6 by rw [List.drop_zero];exact hlen);have hA1:=qH (fun (w':World) (_:Below w.heap.size w w')=>(show Arr w' none (zd Last.cells (xs.take 0)) from Arr.nil _ _));have hA2:=qH (fun (w':World) (_:Below w.heap.size w w')=>(show Arr w' none (zd Last.cells (xs.drop 0)) by rw [List.drop_eq_nil_of_le (by rw [hn.out];exact Nat.le_refl _)];exact Arr.nil _ _));clear hle;go_wp2_with fail
 go_loopw [6] (fun i wr=>i=.int .i64 0/\Below w.heap.size w wr/\Blk wr w.heap.size 100 (cL x)) (fun _ _=>0)
 case atStart=>exact ⟨rfl,hv3,hX3⟩
 case round=>
  clear hv3 hX3;obtain ⟨rfl,hv,hB⟩:=hrel;have x0:=hB.cell 0;dsimp [cL,cM,cS,cT] at x0;go_wp2_with fail
  go_region
  all_goals (obtain ⟨wq,hwq⟩:∃ wq,wq=wr.drew:=⟨_,rfl⟩)
  all_goals rw [<-hwq]
  all_goals have hvq:Below w.heap.size w wq:=by rw [hwq];exact hv.drew
  all_goals have hBq:Blk wq w.heap.size 100 (cL x):=by rw [hwq];exact hB.below (Below.refl _ _).drew
  all_goals clear hwq hv hB x0
  have hf:¬ 0=30:=by omega
  go_wp2_with (at_builtin;first
   | (refine xF _ rfl _ _ 28 100 rfl i0 _ 6 56 underlying28 hi0 hz0 hz1 hz2 rfl (by omega) w.heap.size (some ⟨wq.heap.size,0,none⟩) 0 0 [] rfl (zI wq w.heap.size _ _ hvq.size) _ 0 _ (zd Last.cells (xs.take 0)) rfl (hA1.out _ (zc hvq _)) l1.out (xX _) (by unfold maxLen;omega) (by omega) (by rw [World.size_alloc];have:=hvq.size;omega) ?_;intro A2 c2 w2 hown2 hg2;simp only [Nat.zero_add,List.nil_append] at hown2;have hv2:=zi (zc hvq _) hg2 (zn (zI wq w.heap.size 100 6 hvq.size));have hX2:Blk w2 w.heap.size 100 (cL x):=Blk.grown (hBq.alloc _) hg2 (by have:=hBq.lt;simp [Value.ownBlock];omega);have x0:=yc0 hX2;have x1:=yc1 hX2;have x2:=yc2 hX2;have x3:=yc3 hX2;have x4:=yc4 hX2;have x5:w2.cell? ⟨w.heap.size,5,none⟩=some (.int .i64 x.p):=hX2.cell 5)
   | (refine xI w2 (cL x) rfl _ _ 28 100 rfl i0 _ 6 56 underlying28 hi0 hz0 hz1 hz2 rfl (by omega) w.heap.size (.slice A2 0 c2) 0 _ rfl rfl hown2 rfl (by simp [Value.oneCell']) (by unfold maxLen;omega) (by omega) hv2.size ?_;intro A4 c4 w4 hown4 hg4;have hv4:=zi hv2 hg4 (zn hown2))
   | (refine xF _ rfl _ _ 28 100 rfl i0 _ 6 56 underlying28 hi0 hz0 hz1 hz2 rfl (by omega) w.heap.size A4 (0 + 1) c4 _ rfl hown4 _ _ _ (zd Last.cells (xs.drop 0)) rfl (hA2.out _ hv4) (by first | exact l2.out | (rw [l2.out];simp)) (xX _) (by unfold maxLen;omega) (by omega) hv4.size ?_;intro A6 c6 w6 hown6 hg6))
  go_returns;exact OutL.ofN (uW HO.out HQ.out HH.out (by rw [hn.out];exact hf)) (by rw [vc _ _ _ (ve _ _),hn.out];first | done | omega) (by
   rw [ud,<-hkk.out,<-List.append_assoc];exact hown6) (zi hv4 hg6 (zn hown4))
theorem gD(g:Nat)(xs:List Last)(n c:Nat)(hnc:n<=c)(x:Last)(hn:Hid (xs.length=n))(hm:(n:Int)<=1048576)(hs:Hid (∀ x ∈ xs,x.name.size<=9223372036854775807))(hsx:x.name.size<=9223372036854775807)(w:World)(hA:Arr w (some ⟨g,0,none⟩) (zd Last.cells xs)) :
 Calls prog 171 #[.slice (some ⟨g,0,none⟩) n c,.agg #[.string x.name,.int .i64 x.length,.int .i64 x.b,.int .i64 x.i,.int .i64 x.h,.int .i64 x.p]] w (OutL 100 6 (yT xs x).1.length (zd Last.cells (yT xs x).1) (yT xs x).2 w):=by
 obtain ⟨i0,hi0,hz0,hz1,hz2⟩:=info_parts (P:=prog) (e:=100) (z:=.agg #[.string ByteArray.empty,.int .i64 0,.int .i64 0,.int .i64 0,.int .i64 0,.int .i64 0]) (size:=6) (bytes:=56) sP;have hlen:(zd Last.cells xs).length=n * 6:=by rw [yK Last.cells_length,hn.out]
 have HL4:=qH (fun w h=>qh (some ⟨g,0,none⟩) xs n c hn hm hs w h);have HL1:=qH (fun w=>tT x hsx w);have HLF:=qH (fun w h=>pN (some ⟨g,0,none⟩) xs n c x.name hn hm w h);go_in;go_wp2_with fail;have hv0:=zc (Below.refl w.heap.size w) (Obj.cells (cL x) 100);have hX0:Blk (w.alloc (Obj.cells (cL x) 100)) w.heap.size 100 (cL x):=Blk.new _ _ _;refine qS (HL4.out _ (hA.below hv0)) fun W hb1=>?_;have hv1:Below w.heap.size w W:=za hv0 hb1;have hX1:=hX0.below hb1;clear hX0 hb1 hv0;cases ho:yx xs
 ·have HO:=qH ho;clear ho;go_wp2;go_returns;exact OutL.noN (qx HO.out) hv1
 have HO:=qH ho;clear ho;have x0:=yc0 hX1;have x1:=yc1 hX1;have x2:=yc2 hX1;have x3:=yc3 hX1;have x4:=yc4 hX1;have x5:=yc5 hX1;go_wp2_with fail;refine qS (HL1.out _) fun W2 hb2=>?_;have hv2:Below w.heap.size w W2:=za hv1 hb2;have hX2:=hX1.below hb2;clear x0 x1 x2 x3 x4 x5 hX1 hb2 hv1;have x0:=yc0 hX2;cases hq:zy x
 ·have HQ:=qH hq;clear hq;go_wp2;go_returns;exact OutL.noN (qy HO.out HQ.out) hv2
 have HQ:=qH hq;clear hq;go_wp2_with fail;refine qS (HLF.out _ (hA.below hv2)) fun W3 hb3=>?_;have hv3:Below w.heap.size w W3:=za hv2 hb3;have hX3:=hX2.below hb3;clear hX2 hb3 x0 hv2;rw [pL HO.out];cases hh:xN x.name xs
 case true=>
  have HH:=qH hh;clear hh;have hl0:(0:Int)<=(lbN x.name xs:Int):=by omega
  go_wp2;go_returns;exact OutL.noN (qw HO.out HQ.out HH.out) hv3
 have HH:=qH hh;clear hh;have hn30:n<=30:=by rw [<-hn.out];exact wj HO.out
 by_cases hf:n=30
 ·subst hf;go_wp2;go_returns;exact OutL.noN (pD HO.out HQ.out HH.out hn.out) hv3
 have hni:¬ (30:Int)<=(n:Int):=by omega
 have hle:lbN x.name xs<=n:=by rw [<-hn.out];exact ve _ _
 go_wp2_with fail
 go_loopw [6] (fun i wr=>∃ k:Nat,lbN x.name xs<=k/\k<=n/\i=.int .i64 k/\Below w.heap.size w wr/\Blk wr w.heap.size 100 (cL x)) (fun i _=>(intOf i).toNat)
 case atStart=>exact ⟨n,hle,Nat.le_refl _,rfl,hv3,hX3⟩
 case round=>
  clear hv3 hX3;obtain ⟨k,hk1,hk2,rfl,hv,hB⟩:=hrel;have x0:=hB.cell 0;dsimp [cL,cM,cS,cT] at x0;have HP:=qH (tU HO.out);by_cases hlt:lbN x.name xs < k
  · obtain ⟨j,rfl⟩:∃ j,k=j + 1:=⟨k - 1,by omega⟩
    obtain ⟨y,hy⟩:=zx (xs:=xs) (k:=j) (by rw [hn.out];omega);have hid:yR x.name y.name=true:=nB HP.out HH.out hy (by omega);have hl:Op.bytesLess y.name.toList x.name.toList=false:=tB hid;have he:(y.name.toList == x.name.toList)=false:=by rw [yD];exact decide_eq_false (nA hid).symm
    obtain ⟨ad',e',_,d0,d1,d2,d3,d4,d5⟩:=Last.at_ (hA.below hv) hy;injection e' with e';subst e';have hw1:IntKind.i64.wrap (((j + 1:Nat):Int) - 1)=(j:Int):=IntWalk.i64_in _ (by omega) |>.trans (by omega);clear d1 d2 d3 d4 d5 hid;rw [Addr.add_lit,Nat.zero_add] at d0;go_wp2_with fail
    go_region
    all_goals go_wp2_with fail
    all_goals go_roundw
    all_goals first
     | exact ⟨j,by omega,by omega,rfl,hv.drew,hB.below (Below.refl _ _).drew⟩
     | (simp [intOf];done)
     | (simp [intOf];omega)
  · have hkk:=qH (show k=lbN x.name xs by omega);clear hlt hk1;have hkI:(k:Int)<=(n:Int):=by omega
    have hkC:(k:Int)<=(c:Int):=by omega
    have hkC2:k<=c:=by omega
    have hnC:(n:Int)<=(c:Int):=by omega
    have hA1:∀ w',Below w.heap.size w w'->Arr w' (some ⟨g,0,none⟩) (zd Last.cells (xs.take k)):=fun w' h=>by
     rw [qI (by rw [hn.out];exact hk2)];exact (hA.below h).take _
    have hA2:∀ w',Below w.heap.size w w'->Arr w' (some ⟨g,k * 6,none⟩) (zd Last.cells (xs.drop k)):=fun w' h=>zdH (by rw [hn.out];exact hk2) (hA.below h);have hA3:k=n->∀ w',Below w.heap.size w w'->Arr w' (some ⟨g,0,none⟩) (zd Last.cells (xs.drop k)):=fun e w' _=>by
     rw [List.drop_eq_nil_of_le (by rw [hn.out,e];exact Nat.le_refl _)];exact Arr.nil _ _
    replace hA1:=qH hA1;replace hA2:=qH hA2;replace hA3:=qH hA3;have l1:(zd Last.cells (xs.take k)).length=k * 6:=by rw [yK Last.cells_length,List.length_take,hn.out,Nat.min_eq_left hk2]
    have l2:(zd Last.cells (xs.drop k)).length=(n - k) * 6:=by rw [yK Last.cells_length,List.length_drop,hn.out]
    replace l1:=qH l1;replace l2:=qH l2;by_cases hk0:k=0
    · subst hk0;go_wp2_with fail
      go_region
      all_goals (obtain ⟨wq,hwq⟩:∃ wq,wq=wr.drew:=⟨_,rfl⟩)
      all_goals rw [<-hwq]
      all_goals have hvq:Below w.heap.size w wq:=by rw [hwq];exact hv.drew
      all_goals have hBq:Blk wq w.heap.size 100 (cL x):=by rw [hwq];exact hB.below (Below.refl _ _).drew
      all_goals clear hwq hv hB x0
      all_goals by_cases hkn:0=c
      · subst hkn;obtain rfl:n=0:=by omega
        go_wp2_with (at_builtin;first
         | (refine xF _ rfl _ _ 28 100 rfl i0 _ 6 56 underlying28 hi0 hz0 hz1 hz2 rfl (by omega) w.heap.size (some ⟨wq.heap.size,0,none⟩) 0 0 [] rfl (zI wq w.heap.size _ _ hvq.size) (some ⟨g,0,none⟩) 0 0 (zd Last.cells (xs.take 0)) rfl (hA1.out _ (zc hvq _)) l1.out (xX _) (by unfold maxLen;omega) (by omega) (by rw [World.size_alloc];have:=hvq.size;omega) ?_;intro A2 c2 w2 hown2 hg2;simp only [Nat.zero_add,List.nil_append] at hown2;have hv2:=zi (zc hvq _) hg2 (zn (zI wq w.heap.size 100 6 hvq.size));have hX2:Blk w2 w.heap.size 100 (cL x):=Blk.grown (hBq.alloc _) hg2 (by have:=hBq.lt;simp [Value.ownBlock];omega);have x0:=yc0 hX2;have x1:=yc1 hX2;have x2:=yc2 hX2;have x3:=yc3 hX2;have x4:=yc4 hX2;have x5:w2.cell? ⟨w.heap.size,5,none⟩=some (.int .i64 x.p):=hX2.cell 5)
         | (refine xI w2 (cL x) rfl _ _ 28 100 rfl i0 _ 6 56 underlying28 hi0 hz0 hz1 hz2 rfl (by omega) w.heap.size (.slice A2 0 c2) 0 _ rfl rfl hown2 rfl (by simp [Value.oneCell']) (by unfold maxLen;omega) (by omega) hv2.size ?_;intro A4 c4 w4 hown4 hg4;have hv4:=zi hv2 hg4 (zn hown2))
         | (refine xF _ rfl _ _ 28 100 rfl i0 _ 6 56 underlying28 hi0 hz0 hz1 hz2 rfl (by omega) w.heap.size A4 (0 + 1) c4 _ rfl hown4 _ (0 - 0) _ (zd Last.cells (xs.drop 0)) rfl (hA3.out rfl _ hv4) (by first | exact l2.out | (rw [l2.out];simp)) (xX _) (by unfold maxLen;omega) (by omega) hv4.size ?_;intro A6 c6 w6 hown6 hg6))
        go_returns;exact OutL.ofN (uW HO.out HQ.out HH.out (by rw [hn.out];exact hf)) (by rw [vc _ _ _ (ve _ _),hn.out];first | done | omega) (by
         rw [ud,<-hkk.out,<-List.append_assoc];exact hown6) (zi hv4 hg6 (zn hown4))
      · have hkn2:¬ c=0:=fun e=>hkn e.symm;go_wp2_with (at_builtin;first
         | (refine xF _ rfl _ _ 28 100 rfl i0 _ 6 56 underlying28 hi0 hz0 hz1 hz2 rfl (by omega) w.heap.size (some ⟨wq.heap.size,0,none⟩) 0 0 [] rfl (zI wq w.heap.size _ _ hvq.size) (some ⟨g,0,none⟩) 0 c (zd Last.cells (xs.take 0)) rfl (hA1.out _ (zc hvq _)) l1.out (xX _) (by unfold maxLen;omega) (by omega) (by rw [World.size_alloc];have:=hvq.size;omega) ?_;intro A2 c2 w2 hown2 hg2;simp only [Nat.zero_add,List.nil_append] at hown2;have hv2:=zi (zc hvq _) hg2 (zn (zI wq w.heap.size 100 6 hvq.size));have hX2:Blk w2 w.heap.size 100 (cL x):=Blk.grown (hBq.alloc _) hg2 (by have:=hBq.lt;simp [Value.ownBlock];omega);have x0:=yc0 hX2;have x1:=yc1 hX2;have x2:=yc2 hX2;have x3:=yc3 hX2;have x4:=yc4 hX2;have x5:w2.cell? ⟨w.heap.size,5,none⟩=some (.int .i64 x.p):=hX2.cell 5)
         | (refine xI w2 (cL x) rfl _ _ 28 100 rfl i0 _ 6 56 underlying28 hi0 hz0 hz1 hz2 rfl (by omega) w.heap.size (.slice A2 0 c2) 0 _ rfl rfl hown2 rfl (by simp [Value.oneCell']) (by unfold maxLen;omega) (by omega) hv2.size ?_;intro A4 c4 w4 hown4 hg4;have hv4:=zi hv2 hg4 (zn hown2))
         | (refine xF _ rfl _ _ 28 100 rfl i0 _ 6 56 underlying28 hi0 hz0 hz1 hz2 rfl (by omega) w.heap.size A4 (0 + 1) c4 _ rfl hown4 _ (n - 0) _ (zd Last.cells (xs.drop 0)) rfl (hA2.out _ hv4) (by first | exact l2.out | (rw [l2.out];simp)) (xX _) (by unfold maxLen;omega) (by omega) hv4.size ?_;intro A6 c6 w6 hown6 hg6))
        go_returns;exact OutL.ofN (uW HO.out HQ.out HH.out (by rw [hn.out];exact hf)) (by rw [vc _ _ _ (ve _ _),hn.out];first | done | omega) (by
         rw [ud,<-hkk.out,<-List.append_assoc];exact hown6) (zi hv4 hg6 (zn hown4))
    · obtain ⟨j,rfl⟩:∃ j,k=j + 1:=⟨k - 1,by omega⟩
      obtain ⟨y,hy⟩:=zx (xs:=xs) (k:=j) (by rw [hn.out];omega);have hl:Op.bytesLess y.name.toList x.name.toList=true:=(rb x.name xs HP.out j y hy).2 (by have:=hkk.out;omega);obtain ⟨ad',e',_,d0,d1,d2,d3,d4,d5⟩:=Last.at_ (hA.below hv) hy;injection e' with e';subst e';have hw1:IntKind.i64.wrap (((j + 1:Nat):Int) - 1)=(j:Int):=IntWalk.i64_in _ (by omega) |>.trans (by omega);clear d1 d2 d3 d4 d5 hy hk0;rw [Addr.add_lit,Nat.zero_add] at d0;go_wp2_with fail
      go_region
      clear d0 hl
      all_goals (obtain ⟨wq,hwq⟩:∃ wq,wq=wr.drew:=⟨_,rfl⟩)
      all_goals rw [<-hwq]
      all_goals have hvq:Below w.heap.size w wq:=by rw [hwq];exact hv.drew
      all_goals have hBq:Blk wq w.heap.size 100 (cL x):=by rw [hwq];exact hB.below (Below.refl _ _).drew
      all_goals clear hwq hv hB x0
      all_goals by_cases hkn:j + 1=c
      · subst hkn;obtain rfl:n=j + 1:=by omega
        go_wp2_with (at_builtin;first
         | (refine xF _ rfl _ _ 28 100 rfl i0 _ 6 56 underlying28 hi0 hz0 hz1 hz2 rfl (by omega) w.heap.size (some ⟨wq.heap.size,0,none⟩) 0 0 [] rfl (zI wq w.heap.size _ _ hvq.size) (some ⟨g,0,none⟩) (j + 1) (j + 1) (zd Last.cells (xs.take (j + 1))) rfl (hA1.out _ (zc hvq _)) l1.out (xX _) (by unfold maxLen;omega) (by omega) (by rw [World.size_alloc];have:=hvq.size;omega) ?_;intro A2 c2 w2 hown2 hg2;simp only [Nat.zero_add,List.nil_append] at hown2;have hv2:=zi (zc hvq _) hg2 (zn (zI wq w.heap.size 100 6 hvq.size));have hX2:Blk w2 w.heap.size 100 (cL x):=Blk.grown (hBq.alloc _) hg2 (by have:=hBq.lt;simp [Value.ownBlock];omega);have x0:=yc0 hX2;have x1:=yc1 hX2;have x2:=yc2 hX2;have x3:=yc3 hX2;have x4:=yc4 hX2;have x5:w2.cell? ⟨w.heap.size,5,none⟩=some (.int .i64 x.p):=hX2.cell 5)
         | (refine xI w2 (cL x) rfl _ _ 28 100 rfl i0 _ 6 56 underlying28 hi0 hz0 hz1 hz2 rfl (by omega) w.heap.size (.slice A2 (j + 1) c2) (j + 1) _ rfl rfl hown2 rfl (by simp [Value.oneCell']) (by unfold maxLen;omega) (by omega) hv2.size ?_;intro A4 c4 w4 hown4 hg4;have hv4:=zi hv2 hg4 (zn hown2))
         | (refine xF _ rfl _ _ 28 100 rfl i0 _ 6 56 underlying28 hi0 hz0 hz1 hz2 rfl (by omega) w.heap.size A4 ((j + 1) + 1) c4 _ rfl hown4 _ 0 _ (zd Last.cells (xs.drop (j + 1))) rfl (hA3.out rfl _ hv4) (by first | exact l2.out | (rw [l2.out];simp)) (xX _) (by unfold maxLen;omega) (by omega) hv4.size ?_;intro A6 c6 w6 hown6 hg6))
        go_returns;exact OutL.ofN (uW HO.out HQ.out HH.out (by rw [hn.out];exact hf)) (by rw [vc _ _ _ (ve _ _),hn.out];first | done | omega) (by
         rw [ud,<-hkk.out,<-List.append_assoc];exact hown6) (zi hv4 hg6 (zn hown4))
      · have hkn2:¬ c=j + 1:=fun e=>hkn e.symm;go_wp2_with (at_builtin;first
         | (refine xF _ rfl _ _ 28 100 rfl i0 _ 6 56 underlying28 hi0 hz0 hz1 hz2 rfl (by omega) w.heap.size (some ⟨wq.heap.size,0,none⟩) 0 0 [] rfl (zI wq w.heap.size _ _ hvq.size) (some ⟨g,0,none⟩) (j + 1) c (zd Last.cells (xs.take (j + 1))) rfl (hA1.out _ (zc hvq _)) l1.out (xX _) (by unfold maxLen;omega) (by omega) (by rw [World.size_alloc];have:=hvq.size;omega) ?_;intro A2 c2 w2 hown2 hg2;simp only [Nat.zero_add,List.nil_append] at hown2;have hv2:=zi (zc hvq _) hg2 (zn (zI wq w.heap.size 100 6 hvq.size));have hX2:Blk w2 w.heap.size 100 (cL x):=Blk.grown (hBq.alloc _) hg2 (by have:=hBq.lt;simp [Value.ownBlock];omega);have x0:=yc0 hX2;have x1:=yc1 hX2;have x2:=yc2 hX2;have x3:=yc3 hX2;have x4:=yc4 hX2;have x5:w2.cell? ⟨w.heap.size,5,none⟩=some (.int .i64 x.p):=hX2.cell 5)
         | (refine xI w2 (cL x) rfl _ _ 28 100 rfl i0 _ 6 56 underlying28 hi0 hz0 hz1 hz2 rfl (by omega) w.heap.size (.slice A2 (j + 1) c2) (j + 1) _ rfl rfl hown2 rfl (by simp [Value.oneCell']) (by unfold maxLen;omega) (by omega) hv2.size ?_;intro A4 c4 w4 hown4 hg4;have hv4:=zi hv2 hg4 (zn hown2))
         | (refine xF _ rfl _ _ 28 100 rfl i0 _ 6 56 underlying28 hi0 hz0 hz1 hz2 rfl (by omega) w.heap.size A4 ((j + 1) + 1) c4 _ rfl hown4 _ (n - (j + 1)) _ (zd Last.cells (xs.drop (j + 1))) rfl (hA2.out _ hv4) (by first | exact l2.out | (rw [l2.out];simp)) (xX _) (by unfold maxLen;omega) (by omega) hv4.size ?_;intro A6 c6 w6 hown6 hg6))
        go_returns;exact OutL.ofN (uW HO.out HQ.out HH.out (by rw [hn.out];exact hf)) (by rw [vc _ _ _ (ve _ _),hn.out];first | done | omega) (by
         rw [ud,<-hkk.out,<-List.append_assoc];exact hown6) (zi hv4 hg6 (zn hown4))
theorem eu{base:Nat}(A:Option Addr)(xs:List Last)(n c:Nat)(x:Last)(hn:Hid (xs.length=n))(hm:(n:Int)<=1048576)(hs:Hid (∀ x ∈ xs,x.name.size<=9223372036854775807))(hsx:x.name.size<=9223372036854775807)(w:World)(hO:w.ownsRow base 100 6 (.slice A n c) n (zd Last.cells xs)) :
 Calls prog 171 #[.slice A n c,.agg #[.string x.name,.int .i64 x.length,.int .i64 x.b,.int .i64 x.i,.int .i64 x.h,.int .i64 x.p]] w (OutL 100 6 (yT xs x).1.length (zd Last.cells (yT xs x).1) (yT xs x).2 w):=by
 rcases hO.2 with ⟨hv,hz⟩ | ⟨g,cap,cur,hv,hg,hr⟩
 ·injection hv with e1 e2 e3;subst e1;exact gC xs n c x hn e2 hs hsx w (Arr.own hO)
 ·injection hv with e1 e2 e3;subst e1;exact gD g xs n c (by obtain ⟨_,_,e1,h1,_⟩:=wc hO;injection e1 with _ _ e3;omega) x hn hm hs hsx w (Arr.own hO)
theorem tj{w:World}{base e size n c:Nat}{A:Option Addr}{cs:List Value}(h:w.ownsRow base e size (.slice A n c) n cs):∀ a,A=some a->base<=a.block:=fun a e=>zn h _ (qf h a e)
theorem jD{w:World}{base e size n c:Nat}{A:Option Addr}{cs:List Value}(h:w.ownsRow base e size (.slice A n c) n cs):∀ a,A=some a->a.block < w.heap.size:=fun a e=>yr h _ (qf h a e)
theorem vG(p:Value)(w:World):Calls prog 41 #[p,.int .i64 0] w (RetQ (.bool false) w):=by
 go_in;go_wp2;go_returns;exact RetQ.mk rfl
theorem SR.lasts{w0 w:World}{g:Nat}{d:Dk}{O:List ByteArray}{ns:List Int}{ts:List ByteArray}{A Ao An At A2:Option Addr}{n c no co kn cn kt ct n2 c2:Nat}(h:SR w0 w g d O ns ts A Ao An At n c no co kn cn kt ct){ys:List Last}(hn2:ys.length=n2)(ho:w.ownsRow w0.heap.size 100 6 (.slice A2 n2 c2) n2 (zd Last.cells ys))(h2g:∀ ad,A2=some ad->ad.block≠g)(h2o:∀ a o,A2=some a->Ao=some o->a.block≠o.block)(h2n:∀ a o,A2=some a->An=some o->a.block≠o.block)(h2t:∀ a o,A2=some a->At=some o->a.block≠o.block) :
 SR w0 (w.setCell ⟨g,4,none⟩ (.slice A2 n2 c2)) g ⟨d.f,ys,d.s,d.lg⟩ O ns ts A2 Ao An At n2 c2 no co kn cn kt ct:=by
 have hsz:(w.setCell ⟨g,4,none⟩ (.slice A2 n2 c2)).heap.size=w.heap.size:=World.size_setCell _ _ _;have hg:=xj w g 4 (.slice A2 n2 c2);have far:∀ {E size m:Nat} {B:Option Addr} {q:Nat} {cs:List Value},w.ownsRow w0.heap.size E size (.slice B m q) m cs->(∀ ad,B=some ad->ad.block≠g)->(w.setCell ⟨g,4,none⟩ (.slice A2 n2 c2)).ownsRow w0.heap.size E size (.slice B m q) m cs:=fun {E size m B q cs} hb h1=>yy hb (p:=⟨g,4,none⟩) (fun p e=>by
  cases B with
  | none=>cases e
  | some ad=>injection e with e;subst e;exact h1 ad rfl) _
 have lt:∀ {B:Option Addr},(∀ ad,B=some ad->ad.block≠g/\ad.block < w.heap.size)->∀ ad,B=some ad->ad.block≠g/\ad.block < (w.setCell ⟨g,4,none⟩ (.slice A2 n2 c2)).heap.size:=fun hB ad e=>⟨(hB ad e).1,by rw [hsz];exact (hB ad e).2⟩
 exact ⟨h.blk.set_ 4 _,hn2,h.ho,h.hk,h.ht,far ho h2g,far h.out (fun ad e=>(h.og ad e).1),h.nums.grown hg (fun ad e e2=>by injection e2 with e2;exact (h.ng ad e).1 e2),h.texts.grown hg (fun ad e e2=>by injection e2 with e2;exact (h.tg ad e).1 e2),
  fun ad e=>⟨h2g ad e,by rw [hsz];exact jD ho ad e⟩,lt h.og,lt h.ng,lt h.tg,h2o,h.no_,h.to_,zF h.bel (p:=⟨g,4,none⟩) (.inl rfl) _,h2n,h2t⟩
theorem zb4(w0 w:World)(g:Nat)(d:Dk)(O:List ByteArray)(ns:List Int)(ts:List ByteArray)(A Ao An At:Option Addr)(n c no co kn cn kt ct:Nat)(t:ByteArray)(h:SR w0 w g d O ns ts A Ao An At n c no co kn cn kt ct)(hno:no<=900000)(hd:d.ok=true)(ht:ts[0]?=some t)(htz:t.size<=4194304) :
 Calls prog 104 #[.pointer (some ⟨g,0,none⟩)] w (vl w0 g (xt d t).1 (O ++ wS (xt d t)) ns ts w (.tuple #[])):=by
 obtain ⟨ad,hAt,hcol,d0⟩:=zh h.texts ht;subst hAt;have d1:w.cell? ad=some (.string t):=by rw [<-show ad.add 0=ad from by unfold Addr.add;split <;> simp_all];exact d0
 have hkt:0 < kt:=by rw [<-h.ht];exact (List.getElem?_eq_some_iff.1 ht).1
 have c17:=uz h.blk;obtain ⟨hfB,hlB,hsB,hcB⟩:=yj hd;have HFB:=qH hfB;have hn30:n<=30:=by rw [<-h.hn];exact wj hlB
 have HNZ:Hid (∀ x ∈ d.xs,x.name.size<=9223372036854775807):=qH (fun x hx=>Nat.le_trans (yH (xc hlB x hx)) (by omega));have HRF:=fun w=>gI t htz w;have HSO:=qH (fun x (h:wg t=some x)=>(lT h).2);have HNO:=qH (fun (h:wg t=none)=>(show xt d t=(d,[],7) by unfold xt;rw [h];rfl));have HYE:=qH (fun x (h:wg t=some x)=>(show xt d t=if (yT d.xs x).2=0 then (⟨d.f,(yT d.xs x).1,d.s,d.lg⟩,[tp d.f (yT d.xs x).1.length],0) else (d,[],(yT d.xs x).2) by unfold xt;rw [h];rfl));obtain ⟨o,ho⟩:=zN (wg t);rw [<-ho] at HRF HSO HNO HYE;replace HRF:=qH HRF;have H:=qH h;have HN:=qH h.hn;clear ho h hfB hlB hsB hcB hd;go_in;go_wp2_with fail;refine qS (HRF.out _) fun W2 hb=>?_;have HR2:=qH (H.out.below hb);obtain ⟨gz,hgz⟩:=zN W2.heap.size;obtain ⟨W3,hW3⟩:=zN (W2.alloc (Obj.cells cM 100));have HB0:Hid (Blk W3 gz 100 cM):=qH (by rw [hW3,hgz];exact Blk.new _ _ _);have hb3:Below W2.heap.size W2 W3:=by rw [hW3];exact zc (Below.refl _ _) _
 have hgne:g < gz:=by have:=HR2.out.blk.lt;omega
 have hz2:=hb.size;have hgz2:W2.heap.size<=gz:=by omega
 clear d0 d1 hcol c17;have HG:=qH hgz;have HW:=qH hW3;have HZ2:=qH hz2;clear hgz hW3 hz2 hb;cases o with
 | none=>
   rw [show vt none=#[.agg #[.string ⟨#[]⟩,.int .i64 0,.int .i64 0,.int .i64 0,.int .i64 0,.int .i64 0],.bool false] from rfl];have HE:=qH (HNO.out rfl);go_wp2_with (first
    | (rw [<-HW.out,<-HG.out];refine yS gz cM HB0.out ?_))
   have HS4:=qH (HR2.out.below (zg hb3 hgz2 cM));have hb4:=(zg hb3 hgz2 cM).size;obtain ⟨W4,hW4⟩:=zN (World.setRow W3 gz cM);rw [<-hW4] at HS4 hb4 |-;clear hW4;refine (yP w0 W4 g d O ns ts A Ao An (some ad) n c no co kn cn kt ct HS4.out (by omega) 7).mono ?_;rintro e W5 ⟨rfl,hz5,hr5⟩;go_wp2;go_returns;have hz2:=HZ2.out;rw [HE.out];exact ⟨rfl,by omega,hr5⟩
 | some x=>
   rw [show vt (some x)=#[.agg #[.string x.name,.int .i64 x.length,.int .i64 x.b,.int .i64 x.i,.int .i64 x.h,.int .i64 x.p],.bool true] from rfl];have HXB:=qH (HSO.out x rfl);have hxz:x.name.size<=9223372036854775807:=Nat.le_trans (yH HXB.out) (by omega);have HE:=qH (HYE.out x rfl);clear HSO HNO HYE HRF;have HAL:=fun {b:Nat} w h=>eu (base:=b) A d.xs n c x HN (by omega) HNZ hxz w h;have hap:=kN d.xs x;obtain ⟨ys,hys⟩:=zN ((yT d.xs x).1);obtain ⟨cc,hco⟩:=zN ((yT d.xs x).2);rw [<-hys] at HAL HE hap;rw [<-hco] at HAL HE;clear hys hco;obtain ⟨n2,hn2⟩:=zN ys.length;rw [<-hn2] at HAL hap HE;have HN2:Hid (ys.length=n2):=qH hn2.symm;clear hn2;replace HAL:=fun w h=>qH (@HAL w0.heap.size w h);have HALH:=qH HAL;clear HAL;go_upto_region 3 with (rw [<-HW.out,<-HG.out];refine yS gz (cL x) HB0.out ?_)
   have HF4:Hid (Blk (World.setRow W3 gz (cL x)) gz 100 (cL x)):=qH (setRow_heap _ _ _ _ _ _ HB0.out);have HS4:=qH (HR2.out.below (zg hb3 hgz2 (cL x)));have HZ4:=qH (zg hb3 hgz2 (cL x)).size;obtain ⟨W4,hW4⟩:=zN (World.setRow W3 gz (cL x));rw [<-hW4] at HF4 HS4 HZ4 |-;clear hW4;obtain ⟨m0,m1,m2,m3,m4,m5⟩:=qC6 HF4.out;have c4:=yc4 HS4.out.blk;refine zH (fun w'=>Below W4.heap.size W4 w'/\True) ?_ (fun hHeld=>?_)
   ·exact ⟨(Below.refl _ _).drew,trivial⟩
   have hd9:=hHeld.1;refine zU 0 21 ?_;refine zU 1 22 ?_;refine zU 2 23 ?_;refine zU 3 24 ?_;refine zT 4 25 rfl (fun w hSw=>by
    have x_c4:=zb hSw.1 c4;go_simp;try with_reducible rfl) ?_
   refine zT 5 26 rfl (fun w hSw=>by
    have x_m0:=zb hSw.1 m0;have x_m1:=zb hSw.1 m1;have x_m2:=zb hSw.1 m2;have x_m3:=zb hSw.1 m3;have x_m4:=zb hSw.1 m4;have x_m5:=zb hSw.1 m5;go_simp;try with_reducible rfl) ?_
   refine zR 6 (some 27) rfl (fun K hK=>?_);go_simp;go_split_ands;refine ((HALH.out _ (ze HS4.out.own hd9)).out).mono ?_;rintro e V ⟨A2,c2,rfl,hown,hb9⟩;have hown2:=yF hown hd9.size;replace hd9:=za hd9 hb9;clear hb9 hown;go_wp2_with fail;refine zK hK ⟨hd9,trivial⟩ (fun hHeld=>?_);clear hK K;refine zU 7 20 ?_;refine zU 8 28 ?_;refine zU 9 29 ?_;refine zU 10 4 ?_;refine zU 11 5 ?_;refine zD ?_;clear hHeld c4 m0 m1 m2 m3 m4 m5 HALH;have HSV:=qH (HS4.out.below hd9);have HO2:=qH (yF hown2 HS4.out.bel.size);have h2g:Hid (∀ ad,A2=some ad->ad.block≠g):=qH (fun ad e=>by have:=tj hown2 ad e;have:=HS4.out.blk.lt;omega);have h2o:Hid (∀ a o,A2=some a->Ao=some o->a.block≠o.block):=qH (fun a o e1 e2=>by have:=tj hown2 a e1;have:=(HS4.out.og o e2).2;omega);have h2n:Hid (∀ a o,A2=some a->An=some o->a.block≠o.block):=qH (fun a o e1 e2=>by have:=tj hown2 a e1;have:=(HS4.out.ng o e2).2;omega);have h2t:Hid (∀ a o,A2=some a->some ad=some o->a.block≠o.block):=qH (fun a o e1 e2=>by have:=tj hown2 a e1;have:=(HS4.out.tg o e2).2;omega);have HZV:=qH hd9.size;clear hown2 hd9 HS4;by_cases hc:cc=0
   case neg=>
    rw [if_neg hc] at HE;have HRP:=qH (yP w0 V g d O ns ts A Ao An (some ad) n c no co kn cn kt ct HSV.out (by omega) cc);rw [if_neg hc,decide_eq_true hc] at HRP;have HCC:=qH hc;clear hc;go_wp2_with fail;refine HRP.out.mono ?_;rintro e W5 ⟨rfl,hz5,hr5⟩;go_wp2;go_returns;have hz2:=HZ2.out;have hz4:=HZ4.out;have hzv:=HZV.out;rw [HE.out,show wS (d,[],cc)=[wZ cc] from if_neg HCC.out];exact ⟨rfl,by omega,hr5⟩
   subst hc;rw [if_pos rfl] at HE;have HR0:=qH (vG (.pointer (some ⟨g,0,none⟩)) V);have c4:=yc4 HSV.out.blk;have f4:V.frozen? ⟨g,4,none⟩=false:=HSV.out.blk.frozen 4;have HS5:=qH (HSV.out.lasts HN2.out HO2.out h2g.out h2o.out h2n.out h2t.out);have hz5:(V.setCell ⟨g,4,none⟩ (.slice A2 n2 c2)).heap.size=V.heap.size:=World.size_setCell _ _ _;go_wp2_with fail;refine HR0.out.mono ?_;rintro e V' ⟨rfl,rfl⟩;go_upto_region 6 with fail;obtain ⟨V2,hV2⟩:=zN (V'.setCell ⟨g,4,none⟩ (.slice A2 n2 c2));rw [<-hV2] at HS5 hz5 |-;have HZ5:=qH hz5;clear hV2 f4 c4 HSV HO2 hz5;have HDT:=qH (dx d.f A2 n2 c2 HFB (by omega) g V2 (HS5.out.blk.cell 0) (HS5.out.blk.cell 1) (HS5.out.blk.cell 2) (HS5.out.blk.cell 3) (HS5.out.blk.cell 4));go_wp2_with fail;refine qS HDT.out fun W6 hb6=>?_;have HS6:=qH (HS5.out.below hb6);have HZ6:=qH hb6.size;clear hb6 HS5 HDT;go_wp2_with fail;refine (sZ w0 W6 g _ O ns ts A2 Ao An (some ad) n2 c2 no co kn cn kt ct HS6.out (by omega) (tp d.f n2)).mono ?_;rintro e W7 ⟨rfl,hz7,hr7⟩;go_wp2;go_returns;have hz2:=HZ2.out;have hz4:=HZ4.out;have hzv:=HZV.out;have hz5:=HZ5.out;have hz6:=HZ6.out;rw [HE.out];exact ⟨rfl,by omega,hr7⟩
def uu(L:List ByteArray):ByteArray:=yB ⟨#[59,32]⟩ (L.filter fun y=>!decide (y.size=0))
theorem zcY{L:List ByteArray}{y:ByteArray}(h:y.size=0):uu (L ++ [y])=uu L:=by
 unfold uu;rw [List.filter_append];simp only [List.filter_cons,List.filter_nil,decide_eq_true h,Bool.not_true,Bool.false_eq_true,if_false,List.append_nil]
theorem zcZ{L:List ByteArray}{y:ByteArray}(h:y.size≠0)(h1:(uu L).size=0):uu (L ++ [y])=uu L ++ y:=by
 unfold uu at h1 |-;rw [List.filter_append];simp only [List.filter_cons,List.filter_nil,decide_eq_false h,Bool.not_false,if_true];have hm:∀ z ∈ L.filter (fun y=>!decide (y.size=0)),z.size≠0:=fun z hz=>by simpa using (List.mem_filter.1 hz).2
 generalize L.filter (fun y=>!decide (y.size=0))=M at h1 hm |-;cases M with
 | nil=>rw [List.nil_append,rL];apply ByteArray.ext;simp [yB,Lib.join_nil]
 | cons a r=>
   have ha:=hm a (by simp);have:(yB ⟨#[59,32]⟩ (a :: r)).size=a.size + (Lib.joinTail [59,32] (r.map (·.data.toList))).length:=by
    rw [<-zu];unfold yB;simp [Lib.join_cons]
   omega
theorem zc0{L:List ByteArray}{y:ByteArray}(h:y.size≠0)(h1:(uu L).size≠0):uu (L ++ [y])=(uu L ++ ⟨#[59,32]⟩) ++ y:=by
 unfold uu at h1 |-;rw [List.filter_append];simp only [List.filter_cons,List.filter_nil,decide_eq_false h,Bool.not_false,if_true];generalize L.filter (fun y=>!decide (y.size=0))=M at h1 |-;cases M with
 | nil=>exact absurd rfl h1
 | cons a r=>exact qO _ _ _ _
theorem ji:∀ L:List ByteArray,L.flatMap wu=L.filter fun y=>!decide (y.size=0)
 | []=>rfl
 | y :: r=>by
   rw [List.flatMap_cons,ji r,List.filter_cons];unfold wu;by_cases h:y.size=0
   ·rw [if_pos h,decide_eq_true h];rfl
   ·rw [if_neg h,decide_eq_false h];rfl
theorem zbF(x:Style):xQ x=uu (xA x):=by
 unfold xQ vf uu yB;rw [ji];rfl
theorem zb6{x:Style}(hx:yZ x=true):∀ t ∈ xA x,t.size<=31:=by
 obtain ⟨h0,h1,h2,h3,h4,h5⟩:=kf hx;intro t ht;simp only [xA,List.mem_cons,List.not_mem_nil,or_false] at ht;rcases ht with rfl | rfl | rfl | rfl | rfl | rfl <;> omega
theorem nX(x:Style)(hx:Hid (yZ x=true))(g:Nat)(w:World)(hB:Blk w g 30 (cS x)):Calls prog 162 #[.pointer (some ⟨g,0,none⟩)] w (Ret (.string (xQ x)) w):=by
 rw [zbF];have HC:=dv x (qH (pq hx.out)) g w hB;unfold kE at HC;have HZ:=qH (zb6 hx.out);obtain ⟨TS,hTS⟩:=zN (xA x);have hl6:TS.length=6:=by rw [hTS];rfl
 rw [<-hTS] at HC HZ |-;replace HC:=qH HC;have HL6:=qH hl6;clear hTS hl6 hB hx;go_in;go_wp2_with fail;refine HC.out.mono ?_;rintro e W ⟨gl,rfl,_,hT,hv⟩;have HT:=qH hT;clear hT HC;go_wp2_with fail
 go_loopw [4,5] (fun v i wr=>∃ (j:Nat) (t:ByteArray),j<=6/\i=.int .i64 j/\v=.string t/\Hid (t=uu (TS.take j))/\t.size<=40 * j/\Below W.heap.size W wr) (fun _ i _=>6 - (intOf i).toNat)
 case atStart=>exact ⟨0,⟨#[]⟩,by omega,rfl,rfl,qH rfl,by decide,Below.refl _ _⟩
 case round=>
 obtain ⟨j,t,hj,rfl,rfl,HA,htz,hbel⟩:=hrel;have hj0:(0:Int)<=(j:Int):=by omega
 by_cases hlt:j < 6
 case neg=>
  have hj1:¬ (j:Int) < 6:=by omega
  have e9:t=uu TS:=by rw [HA.out,List.take_of_length_le (by rw [HL6.out];omega)]
  have HE9:=qH e9;clear e9;go_wp2;go_returns;exact Ret.mk (show Value.string t=Value.string (uu TS) from by rw [<-HE9.out]) (za hv hbel)
 case pos=>
 have hj1:(j:Int) < 6:=by omega
 obtain ⟨y,hy⟩:=zx (xs:=TS) (k:=j) (by rw [HL6.out];exact hlt);have c0:wr.cell? ⟨gl,j,none⟩=some (.string y):=by
  rw [(HT.out.below hbel).cell j];simp [hy]
 have hyz:=HZ.out y (List.mem_of_getElem? hy);have l2:(⟨#[59,32]⟩:ByteArray).size=2:=rfl;have hE:=wm y;have hE2:(y.toList == [])=decide (y.size=0):=by rw [<-hE];cases y.toList <;> rfl
 have hF:=wm t;have HTK:=qH (yJ hy);clear hy;by_cases h0:y.size=0
 ·have HN:=qH (zcY (L:=TS.take j) h0);rw [decide_eq_true h0] at hE hE2;clear h0;go_wp2_with fail;exact ⟨⟨j + 1,t,by omega,by go_num,rfl,qH (by rw [HTK.out,HN.out];exact HA.out),by omega,hbel⟩,by simp [intOf];omega⟩
 · have HN1:=qH (zcZ (L:=TS.take j) h0);have HN2:=qH (zc0 (L:=TS.take j) h0);rw [<-HA.out] at HN1 HN2;rw [decide_eq_false h0] at hE hE2;clear h0;by_cases h1:t.size=0
   ·have HN:=qH (HN1.out h1);rw [decide_eq_true h1] at hF;have a0:=fun (w:World)=>run_string_add_sum (P:=prog) w t y (by omega);go_wp2_with fail;exact ⟨⟨j + 1,t ++ y,by omega,by go_num,rfl,qH (by rw [HTK.out,HN.out]),by rw [zv];omega,hbel⟩,by simp [intOf];omega⟩
   ·have HN:=qH (HN2.out h1);rw [decide_eq_false h1] at hF;have a0:=fun (w:World)=>run_string_add_sum (P:=prog) w t ⟨#[59,32]⟩ (by omega);have a1:=fun (w:World)=>run_string_add_sum (P:=prog) w (t ++ ⟨#[59,32]⟩) y (by rw [zv];omega);go_wp2_with fail;exact ⟨⟨j + 1,t ++ ⟨#[59,32]⟩ ++ y,by omega,by go_num,rfl,qH (by rw [HTK.out,HN.out]),by simp only [zv];omega,hbel⟩,by simp [intOf];omega⟩
end Go.Proofs.YtpiehlfffjhoaaaGreatDoor
