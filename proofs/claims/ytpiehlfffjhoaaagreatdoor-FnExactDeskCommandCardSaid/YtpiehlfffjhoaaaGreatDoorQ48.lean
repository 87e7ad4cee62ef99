/- Lemmas for the law on the console: the parts CrZ,CsA,CsB,DkO,CsC. -/
import Derived.Test.YtpiehlfffjhoaaaGreatDoorQ47
namespace Go.Proofs.YtpiehlfffjhoaaaGreatDoor
open Go.RowKit Go.Proofs.Tryz
set_option maxRecDepth 100000
set_option maxHeartbeats 16000000
theorem dP{d:Dk}(h:d.ok=true){ws:List ByteArray}(_hd:isD ws=true):oq (wR d ws).2.1:=by
 unfold wR;split
 ·exact wh (jb 7)
 · split
   ·exact cY h _ _
   ·exact wh (jb _)
theorem zaD{d:Dk}{O ws:List ByteArray}(h:isD ws=true):doS d O ws=((wR d ws).1,O ++ (wR d ws).2.1):=if_pos h
theorem dZ{P:Program}{o:Oper}{a:Act}{K:Act->World->Prop}{Q:Exit->Act->World->Prop}(w:World)(s x:Operand)(t e:TypeId)(ho:o.op=.call { callee:=.builtin .append,args:=#[s,x],argTypes:=#[t,t] })(i:TypeInfo)(z:Value)(size bytes:Nat)(ht:P.underlying t=some (.slice e))(hi:P.info? e=some i)(hz:i.zero=some z)(hsize:i.size=size)(hby:i.bytes=bytes)(hzs:z.cells.size=size)(hsz:0 < size)(base:Nat)(A:Option Addr)(n cp:Nat)(cs:List Value)(hs:a.eval s=.slice A n cp)(hown:w.ownsRow base e size (.slice A n cp) n cs)(B:Option Addr)(m c:Nat)(C:List Value)(hx:a.eval x=.slice B m c)(hA:Arr w B C)(hl:C.length=m * size)(h1:∀ u ∈ C,u.oneCell'=true)(h63:n + m<=maxLen)(hbytes:(n + m) * bytes<=140737488355328)(hbase:base<=w.heap.size)(h:∀ A7 c' w',w'.ownsRow base e size (.slice A7 (n + m) c') (n + m) (cs ++ C)->w.grownBy w' (A.map (·.block))->K (a.put o.dst (.slice A7 (n + m) c')) w') :
 o.wp P a w K Q:=by
 by_cases hm:0 < m
 ·obtain ⟨ad,rfl,_,_⟩:=hA.at_ (j:=0) (by rw [hl];exact Nat.mul_pos hm hsz);exact rY w s x t e ho i z size bytes ht hi hz hsize hby hzs hsz base A n cp cs hs hown ad m c C hm hx hA hl h1 h63 hbytes hbase (fun g c' w' h2 h3 _=>h _ _ _ h2 h3)
 · obtain rfl:m=0:=by omega
   obtain rfl:C=[]:=List.eq_nil_of_length_eq_zero (by rw [hl,Nat.zero_mul]);have hnc:n<=cp:=by obtain ⟨_,_,e1,h1,_⟩:=wc hown;injection e1 with _ _ e3;omega
   have hsrc:Go.Src P i.size t (.slice B 0 c) 0 [] w:=by
    cases B with
    | none=>exact Go.Src.ofNil w ht c
    | some ad=>exact Go.Src.ofSlice w ht ad 0 c [] (by simp) (fun j u hu=>by cases hu) (fun u hu=>by cases hu)
   have hr:=run_append_nothing (P:=P) w t t o.type e i ht hi A n cp hnc (.slice B 0 c) hsrc;unfold Oper.wp execOp;simp only [ho,resolve,invoke,builtin,Sem.run_bind,Sem.run_pure,Result.andThen_ok,List.map_toArray,List.map_cons,List.map_nil,hs,hx,hr];exact h A cp w (by rw [List.append_nil];exact hown) (World.grownBy.refl w _)
theorem bV(g:Nat)(f:Foot)(s:Style)(lg:ByteArray)(A:Option Addr)(xs:List Last)(n c:Nat)(hn:Hid (xs.length=n))(hm:(n:Int)<=1048576)(w:World)(hB:Blk w g 32 (cD f A n c s lg))(hA:Arr w A (zd Last.cells xs)) :
 Calls prog 47 #[.pointer (some ⟨g,0,none⟩)] w (zbN f xs n s lg w):=by
 obtain ⟨i0,hi0,hz0,hz1,hz2⟩:=info_parts (P:=prog) (e:=100) (z:=.agg #[.string ByteArray.empty,.int .i64 0,.int .i64 0,.int .i64 0,.int .i64 0,.int .i64 0]) (size:=6) (bytes:=56) sP;have hlen:=qH (show (zd Last.cells xs).length=n * 6 by rw [yK Last.cells_length,hn.out]);have HA:=qH hA;obtain ⟨k0,k1,k2,k3,k4,k5,k6,k7,k8,k9,k10,k11,k12,k13,k14⟩:=yY hB;clear hA hB;go_in;go_upto_region 1 with fail;obtain ⟨W,hW⟩:=zN (w.alloc (Obj.cells cE 32));obtain ⟨gz,hgz⟩:=zN w.heap.size;have HZ:Hid (Blk W gz 32 cE):=qH (by rw [hW,hgz];exact Blk.new _ _ _);have hv:Below w.heap.size w W:=by rw [hW];exact zc (Below.refl _ _) _
 have hgw:w.heap.size<=gz:=by omega
 have hgz1:W.heap.size=gz + 1:=by rw [hW,World.size_alloc,hgz]
 rw [<-hW,<-hgz];clear hW hgz;have HZd:=qH (HZ.out.below (Below.refl W.heap.size W).drew);clear HZ;refine zH (fun w'=>Below w.heap.size w w'/\True) ?_ (fun hHeld=>?_)
 ·exact ⟨hv.drew,trivial⟩
 have hd9:=hHeld.1;clear hv;refine zU 0 3 ?_;refine zU 1 4 ?_;refine zU 2 5 ?_;refine zT 3 6 rfl (fun w hSw=>by
  have x_k0:=zb hSw.1 k0;have x_k1:=zb hSw.1 k1;have x_k2:=zb hSw.1 k2;have x_k3:=zb hSw.1 k3;go_simp;try with_reducible rfl) ?_
 refine zU 5 8 ?_;refine zU 6 9 ?_;refine zU 7 10 ?_;refine zT 8 11 rfl (fun w hSw=>by
  have x_k4:=zb hSw.1 k4;go_simp;try with_reducible rfl) ?_
 refine zU 10 13 ?_;refine zU 11 14 ?_;refine zU 12 15 ?_;refine zT 13 16 rfl (fun w hSw=>by
  have x_k5:=zb hSw.1 k5;have x_k6:=zb hSw.1 k6;have x_k7:=zb hSw.1 k7;have x_k8:=zb hSw.1 k8;have x_k9:=zb hSw.1 k9;have x_k10:=zb hSw.1 k10;have x_k11:=zb hSw.1 k11;have x_k12:=zb hSw.1 k12;have x_k13:=zb hSw.1 k13;go_simp;try with_reducible rfl) ?_
 refine zU 14 17 ?_;refine zU 15 18 ?_;refine zU 16 19 ?_;refine zT 17 20 rfl (fun w hSw=>by
  have x_k14:=zb hSw.1 k14;go_simp;try with_reducible rfl) ?_
 refine zR 4 (some 7) rfl (fun K hK=>?_);go_simp;go_split_ands;obtain ⟨V1,hV1⟩:=zN ((W.alloc (Obj.cells #[] 100)).drew);have hO1:=qH (show V1.ownsRow (gz + 1) 100 6 (.slice (some ⟨gz + 1,0,none⟩) 0 0) 0 [] by rw [hV1,<-hgz1];exact zI W.drew W.heap.size 100 6 (Nat.le_refl _));have hZ1:=qH (show Blk V1 gz 32 cE by rw [hV1];exact HZd.out.alloc _);have hd1:Below w.heap.size w V1:=by rw [hV1];exact zc hd9 _
 have hzV:gz + 1<=V1.heap.size:=hZ1.out.lt;rw [<-hV1];clear hV1 HZd hd9;refine zK hK ⟨hd1,trivial⟩ (fun hHeld=>?_);clear hK K;refine zR 9 (some 12) rfl (fun K hK=>?_)
 skip
 go_split_ands;have hA1:=HA.out.below hd1;refine dZ V1 _ _ 28 100 rfl i0 _ 6 56 underlying28 hi0 hz0 hz1 hz2 rfl (by omega) (gz + 1) (some ⟨gz + 1,0,none⟩) 0 0 [] rfl hO1.out A n c (zd Last.cells xs) rfl hA1 hlen.out (xX _) (by unfold maxLen;omega) (by omega) hzV ?_;intro A2 c2 V2 hown2 hg2;rw [Nat.zero_add,List.nil_append] at hown2;have hO2:=qH hown2;have hZ2:=qH (Blk.grown hZ1.out hg2 (by simp));have hd2:Below w.heap.size w V2:=zi hd1 hg2 (fun k e=>by simp at e;omega);have hd2z:=hd2.size;rw [Nat.zero_add];clear hA1 hown2 hg2 hZ1 hO1;refine zK hK ⟨hd2,trivial⟩ (fun hHeld=>?_);clear hK K;refine zU 18 21 ?_;refine zR 19 none rfl (fun K hK=>?_)
 skip
 go_split_ands;refine wp_store_row 32 _ _ rfl gz (cD f A2 n c2 s lg) rfl rfl 32 cE hZ2.out (by kernel_rfl) rfl (by simp [Value.oneCell']) ?_;have HF:=qH (show Blk (World.setRow V2 gz (cD f A2 n c2 s lg)) gz 32 (cD f A2 n c2 s lg) from setRow_heap _ _ _ _ _ _ hZ2.out);have HOF:=qH (wD (g:=gz) hO2.out (fun k e=>by have:=zn hO2.out k e;omega) (cD f A2 n c2 s lg));have hdF:=zg hd2 hgw (cD f A2 n c2 s lg);obtain ⟨V3,hV3⟩:=zN (World.setRow V2 gz (cD f A2 n c2 s lg));rw [<-hV3] at HF HOF hdF |-;clear hV3 hZ2 hO2 hd2;refine hK.out _ _ ?_ (fun hHeld=>?_)
 ·(try dsimp only);go_split_ands;exact ⟨hdF,trivial⟩
 clear hK K;try simp only [Act.put]
 refine zD ?_;clear hHeld;go_wp2_with fail;try simp only [Exit.inBlock,Exit.then]
 refine bodyPost_ret (results_cell_row (P:=prog) rfl _ _ gz 32 (cD f A2 n c2 s lg) (0,0) _ rfl ?_ underlying32 rfl (by kernel_rfl)) rfl ?_
 ·exact HF.out
 ·exact ⟨A2,c2,rfl,yF HOF.out (by omega),hdF⟩
def OutSc(r:xD)(w:World)(e:Ending)(w':World):Prop:=∃ (A:Option Addr) (n c:Nat) (B:Option Addr) (k c':Nat),e=.returned (.tuple #[.agg #[.int .i64 r.1.f.length,.int .i64 r.1.f.b,.int .i64 r.1.f.i,.int .i64 r.1.f.h,.slice A n c,.string r.1.s.u,.string r.1.s.c,.string r.1.s.l,.string r.1.s.s,.int .i64 r.1.s.t,.int .i64 r.1.s.h,.int .i64 r.1.s.e,.int .i64 r.1.s.d,.bool r.1.s.q,.string r.1.lg],.slice B k c',.int .i64 r.2.2])/\Below w.heap.size w w'/\r.1.xs.length=n/\r.2.1.length=k/\w'.ownsRow w.heap.size 100 6 (.slice A n c) n (zd Last.cells r.1.xs)/\w'.ownsRow w.heap.size 9 1 (.slice B k c') k (zd zt r.2.1)
theorem OutSc.zero{r:xD}{w W:World}{co:Int}{g4:Nat}(hr:r=(zDk,[],co))(hb:Below w.heap.size w W)(hg:w.heap.size<=g4)(row:Array Value):OutSc r w (.returned (.tuple #[.agg #[.int .i64 0,.int .i64 0,.int .i64 0,.int .i64 0,.slice none 0 0,.string ⟨#[]⟩,.string ⟨#[]⟩,.string ⟨#[]⟩,.string ⟨#[]⟩,.int .i64 0,.int .i64 0,.int .i64 0,.int .i64 0,.bool false,.string ⟨#[]⟩],.slice none 0 0,.int .i64 co])) (World.setRow W g4 row):=by
 subst hr;exact ⟨none,0,0,none,0,0,rfl,zg hb hg row,rfl,rfl,World.ownsRow_nil _ _ _ _,World.ownsRow_nil _ _ _ _⟩
theorem OutSc.mk{r:xD}{w W:World}{d:Dk}{L:List ByteArray}{co:Int}{A B:Option Addr}{n c k c':Nat}(hr:r=(d,L,co))(hn:d.xs.length=n)(hk:L.length=k)(hb:Below w.heap.size w W)(h1:W.ownsRow w.heap.size 100 6 (.slice A n c) n (zd Last.cells d.xs))(h2:W.ownsRow w.heap.size 9 1 (.slice B k c') k (zd zt L)) :
 OutSc r w (.returned (.tuple #[.agg #[.int .i64 d.f.length,.int .i64 d.f.b,.int .i64 d.f.i,.int .i64 d.f.h,.slice A n c,.string d.s.u,.string d.s.c,.string d.s.l,.string d.s.s,.int .i64 d.s.t,.int .i64 d.s.h,.int .i64 d.s.e,.int .i64 d.s.d,.bool d.s.q,.string d.lg],.slice B k c',.int .i64 co])) W:=by
 subst hr;exact ⟨A,n,c,B,k,c',rfl,hb,hn,hk,h1,h2⟩
theorem zdE{w0 w:World}{g:Nat}{d:Dk}{A:Option Addr}{n c:Nat}(h:Blk w g 73 #[.int .i64 d.f.length,.int .i64 d.f.b,.int .i64 d.f.i,.int .i64 d.f.h,.slice A n c,.string d.s.u,.string d.s.c,.string d.s.l,.string d.s.s,.int .i64 d.s.t,.int .i64 d.s.h,.int .i64 d.s.e,.int .i64 d.s.d,.bool d.s.q,.string d.lg,.slice none 0 0,.slice none 0 0,.slice none 0 0])(hn:d.xs.length=n)(ho:w.ownsRow w0.heap.size 100 6 (.slice A n c) n (zd Last.cells d.xs))(ha:∀ ad,A=some ad->ad.block≠g/\ad.block < w.heap.size)(hb:w0.grownBy w (some g)):SR w0 w g d [] [] [] A none none none n c 0 0 0 0 0 0:=
 ⟨h,hn,rfl,rfl,rfl,ho,World.ownsRow_nil _ _ _ _,Arr.nil _ _,Arr.nil _ _,ha,(fun _ e=>by cases e),(fun _ e=>by cases e),(fun _ e=>by cases e),(fun _ _ _ e=>by cases e),(fun _ _ e=>by cases e),(fun _ _ e=>by cases e),hb,(fun _ _ _ e=>by cases e),(fun _ _ _ e=>by cases e)⟩
theorem mH(f:Foot)(s:Style)(lg:ByteArray)(A:Option Addr)(xs:List Last)(n c:Nat)(hn:Hid (xs.length=n))(hm:(n:Int)<=1048576)(hs:Hid (∀ x ∈ xs,x.name.size<=9223372036854775807))(hx:Hid s.fits)(hl:lg.size<=1048576)(line:ByteArray)(hz:line.size<=1048576)(w:World)(hA:Arr w A (zd Last.cells xs)) :
 Calls prog 15 #[.agg #[.int .i64 f.length,.int .i64 f.b,.int .i64 f.i,.int .i64 f.h,.slice A n c,.string s.u,.string s.c,.string s.l,.string s.s,.int .i64 s.t,.int .i64 s.h,.int .i64 s.e,.int .i64 s.d,.bool s.q,.string lg],.string line] w (OutSc (qD ⟨f,xs,s,lg⟩ line) w):=by
 obtain ⟨W,hW⟩:=zN ((w.alloc (Obj.cells (cD f A n c s lg) 32)).alloc (Obj.cells cE 32));obtain ⟨g0,hg0⟩:=zN w.heap.size;obtain ⟨g4,hg4⟩:=zN (w.heap.size + 1);have hv:Below w.heap.size w W:=by rw [hW];exact zc (zc (Below.refl _ _) _) _
 have HB:Hid (Blk W g0 32 (cD f A n c s lg)):=qH (by rw [hW,hg0];exact (Blk.new _ _ _).alloc _);have HZ:Hid (Blk W g4 32 cE):=qH (by rw [hW,hg4];have h:=Blk.new (w.alloc (Obj.cells (cD f A n c s lg) 32)) 32 cE;rw [World.size_alloc] at h;exact h);have hw4:w.heap.size<=g4:=by omega
 have HA:=qH (hA.below hv);have HW:=qH hW;have G0:=qH hg0;have G4:=qH hg4;clear hW hg0 hg4 hA;have HCD:qD ⟨f,xs,s,lg⟩ line=if (⟨f,xs,s,lg⟩:Dk).ok=true then (if isD (zl 32 line)=true then wR ⟨f,xs,s,lg⟩ (zl 32 line) else (zDk,[],7)) else (zDk,[],1):=rfl
 have HVD:=fun g w hb h=>zcv f s lg A xs n c hn hm hs hx hl g w hb h;have HCP:=fun g w hb h=>bV g f s lg A xs n c hn hm w hb h;obtain ⟨bv,hbv⟩:=zN (un f xs s lg);have HOKE:(⟨f,xs,s,lg⟩:Dk).ok=bv:=by rw [hbv];rfl
 rw [<-hbv] at HVD;rw [HOKE] at HCD;replace HVD:=qH HVD;replace HCP:=qH HCP;have HCD2:=qH HCD;have HOK:=qH HOKE;clear hbv HCD HOKE;go_in;go_upto_region 1 with fail;rw [<-HW.out,<-G4.out,<-G0.out];clear HW G0 G4;go_wp2_with fail;refine qS (HVD.out g0 _ HB.out HA.out) fun W1 hb=>?_;replace hv:=za hv hb;replace HB:=qH (HB.out.below hb);replace HZ:=qH (HZ.out.below hb);replace HA:=qH (HA.out.below hb);have hw1:=hv.size;clear hb HVD;cases bv
 case false=>
  have HR:=qH (HCD2.out.trans (if_neg (by simp)));go_wp2_with (refine yS g4 cE HZ.out ?_)
  try simp only [Exit.inBlock,Exit.then]
  refine bodyPost_ret (zX (P:=prog) rfl _ _ g4 32 cE (0,0) _ rfl ?_ underlying32 rfl (by kernel_rfl)) rfl ?_
  ·exact setRow_heap _ _ _ _ _ _ HZ.out
  ·exact OutSc.zero HR.out hv hw4 _
 have HR1:=qH (HCD2.out.trans (if_pos rfl));clear HCD2;go_wp2_with fail;refine (HCP.out g0 _ HB.out HA.out).mono ?_;rintro e W2 ⟨A2,c2,rfl,hown,hb2⟩;obtain ⟨g,hg⟩:=zN W2.heap.size;obtain ⟨W3,hW3⟩:=zN (W2.alloc (Obj.cells #[.int .i64 f.length,.int .i64 f.b,.int .i64 f.i,.int .i64 f.h,.slice A2 n c2,.string s.u,.string s.c,.string s.l,.string s.s,.int .i64 s.t,.int .i64 s.h,.int .i64 s.e,.int .i64 s.d,.bool s.q,.string lg,.slice none 0 0,.slice none 0 0,.slice none 0 0] 73));have HK:Blk W3 g 73 #[.int .i64 f.length,.int .i64 f.b,.int .i64 f.i,.int .i64 f.h,.slice A2 n c2,.string s.u,.string s.c,.string s.l,.string s.s,.int .i64 s.t,.int .i64 s.h,.int .i64 s.e,.int .i64 s.d,.bool s.q,.string lg,.slice none 0 0,.slice none 0 0,.slice none 0 0]:=by rw [hW3,hg];exact Blk.new _ _ _
 have hb3:Below W2.heap.size W2 W3:=by rw [hW3];exact zc (Below.refl _ _) _
 have hg1:W1.heap.size<=g:=by rw [hg];exact hb2.size
 have hz4:=HZ.out.lt;have hgz:g4 < g:=by omega
 have hwg:w.heap.size<=g:=by omega
 have HSR:=qH (zdE (w0:=W1) (d:=⟨f,xs,s,lg⟩) HK hn.out (ze hown hb3) (fun ad e=>by subst e;have:=yr hown ad.block rfl;have:=hb3.size;omega) (yN (za hb2 hb3) _));have HDO:=qH (zdD W1 W3 g ⟨f,xs,s,lg⟩ [] [] [] A2 none none none n c2 0 0 0 0 0 0 HSR.out (by omega) HOK.out line hz);go_wp2_with fail;rw [<-hW3,<-hg];clear hW3 hg HK hb3 HSR HB HA HCP hown hb2;refine HDO.out.mono ?_;rintro e W4 ⟨rfl,hz5,ns2,ts2,A2,Ao2,An2,At2,n2,c2,no2,co2,kn2,cn2,kt2,ct2,hs4⟩;have hne4:some g4≠some g:=fun e=>by injection e with e;omega
 replace HZ:=qH (HZ.out.grown hs4.bel hne4);have hv4:=zi hv hs4.bel (fun p e=>by injection e with e;omega);clear hv;have hv:=hv4;clear hv4 HDO;cases hi:isD (zl 32 line)
 case false=>
  have HR:=qH (HR1.out.trans (if_neg (by rw [hi];simp)));clear hs4 hi HR1;go_wp2_with (refine yS g4 cE HZ.out ?_)
  try simp only [Exit.inBlock,Exit.then]
  refine bodyPost_ret (zX (P:=prog) rfl _ _ g4 32 cE (0,0) _ rfl ?_ underlying32 rfl (by kernel_rfl)) rfl ?_
  ·exact setRow_heap _ _ _ _ _ _ HZ.out
  ·exact OutSc.zero HR.out hv hw4 _
 rw [zaD hi] at hs4;have HR:=qH (HR1.out.trans (if_pos hi));have HC0:Hid ((wR ⟨f,xs,s,lg⟩ (zl 32 line)).2.2=0):=qH (ee HOK.out (zl 32 line)).2.2;have HRR:=qH (show qD ⟨f,xs,s,lg⟩ line=((wR ⟨f,xs,s,lg⟩ (zl 32 line)).1,[] ++ (wR ⟨f,xs,s,lg⟩ (zl 32 line)).2.1,0) by rw [HR.out,List.nil_append,<-HC0.out]);obtain ⟨d2,hd2⟩:=zN ((wR ⟨f,xs,s,lg⟩ (zl 32 line)).1);obtain ⟨L2,hL2⟩:=zN ([] ++ (wR ⟨f,xs,s,lg⟩ (zl 32 line)).2.1);rw [<-hd2,<-hL2] at HRR hs4;clear hd2 hL2 HR HC0 hi HR1;dsimp only at hs4;have HS:=qH hs4;have HK:Hid (Blk W4 g 73 #[.int .i64 d2.f.length,.int .i64 d2.f.b,.int .i64 d2.f.i,.int .i64 d2.f.h,.slice A2 n2 c2,.string d2.s.u,.string d2.s.c,.string d2.s.l,.string d2.s.s,.int .i64 d2.s.t,.int .i64 d2.s.h,.int .i64 d2.s.e,.int .i64 d2.s.d,.bool d2.s.q,.string d2.lg,.slice Ao2 no2 co2,.slice An2 kn2 cn2,.slice At2 kt2 ct2]):=qH hs4.blk;have hn2:=hs4.hn;have hk2:=hs4.ho;have HN2:=qH hn2;have HK2:=qH hk2;clear hs4 hn2 hk2;go_upto_region 6 with fail;refine zH (fun w'=>Blk w' g 73 #[Value.int .i64 d2.f.length,Value.int .i64 d2.f.b,Value.int .i64 d2.f.i,Value.int .i64 d2.f.h,Value.slice A2 n2 c2,Value.string d2.s.u,Value.string d2.s.c,Value.string d2.s.l,Value.string d2.s.s,Value.int .i64 d2.s.t,Value.int .i64 d2.s.h,Value.int .i64 d2.s.e,Value.int .i64 d2.s.d,Value.bool d2.s.q,Value.string d2.lg,Value.slice Ao2 no2 co2,Value.slice An2 kn2 cn2,Value.slice At2 kt2 ct2]/\True) ?_ (fun hHeld=>?_)
 ·exact ⟨HK.out.below (Below.refl W4.heap.size W4).drew,trivial⟩
 have hd9:=(Below.refl W4.heap.size W4).drew;refine zU 0 19 ?_;refine zU 1 20 ?_;refine zU 2 21 ?_;refine zU 4 23 ?_;refine zU 5 24 ?_;refine zU 6 25 ?_;refine wpAnyH_take (i:=3) (oi:={ dst:=some 22,op:=_,type:=_,pos:=_,after:=_,guard:=_ }) (v:=.agg [Value.int .i64 d2.f.length,Value.int .i64 d2.f.b,Value.int .i64 d2.f.i,Value.int .i64 d2.f.h,Value.slice A2 n2 c2,Value.string d2.s.u,Value.string d2.s.c,Value.string d2.s.l,Value.string d2.s.s,Value.int .i64 d2.s.t,Value.int .i64 d2.s.h,Value.int .i64 d2.s.e,Value.int .i64 d2.s.d,Value.bool d2.s.q,Value.string d2.lg].toArray) rfl (by as_aux_lemma=>kernel_rfl) (by as_aux_lemma=>kernel_rfl) (by as_aux_lemma=>kernel_rfl) (fun _ _ _ h=>h) (yieldsIf_load_mid (by as_aux_lemma=>kernel_rfl) 32 _ rfl g 0 rfl [Value.int .i64 d2.f.length,Value.int .i64 d2.f.b,Value.int .i64 d2.f.i,Value.int .i64 d2.f.h,Value.slice A2 n2 c2,Value.string d2.s.u,Value.string d2.s.c,Value.string d2.s.l,Value.string d2.s.s,Value.int .i64 d2.s.t,Value.int .i64 d2.s.h,Value.int .i64 d2.s.e,Value.int .i64 d2.s.d,Value.bool d2.s.q,Value.string d2.lg] _ (fun w hSw=>ld hSw.1 0 [Value.int .i64 d2.f.length,Value.int .i64 d2.f.b,Value.int .i64 d2.f.i,Value.int .i64 d2.f.h,Value.slice A2 n2 c2,Value.string d2.s.u,Value.string d2.s.c,Value.string d2.s.l,Value.string d2.s.s,Value.int .i64 d2.s.t,Value.int .i64 d2.s.h,Value.int .i64 d2.s.e,Value.int .i64 d2.s.d,Value.bool d2.s.q,Value.string d2.lg] rfl) underlying32 rfl (by kernel_rfl)) (by assumption) ?_;try simp only [Act.put,zA,zB,zC]
 refine zT 7 26 rfl (fun w hSw=>by
  have x15:=gj hSw.1;go_simp;try with_reducible rfl) ?_
 refine zR 8 none rfl (fun K hK=>?_)
 skip
 go_split_ands;have HZ1:=qH (HZ.out.below hd9);refine wp_store_row 32 _ _ rfl g4 (cD d2.f A2 n2 c2 d2.s d2.lg) rfl rfl 32 cE HZ1.out (by kernel_rfl) rfl (by simp [Value.oneCell']) ?_;have HF:=qH (show Blk (World.setRow W4.drew g4 (cD d2.f A2 n2 c2 d2.s d2.lg)) g4 32 (cD d2.f A2 n2 c2 d2.s d2.lg) from setRow_heap _ _ _ _ _ _ HZ1.out);have hg5:=yl W4.drew g4 (cD d2.f A2 n2 c2 d2.s d2.lg);have HK5:=qH ((HK.out.below hd9).grown hg5 (fun e=>hne4 e.symm));have HO1:=qH (wD (g:=g4) (ze HS.out.own hd9) (fun k e=>by have:=zn HS.out.own k e;omega) (cD d2.f A2 n2 c2 d2.s d2.lg));have HO2:=qH (wD (g:=g4) (ze HS.out.out hd9) (fun k e=>by have:=zn HS.out.out k e;omega) (cD d2.f A2 n2 c2 d2.s d2.lg));have hvF:=zg (za hv hd9) hw4 (cD d2.f A2 n2 c2 d2.s d2.lg);obtain ⟨V3,hV3⟩:=zN (World.setRow W4.drew g4 (cD d2.f A2 n2 c2 d2.s d2.lg));rw [<-hV3] at HF HK5 HO1 HO2 hvF |-;clear hV3 hg5 HZ1;refine hK.out _ _ ?_ (fun hHeld=>?_)
 ·(try dsimp only);go_split_ands;exact ⟨HK5.out,trivial⟩
 clear hK K;try simp only [Act.put]
 refine zT 9 5 rfl (fun w hSw=>by
  clear hSw;go_simp;try with_reducible rfl) ?_
 refine zT 10 6 rfl (fun w hSw=>by
  clear hSw;go_simp;try with_reducible rfl) ?_
 refine zD ?_;clear hHeld;go_wp2_with fail;try simp only [Exit.inBlock,Exit.then]
 have HQ:=fun tm (hp:tm.getD 4 undef=.pointer (some ⟨g4,0,none⟩))=>zX (P:=prog) (fn:=Tryz.f15) (p:=4) (u:=5) (u':=6) rfl tm V3 g4 32 (cD d2.f A2 n2 c2 d2.s d2.lg) (0,0) _ hp HF.out underlying32 rfl (by kernel_rfl);refine bodyPost_ret (HQ _ rfl) rfl ?_;exact OutSc.mk HRR.out HN2.out HK2.out hvF (yF HO1.out hw1) (yF HO2.out hw1)
end Go.Proofs.YtpiehlfffjhoaaaGreatDoor
namespace Go.Proofs.YtpiehlfffjhoaaaGreatDoor
open Go.ChangeShapes Go.WideShapes Go.ChangeAt Go.RowKit Go.Deep Go.Joins Go.Proofs.Tryz
set_option maxRecDepth 100000
set_option maxHeartbeats 16000000
section
variable {H:Type} {enc:TypeId × Value->H} {P:Program} {w:World} {base:Nat} {spare:Nat->Bool} {held:Bool}
theorem pJ{t:TypeId}{fs:Array Field}{fuel:Nat}{cs:List Value}{x:DataW H × List MemPlace}(hs:P.underlying t=some (.struct fs))(h:DataW.trod enc P w base spare held fuel t cs=some x) :
 ∃ n,∀ (i:Nat) (f:Field),fs[i]?=some f->∃ y,DataW.trod enc P w base spare held n f.type ((cs.drop f.offset).take (P.cellsOf f.type))=some y:=by
 obtain ⟨ys,n,_,_,_,hlen,hf⟩:=DataW.trod_struct hs h;refine ⟨n,fun i f hi=>?_⟩;have hlt:i < ys.length:=by rw [hlen];exact (Array.getElem?_eq_some_iff.1 hi).1
 exact ⟨ys[i],(hf i f hi).trans (List.getElem?_eq_getElem hlt)⟩
end
theorem pR{α:Type}{f:α->α->Bool}(hf:∀ x,f x x=true):∀ xs:List α,wI f xs xs=true
 | []=>rfl
 | x :: xs=>by simp only [wI,hf,pR hf xs];rfl
theorem zal{α:Type}:∀ {a:Array α},a.size=15->∃ c0 c1 c2 c3 c4 c5 c6 c7 c8 c9 c10 c11 c12 c13 c14,a=#[c0,c1,c2,c3,c4,c5,c6,c7,c8,c9,c10,c11,c12,c13,c14]
 | ⟨[c0,c1,c2,c3,c4,c5,c6,c7,c8,c9,c10,c11,c12,c13,c14]⟩,_=>⟨c0,c1,c2,c3,c4,c5,c6,c7,c8,c9,c10,c11,c12,c13,c14,rfl⟩
theorem eD:prog.cellsOf 45=15:=by kernel_rfl
theorem vF:prog.cellsOf 2=1:=by kernel_rfl
theorem si:prog.cellsOf 9=1:=by kernel_rfl
theorem zau:prog.cellsOf 4=1:=by kernel_rfl
theorem gP:prog.cellsOf 42=1:=by kernel_rfl
def Foot.wf(x:Foot):Prop:=I64 x.length/\I64 x.b/\I64 x.i/\I64 x.h
theorem eE:prog.cellsOf 41=4:=by kernel_rfl
theorem jQ{H:Type}{enc:TypeId × Value->H}{W:World}{fuel:Nat}{c0 c1 c2 c3:Value}{x:DataW H × List MemPlace}(hf:DataW.trod enc prog W 0 (fun _=>true) true fuel 41 [c0,c1,c2,c3]=some x) :
 ∃ x:Foot,[c0,c1,c2,c3]=x.cells/\Foot.wf x:=by
 obtain ⟨m,hF⟩:=pJ underlying41 hf;obtain ⟨y0,h0⟩:=hF 0 _ rfl;have t0:DataW.trod enc prog W 0 (fun _=>true) true m 2 [c0]=some y0:=by simpa [vF] using h0
 obtain ⟨z0,e0,_,q0⟩:=DataW.trod_int underlying2 t0;simp only [List.cons.injEq,and_true] at e0;subst e0;obtain ⟨y1,h1⟩:=hF 1 _ rfl;have t1:DataW.trod enc prog W 0 (fun _=>true) true m 2 [c1]=some y1:=by simpa [vF] using h1
 obtain ⟨z1,e1,_,q1⟩:=DataW.trod_int underlying2 t1;simp only [List.cons.injEq,and_true] at e1;subst e1;obtain ⟨y2,h2⟩:=hF 2 _ rfl;have t2:DataW.trod enc prog W 0 (fun _=>true) true m 2 [c2]=some y2:=by simpa [vF] using h2
 obtain ⟨z2,e2,_,q2⟩:=DataW.trod_int underlying2 t2;simp only [List.cons.injEq,and_true] at e2;subst e2;obtain ⟨y3,h3⟩:=hF 3 _ rfl;have t3:DataW.trod enc prog W 0 (fun _=>true) true m 2 [c3]=some y3:=by simpa [vF] using h3
 obtain ⟨z3,e3,_,q3⟩:=DataW.trod_int underlying2 t3;simp only [List.cons.injEq,and_true] at e3;subst e3;exact ⟨⟨z0,z1,z2,z3⟩,rfl,⟨xW q0,xW q1,xW q2,xW q3⟩⟩
def Style.wf(x:Style):Prop:=x.u.size<=9223372036854775807/\x.c.size<=9223372036854775807/\x.l.size<=9223372036854775807/\x.s.size<=9223372036854775807/\I64 x.t/\I64 x.h/\I64 x.e/\I64 x.d/\(x.q=true\/x.q=false)
theorem gQ:prog.cellsOf 43=9:=by kernel_rfl
theorem kA{H:Type}{enc:TypeId × Value->H}{W:World}{fuel:Nat}{c0 c1 c2 c3 c4 c5 c6 c7 c8:Value}{x:DataW H × List MemPlace}(hf:DataW.trod enc prog W 0 (fun _=>true) true fuel 43 [c0,c1,c2,c3,c4,c5,c6,c7,c8]=some x) :
 ∃ x:Style,[c0,c1,c2,c3,c4,c5,c6,c7,c8]=x.cells/\Style.wf x:=by
 obtain ⟨m,hF⟩:=pJ underlying43 hf;obtain ⟨y0,h0⟩:=hF 0 _ rfl;have t0:DataW.trod enc prog W 0 (fun _=>true) true m 9 [c0]=some y0:=by simpa [si] using h0
 obtain ⟨z0,e0,_,q0⟩:=DataW.trod_string underlying9 t0;simp only [List.cons.injEq,and_true] at e0;subst e0;obtain ⟨y1,h1⟩:=hF 1 _ rfl;have t1:DataW.trod enc prog W 0 (fun _=>true) true m 9 [c1]=some y1:=by simpa [si] using h1
 obtain ⟨z1,e1,_,q1⟩:=DataW.trod_string underlying9 t1;simp only [List.cons.injEq,and_true] at e1;subst e1;obtain ⟨y2,h2⟩:=hF 2 _ rfl;have t2:DataW.trod enc prog W 0 (fun _=>true) true m 9 [c2]=some y2:=by simpa [si] using h2
 obtain ⟨z2,e2,_,q2⟩:=DataW.trod_string underlying9 t2;simp only [List.cons.injEq,and_true] at e2;subst e2;obtain ⟨y3,h3⟩:=hF 3 _ rfl;have t3:DataW.trod enc prog W 0 (fun _=>true) true m 9 [c3]=some y3:=by simpa [si] using h3
 obtain ⟨z3,e3,_,q3⟩:=DataW.trod_string underlying9 t3;simp only [List.cons.injEq,and_true] at e3;subst e3;obtain ⟨y4,h4⟩:=hF 4 _ rfl;have t4:DataW.trod enc prog W 0 (fun _=>true) true m 2 [c4]=some y4:=by simpa [vF] using h4
 obtain ⟨z4,e4,_,q4⟩:=DataW.trod_int underlying2 t4;simp only [List.cons.injEq,and_true] at e4;subst e4;obtain ⟨y5,h5⟩:=hF 5 _ rfl;have t5:DataW.trod enc prog W 0 (fun _=>true) true m 2 [c5]=some y5:=by simpa [vF] using h5
 obtain ⟨z5,e5,_,q5⟩:=DataW.trod_int underlying2 t5;simp only [List.cons.injEq,and_true] at e5;subst e5;obtain ⟨y6,h6⟩:=hF 6 _ rfl;have t6:DataW.trod enc prog W 0 (fun _=>true) true m 2 [c6]=some y6:=by simpa [vF] using h6
 obtain ⟨z6,e6,_,q6⟩:=DataW.trod_int underlying2 t6;simp only [List.cons.injEq,and_true] at e6;subst e6;obtain ⟨y7,h7⟩:=hF 7 _ rfl;have t7:DataW.trod enc prog W 0 (fun _=>true) true m 2 [c7]=some y7:=by simpa [vF] using h7
 obtain ⟨z7,e7,_,q7⟩:=DataW.trod_int underlying2 t7;simp only [List.cons.injEq,and_true] at e7;subst e7;obtain ⟨y8,h8⟩:=hF 8 _ rfl;have t8:DataW.trod enc prog W 0 (fun _=>true) true m 4 [c8]=some y8:=by simpa [zau] using h8
 obtain ⟨z8,e8,_⟩:=DataW.trod_bool underlying4 t8;simp only [List.cons.injEq,and_true] at e8;subst e8;exact ⟨⟨z0,z1,z2,z3,z4,z5,z6,z7,z8⟩,rfl,⟨by have:=q0;unfold maxLen at this;omega,by have:=q1;unfold maxLen at this;omega,by have:=q2;unfold maxLen at this;omega,by have:=q3;unfold maxLen at this;omega,xW q4,xW q5,xW q6,xW q7,by cases z8 <;> simp⟩⟩
theorem ak{H:Type}{enc:TypeId × Value->H}{W:World}{base:Nat}{v:Value}{d:DataW H}{p:List MemPlace}(hval:Value.okWide prog W .any base 45 v)(h:DataW.Trod enc prog W 0 (fun _=>true) true 45 v d p) :
 ∃ (f:Foot) (s:Style) (lg:ByteArray) (A:Option Addr) (xs:List Last) (n c:Nat),v=.agg #[.int .i64 f.length,.int .i64 f.b,.int .i64 f.i,.int .i64 f.h,.slice A n c,.string s.u,.string s.c,.string s.l,.string s.s,.int .i64 s.t,.int .i64 s.h,.int .i64 s.e,.int .i64 s.d,.bool s.q,.string lg]/\Style.wf s/\lg.size<=9223372036854775807/\xs.length=n/\n<=9223372036854775807/\(∀ x ∈ xs,Last.wf x)/\Arr W A (zd Last.cells xs):=by
 obtain ⟨cs,rfl,hsz⟩:=okWide_struct underlying45 hval;obtain ⟨c0,c1,c2,c3,c4,c5,c6,c7,c8,c9,c10,c11,c12,c13,c14,rfl⟩:=zal (hsz.trans eD);obtain ⟨fuel,hf⟩:=h;obtain ⟨m,hF⟩:=pJ underlying45 hf;obtain ⟨y0,h0⟩:=hF 0 _ rfl;obtain ⟨y1,h1⟩:=hF 1 _ rfl;obtain ⟨y2,h2⟩:=hF 2 _ rfl;obtain ⟨y3,h3⟩:=hF 3 _ rfl;have t0:DataW.trod enc prog W 0 (fun _=>true) true m 41 [c0,c1,c2,c3]=some y0:=by simpa [eE,Value.cells] using h0
 have t1:DataW.trod enc prog W 0 (fun _=>true) true m 42 [c4]=some y1:=by simpa [gP,Value.cells] using h1
 have t2:DataW.trod enc prog W 0 (fun _=>true) true m 43 [c5,c6,c7,c8,c9,c10,c11,c12,c13]=some y2:=by simpa [gQ,Value.cells] using h2
 have t3:DataW.trod enc prog W 0 (fun _=>true) true m 9 [c14]=some y3:=by simpa [si,Value.cells] using h3
 clear h0 h1 h2 h3 hF hf hval;obtain ⟨f,e0,_⟩:=jQ t0;obtain ⟨A,n,c,xs,rfl,l1,l2,l3,l4⟩:=kz t1;obtain ⟨s,e2,ws⟩:=kA t2;obtain ⟨lg,e3,_,q3⟩:=DataW.trod_string underlying9 t3;simp only [Foot.cells,Style.cells,List.cons.injEq,and_true] at e0 e2 e3;go_split_ands;subst_vars;exact ⟨f,s,lg,A,xs,_,c,rfl,ws,by unfold maxLen at q3;omega,rfl,l2,l3,l4⟩
theorem zcd(d:Dk)(line:ByteArray):(qD d line).1.xs.length<=1048576/\(qD d line).2.1.length<=1048576:=by
 unfold qD;split
 case isFalse=>exact ⟨by decide,by decide⟩
 case isTrue h=>
  split
  case isFalse=>exact ⟨by decide,by decide⟩
  case isTrue hi=>
   have h1:=(dP h hi).1;have h2:=wj (yj (ee h (zl 32 line)).1).2.1;exact ⟨by omega,by omega⟩
theorem rZ(f:Foot)(s:Style)(lg:ByteArray)(A:Option Addr)(xs:List Last)(n c:Nat)(ws:Style.wf s)(wl:lg.size<=9223372036854775807)(hn:Hid (xs.length=n))(hmx:n<=9223372036854775807)(hx:∀ x ∈ xs,Last.wf x)(t:ByteArray)(ht:t.size<=9223372036854775807)(w:World)(hA:Arr w A (zd Last.cells xs))(hT:Tabs w)(hC:ChgN w)(hE:CdN w):Calls prog 5 #[.agg #[.int .i64 f.length,.int .i64 f.b,.int .i64 f.i,.int .i64 f.h,.slice A n c,.string s.u,.string s.c,.string s.l,.string s.s,.int .i64 s.t,.int .i64 s.h,.int .i64 s.e,.int .i64 s.d,.bool s.q,.string lg],.string t] w (Ret (.bool true) w):=by
 obtain ⟨u1,u2,u3,u4,i5,i6,i7,i8,_⟩:=ws;have he:∀ (f:Foot) (xs:List Last) (s:Style) (lg:ByteArray),(f.beq f && wI Last.beq xs xs && s.beq s && decide (lg=lg))=true:=by
  intro f xs s lg;rw [Foot.beq_self,Style.beq_self,pR Last.beq_self];simp
 have HS:=fun (hz:qm n s lg) h w g a=>mH f s lg (some ⟨g,0,none⟩) xs n n hn hz.1 (qH fun x q=>(hx x q).1) (qH ⟨hz.2.2,i5,i6,i7,i8⟩) hz.2.1 t h w a;have HG:=fun (hz:qm n s lg) h w g a hT hC hE=>km f s lg (some ⟨g,0,none⟩) xs n n hn hz.1 (qH fun x q=>(hx x q).1) (qH ⟨hz.2.2,i5,i6,i7,i8⟩) hz.2.1 t h w a hT hC hE;have hl:=zcd ⟨f,xs,s,lg⟩ t;obtain ⟨⟨⟨f2,xs2,s2,lg2⟩,ls,co⟩,hr⟩:∃ z,z=qD ⟨f,xs,s,lg⟩ t:=⟨_,rfl⟩
 rw [<-hr] at HS HG hl;clear hr;obtain ⟨n2,hn2⟩:=zN xs2.length;obtain ⟨k2,hk2⟩:=zN ls.length;have hl1:n2<=1048576:=by rw [hn2];exact hl.1
 have hl2:k2<=1048576:=by rw [hk2];exact hl.2
 refine nP (cD f A n c s lg) (fun g=>(cD f (some ⟨g,0,none⟩) n n s lg)) (fun A n c=>(cD f2 A n c s2 lg2)) (zd Last.cells xs) (zd Last.cells xs2) (zd (fun i:Nat=>Last.mkc ((1:Int) + i * 6)) (List.range n)) (zd (fun i:Nat=>Last.mkc ((1:Int) + i * 6)) (List.range n2)) A n n2 k2 ls (qm n s lg) co t ht rfl (fun _=>rfl) (fun _=>by simp [Value.oneCell']) (fun _ _ _=>rfl) (fun _ _ _=>by simp [Value.oneCell'])
  (fun hz=>⟨hz.1,by omega,hl2⟩) (qH hk2.symm)
  (fun left w h0 h1 h=>aO f s lg A xs n c left hn hmx (qH fun x q=>(hx x q).1) u1 u2 u3 u4 wl h0 h1 w h)
  (fun hz w h=>zbI f s lg A xs n c hn hz.1 w h)
  (fun hz h w g a=>(HS hz h w g a).mono fun e w' ⟨A,n',c,B,k',c',q1,q2,q3,q4,q5,q6⟩=>?_)
  (fun hz h w g a hT hC hE=>(HG hz h w g a hT hC hE).mono fun e w' ⟨A,n',c,B,k',c',q1,q2,q3,q4,lo,mid,q5,q6,q7⟩=>?_)
  (fun hz w g h a b=>?_) (fun hz w A c B d a b=>?_)
  (fun hz w g base ho=>mh f s lg _ n n base _ 1 (by omega) (by have:=hz.1;omega) (by have:=hz.1;omega) w ho)
  (fun hz w A c base ho=>mh f2 s2 lg2 _ n2 c base _ 1 (by omega) (by omega) (by omega) w ho)
  (fun hz w A c a=>di f2 s2 lg2 A n2 c 1 (by omega) (by omega) (by omega) w a) w hA hT hC hE
 ·obtain rfl:n'=n2:=q3.symm.trans hn2.symm;obtain rfl:k'=k2:=q4.symm.trans hk2.symm;exact ⟨A,c,B,c',_,_,q1,Nat.le_refl _,Own.of q5 q2,Own.of q6 q2,q2⟩
 ·obtain rfl:n'=n2:=q3.symm.trans hn2.symm;obtain rfl:k'=k2:=q4.symm.trans hk2.symm;exact ⟨A,c,B,c',lo,mid,_,q1,q5,q6,⟨q7,q6.2.2.1,Nat.le_refl _,yr q7⟩,q2⟩
 ·rw [<-he f xs s lg];exact kZ f f s s lg lg _ _ xs xs n n n n hn hn hz.1 w a b
 ·rw [<-he f2 xs2 s2 lg2];exact kZ f2 f2 s2 s2 lg2 lg2 _ _ xs2 xs2 n2 n2 c d (qH hn2.symm) (qH hn2.symm) (by omega) w a b
end Go.Proofs.YtpiehlfffjhoaaaGreatDoor
