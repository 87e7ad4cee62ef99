/- Lemmas for the law on the console: the parts CrK,CrL,CrP. -/
import Derived.Test.YtpiehlfffjhoaaaGreatDoorQ39
namespace Go.Proofs.YtpiehlfffjhoaaaGreatDoor
open Go.RowKit Go.Proofs.Tryz
set_option maxRecDepth 100000
set_option maxHeartbeats 8000000
theorem rY{P:Program}{o:Oper}{a:Act}{K:Act->World->Prop}{Q:Exit->Act->World->Prop}(w:World)(s x:Operand)(t e:TypeId)(ho:o.op=.call { callee:=.builtin .append,args:=#[s,x],argTypes:=#[t,t] })(i:TypeInfo)(z:Value)(size bytes:Nat)(ht:P.underlying t=some (.slice e))(hi:P.info? e=some i)(hz:i.zero=some z)(hsize:i.size=size)(hby:i.bytes=bytes)(hzs:z.cells.size=size)(hsz:0 < size)(base:Nat)(A:Option Addr)(n cp:Nat)(cs:List Value)(hs:a.eval s=.slice A n cp)(hown:w.ownsRow base e size (.slice A n cp) n cs)(ad:Addr)(m c:Nat)(C:List Value)(hm:0 < m)(hx:a.eval x=.slice (some ad) m c)(hA:Arr w (some ad) C)(hl:C.length=m * size)(h1:∀ u ∈ C,u.oneCell'=true)(h63:n + m<=maxLen)(hbytes:(n + m) * bytes<=140737488355328)(hbase:base<=w.heap.size)(h:∀ g c' w',w'.ownsRow base e size (.slice (some ⟨g,0,none⟩) (n + m) c') (n + m) (cs ++ C)->w.grownBy w' (A.map (·.block))->(A=some ⟨g,0,none⟩\/g=w.heap.size)->K (a.put o.dst (.slice (some ⟨g,0,none⟩) (n + m) c')) w') :
 o.wp P a w K Q:=by
 obtain ⟨g,c',w',hr,h2,h3,h4⟩:=ry (P:=P) w base t o.type e i z size bytes ht hi hz hsize hby hzs hsz A n cp cs hown ad m c C hm hl (fun j u hu=>by
  obtain ⟨ad',e',_,hc⟩:=hA (by have:=(List.getElem?_eq_some_iff.1 hu).1;omega);injection e' with e';subst e';exact hc j u hu) h1 h63 hbytes hbase
 unfold Oper.wp execOp;simp only [ho,resolve,invoke,builtin,Sem.run_bind,Sem.run_pure,Result.andThen_ok,List.map_toArray,List.map_cons,List.map_nil,hs,hx,hr];exact h g c' w' h2 h3 h4
theorem qL:(prog.info? 2).map (fun i=>(i.zero,i.size,i.bytes))=some (some (.int .i64 0),1,8):=by kernel_rfl
def zdv(f:Foot)(w:World)(e:Ending)(w':World):Prop:=∃ g,e=.returned (.slice (some ⟨g,0,none⟩) 4 4)/\w.heap.size<=g/\Blk w' g 2 (cF f)/\Below w.heap.size w w'
theorem rO(f:Foot)(w:World):Calls prog 236 #[.agg #[.int .i64 f.length,.int .i64 f.b,.int .i64 f.i,.int .i64 f.h]] w (zdv f w):=by
 obtain ⟨W,hW⟩:=zN (w.alloc (Obj.cells (cF f) 27));obtain ⟨g,hg⟩:=zN w.heap.size;have hv:Below w.heap.size w W:=by rw [hW];exact zc (Below.refl _ _) _
 have hB:Blk W g 27 (cF f):=by rw [hW,hg];exact Blk.new _ _ _
 obtain ⟨k0,k1,k2,k3⟩:=qC4 hB;have HW:=qH hW;have HG:=qH hg;clear hW hg hB;go_in;go_upto_region 1 with fail;rw [<-HW.out,<-HG.out];clear HW HG;go_wp2;go_returns;exact ⟨_,rfl,hv.size,Blk.new _ _ _,zc hv _⟩
theorem bP(x:Last)(f:Foot)(HX:Hid (zy x=true))(HF:Hid (ym f=true))(w:World):Calls prog 176 #[.agg #[.string x.name,.int .i64 x.length,.int .i64 x.b,.int .i64 x.i,.int .i64 x.h,.int .i64 x.p],.agg #[.int .i64 f.length,.int .i64 f.b,.int .i64 f.i,.int .i64 f.h]] w (em (wK x f) w):=by
 obtain ⟨i0,hi0,hz0,hz1,hz2⟩:=info_parts (P:=prog) (e:=2) (z:=.int .i64 0) (size:=1) (bytes:=8) qL;have HLF:=qH (fun w=>rP x w);have HFX:=qH (fun w=>rO x.foot w);have HFF:=qH (fun w=>rO f w);have HBD:=qH (uZ HX.out);have HBF:=qH (wH HF.out);obtain ⟨W,hW⟩:=zN ((w.alloc (Obj.cells (cL x) 100)).alloc (Obj.cells (cF f) 27));obtain ⟨gx,hgx⟩:=zN w.heap.size;obtain ⟨gf,hgf⟩:=zN (w.heap.size + 1);have hv:Below w.heap.size w W:=by rw [hW];exact zc (zc (Below.refl _ _) _) _
 have hX:Hid (Blk W gx 100 (cL x)):=qH (by rw [hW,hgx];exact (Blk.new _ _ _).alloc _);have hFB:Hid (Blk W gf 27 (cF f)):=qH (by
  have h:=Blk.new (w.alloc (Obj.cells (cL x) 100)) 27 (cF f);rw [World.size_alloc] at h;rw [hW,hgf];exact h)
 have HW:=qH hW;have HGX:=qH hgx;have HGF:=qH hgf;clear hW hgx hgf;go_in;go_upto_region 1 with fail;rw [<-HW.out,<-HGF.out,<-HGX.out];clear HW HGX HGF;go_wp2_with (refine yL gx hX.out underlying100 ?_)
 refine qS (HLF.out _) fun W1 hb=>?_;replace hv:=za hv hb;replace hFB:=qH (hFB.out.below hb);clear hb HLF hX;go_wp2_with fail;refine (HFX.out _).mono ?_;rintro e W2 ⟨ga,rfl,hga,hBA,hb⟩;have HBA:Hid (Blk W2 ga 2 (cH x)):=qH hBA;replace hv:=za hv hb;replace hFB:=qH (hFB.out.below hb);clear hb hBA HFX;go_wp2_with (refine yL gf hFB.out underlying27 ?_)
 refine (HFF.out _).mono ?_;rintro e W3 ⟨gb,rfl,hgb,hBB,hb⟩;have HBB:Hid (Blk W3 gb 2 (cF f)):=qH hBB;replace HBA:=qH (HBA.out.below hb);replace hv:=za hv hb;clear hb hBB HFF hFB hga hgb;go_upto_region 4 with fail;obtain ⟨g0,hg0⟩:=zN W3.heap.size;obtain ⟨W4,hW4⟩:=zN (W3.alloc (Obj.cells #[] 2));have HR0:Hid (W4.ownsRow W3.heap.size 2 1 (.slice (some ⟨g0,0,none⟩) 0 0) 0 (zd zp ((wK x f).take 0))):=qH (by rw [hW4,hg0];exact zI W3 W3.heap.size 2 1 (Nat.le_refl _));have hb4:Below W3.heap.size W3 W4:=by rw [hW4];exact zc (Below.refl _ _) _
 rw [<-hW4,<-hg0];clear hW4 hg0;have HV:=qH hv;clear hv;go_wp2_with fail
 go_loopw [7,8] (fun v i wr=>∃ (k j gr c':Nat),Hid (k=j + 1)/\i=.int .i64 (k:Int)/\v=.slice (some ⟨gr,0,none⟩) j c'/\j<=3/\Hid (wr.ownsRow W3.heap.size 2 1 (.slice (some ⟨gr,0,none⟩) j c') j (zd zp ((wK x f).take j)))/\Below W3.heap.size W3 wr) (fun _ i _=>4 - (intOf i).toNat)
 case atStart=>exact ⟨1,0,g0,0,qH rfl,rfl,rfl,by omega,HR0,hb4⟩
 case round=>
 clear HR0 hb4;obtain ⟨k,j,gr,c',HK,rfl,rfl,hj3,HR,hb⟩:=hrel;have hkj:=HK.out;have hk0:(0:Int)<=(k:Int):=by omega
 by_cases hlt:j < 3
 case neg=>
  have hi1:¬ (k:Int) < 4:=by omega
  obtain rfl:j=3:=by omega
  clear hkj;go_wp2;go_returns;exact ⟨some ⟨gr,0,none⟩,3,c',rfl,rfl,Arr.own HR.out,za HV.out hb⟩
 case pos=>
 have hi1:(k:Int) < 4:=by omega
 have hk4:k < 4:=by omega
 obtain ⟨av,bv,hav,hbv,hpv,ha0,ha1,hb0,hb1⟩:∃ av bv:Int,W3.cell? ⟨ga,k,none⟩=some (.int .i64 av)/\W3.cell? ⟨gb,k,none⟩=some (.int .i64 bv)/\(wK x f)[j]?=some (max 0 (bv - av))/\500<=av/\av<=5000/\500<=bv/\bv<=5000:=by
  have q1:=HBD.out;have q2:=HBF.out;have hkk:j=0\/j=1\/j=2:=by omega
  rw [hkj];rcases hkk with rfl | rfl | rfl
  ·exact ⟨x.b,f.b,HBA.out.cell 1,HBB.out.cell 1,congrArg some (Int.max_comm _ _),by omega,by omega,by omega,by omega⟩
  ·exact ⟨x.i,f.i,HBA.out.cell 2,HBB.out.cell 2,congrArg some (Int.max_comm _ _),by omega,by omega,by omega,by omega⟩
  ·exact ⟨x.h,f.h,HBA.out.cell 3,HBB.out.cell 3,congrArg some (Int.max_comm _ _),by omega,by omega,by omega,by omega⟩
 have hw:IntKind.i64.wrap (bv - av)=bv - av:=IntWalk.i64_in _ (by omega);have HMX:=fun w=>za5 0 (bv - av) w;obtain ⟨mv,hmv⟩:=zN (max 0 (bv - av));rw [<-hmv] at HMX hpv;have E9:=qH (show zd zp ((wK x f).take (j + 1))=zd zp ((wK x f).take j) ++ [Value.int .i64 mv] by rw [yJ hpv,zY];rfl);replace HMX:=qH HMX;clear hkj;clear hpv hmv ha0 ha1 hb0 hb1;go_upto_region 7 with fail;refine zH (fun w'=>Below W3.heap.size W3 w'/\True) ?_ (fun hHeld=>?_)
 ·exact ⟨hb.drew,trivial⟩
 refine zU 0 19 ?_;refine zU 1 20 ?_;refine zU 2 21 ?_;refine zU 3 22 ?_;refine zT 4 23 rfl (fun w hSw=>by
  have x_hbv:=zb hSw.1 hbv;go_simp;try with_reducible rfl) ?_
 refine zU 5 24 ?_;refine zU 6 25 ?_;refine zU 7 26 ?_;refine zT 8 27 rfl (fun w hSw=>by
  have x_hav:=zb hSw.1 hav;go_simp;try with_reducible rfl) ?_
 refine zU 9 28 ?_;refine zR 10 (some 29) rfl (fun K hK=>?_);go_simp;go_split_ands;refine qR (HMX.out _) ?_;go_wp2_with fail;refine zK hK ⟨hb.drew,trivial⟩ (fun hHeld=>?_);clear hK K;refine zR 11 (some 30) rfl (fun K hK=>?_);go_simp;go_split_ands;obtain ⟨W5,hW5⟩:=zN (World.drew (World.alloc wr (Obj.cells #[.int .i64 mv] 2)));obtain ⟨gv,hgv⟩:=zN wr.heap.size;have HX0:Hid (Arr W5 (some ⟨gv,0,none⟩) [Value.int .i64 mv]):=qH (by rw [hW5,hgv];exact vY (Blk.new wr _ _));have hb9:Below wr.heap.size wr W5:=by rw [hW5];exact (zc (Below.refl _ _) _).drew
 have hd7:=za hb hb9;have HR5:=qH (ze HR.out hb9);rw [<-hW5,<-hgv];clear hW5 hgv hb9;refine zK hK ⟨hd7,trivial⟩ (fun hHeld=>?_);clear hK K;refine zR 12 (some 31) rfl (fun K hK=>?_)
 skip
 go_split_ands;refine rY W5 _ _ 58 2 rfl i0 _ 1 8 underlying58 hi0 hz0 hz1 hz2 rfl (by omega) W3.heap.size (some ⟨gr,0,none⟩) j c' _ rfl HR5.out _ 1 1 _ (by omega) rfl HX0.out rfl (by simp [Value.oneCell']) (by unfold maxLen;omega) (by omega) hd7.size ?_;intro g7 c7 w7 hown7 hg7 hfr7;have hv7:=zi hd7 hg7 (zn HR5.out);refine zK hK ⟨hv7,trivial⟩ (fun hHeld=>?_);clear hK K;refine zU 13 7 ?_;refine zD ?_;clear hHeld;go_wp2_with fail;exact ⟨⟨k + 1,j + 1,g7,c7,qH (by rw [HK.out]),by go_num,rfl,by omega,qH (by rw [E9.out];exact hown7),hv7⟩,by simp [intOf];omega⟩
theorem zad(w0 w:World)(g:Nat)(d:Dk)(O:List ByteArray)(ns:List Int)(ts:List ByteArray)(A Ao An At:Option Addr)(n c no co kn cn kt ct:Nat)(v0 v1 v2 v3:Int)(h:SR w0 w g d O ns ts A Ao An At n c no co kn cn kt ct)(hno:no<=900000)(hns:ns=[v0,v1,v2,v3]) :
 Calls prog 108 #[.pointer (some ⟨g,0,none⟩)] w (vl w0 g (vu d v0 v1 v2 v3).1 (O ++ wS (vu d v0 v1 v2 v3)) ns ts w (.tuple #[])):=by
 subst hns;obtain ⟨ad,hAn,_,d0⟩:=yn (k:=0) h.nums rfl;obtain ⟨_,e1,_,d1⟩:=yn (k:=1) h.nums rfl;obtain ⟨_,e2,_,d2⟩:=yn (k:=2) h.nums rfl;obtain ⟨_,e3,_,d3⟩:=yn (k:=3) h.nums rfl;subst hAn;injection e1 with e1;injection e2 with e2;injection e3 with e3;subst e1 e2 e3;have n0:w.cell? ad=some (.int .i64 v0):=by rw [<-show ad.add 0=ad from by unfold Addr.add;split <;> simp_all];exact d0
 have n1:w.cell? ⟨ad.block,ad.off + 1,none⟩=some (.int .i64 v1):=d1;have n2:w.cell? ⟨ad.block,ad.off + 2,none⟩=some (.int .i64 v2):=d2;have n3:w.cell? ⟨ad.block,ad.off + 3,none⟩=some (.int .i64 v3):=d3;obtain rfl:kn=4:=h.hk.symm;have c16:=nF h.blk;have HRF:=fun w=>gH v0 v1 v2 v3 w;unfold ep at HRF;obtain ⟨hb3,hbb⟩:=jV v0 v1 v2 v3;have HYE:=qH (fun (hc:(xy v0 v1 v2 v3).2=0)=>(show vu d v0 v1 v2 v3=(d,[uj (xy v0 v1 v2 v3).1],0) from if_pos hc));have HNO:=qH (fun (hc:¬ (xy v0 v1 v2 v3).2=0)=>(show vu d v0 v1 v2 v3=(d,[],(xy v0 v1 v2 v3).2) from if_neg hc));obtain ⟨L,hL⟩:=zN ((xy v0 v1 v2 v3).1);obtain ⟨K,hK⟩:=zN ((xy v0 v1 v2 v3).2);rw [<-hL] at HRF HYE hb3 hbb;rw [<-hK] at HRF HYE HNO;replace HRF:=qH HRF;have HBB:=qH (fun v hv=>(⟨by have:=(hbb v hv).1;omega,by have:=(hbb v hv).2;omega⟩:-1000000000<=v/\v<=1000000000));have H:=qH h;clear hL hK h d0 d1 d2 d3 hbb;go_in;go_upto_region 0 with fail;refine zH (fun w'=>Below w.heap.size w w'/\True) ?_ (fun hHeld=>?_)
 ·exact ⟨(Below.refl _ _).drew,trivial⟩
 have hd9:=hHeld.1;refine zU 0 5 ?_;refine zU 1 6 ?_;refine zU 2 7 ?_;refine zT 3 8 rfl (fun w hSw=>by
  have x_c16:=zb hSw.1 c16;go_simp;try with_reducible rfl) ?_
 refine zU 4 9 ?_;refine zT 5 10 rfl (fun w hSw=>by
  have x_n0:=zb hSw.1 n0;go_simp;try with_reducible rfl) ?_
 refine zU 6 11 ?_;refine zU 7 12 ?_;refine zU 8 13 ?_;refine zT 9 14 rfl (fun w hSw=>by
  have x_c16:=zb hSw.1 c16;go_simp;try with_reducible rfl) ?_
 refine zU 10 15 ?_;refine zT 11 16 rfl (fun w hSw=>by
  have x_n1:=zb hSw.1 n1;go_simp;try with_reducible rfl) ?_
 refine zU 12 17 ?_;refine zU 13 18 ?_;refine zU 14 19 ?_;refine zT 15 20 rfl (fun w hSw=>by
  have x_c16:=zb hSw.1 c16;go_simp;try with_reducible rfl) ?_
 refine zU 16 21 ?_;refine zT 17 22 rfl (fun w hSw=>by
  have x_n2:=zb hSw.1 n2;go_simp;try with_reducible rfl) ?_
 refine zU 18 23 ?_;refine zU 19 24 ?_;refine zU 20 25 ?_;refine zT 21 26 rfl (fun w hSw=>by
  have x_c16:=zb hSw.1 c16;go_simp;try with_reducible rfl) ?_
 refine zU 22 27 ?_;refine zT 23 28 rfl (fun w hSw=>by
  have x_n3:=zb hSw.1 n3;go_simp;try with_reducible rfl) ?_
 refine zR 24 (some 29) rfl (fun K hK=>?_);go_simp;go_split_ands;refine (HRF.out _).mono ?_;rintro e W2 ⟨B,m,cb,rfl,hLm,hB,hb9⟩;have HB:=qH hB;have HLM:=qH hLm;replace hd9:=za hd9 hb9;clear hb9 hB;go_wp2_with fail;refine zK hK ⟨hd9,trivial⟩ (fun hHeld=>?_);clear hK K;refine zU 25 4 ?_;refine zU 26 30 ?_;refine zU 27 31 ?_;refine zU 28 2 ?_;refine zU 29 3 ?_;refine zD ?_;clear hHeld c16 n0 n1 n2 n3 HRF;have HSV:=qH (H.out.below hd9);have HZV:=qH hd9.size;clear hd9;by_cases hc:K=0
 case neg=>
  have HE:=qH (HNO.out hc);have HCC:=qH hc;have HRP:=qH (yP w0 W2 g d O [v0,v1,v2,v3] ts A Ao (some ad) At n c no co 4 cn kt ct HSV.out (by omega) K);rw [if_neg hc,decide_eq_true hc] at HRP;clear hc;go_wp2_with fail;refine HRP.out.mono ?_;rintro e W5 ⟨rfl,hz5,hr5⟩;go_wp2;go_returns;have hz2:=HZV.out;rw [HE.out,show wS (d,[],K)=[wZ K] from if_neg HCC.out];exact ⟨rfl,by omega,hr5⟩
 subst hc;have HE:=qH (HYE.out rfl);have HR0:=qH (fun W=>vG (.pointer (some ⟨g,0,none⟩)) W);go_wp2_with fail;refine qR (HR0.out _) ?_;have HRW:=qH (zdQ w0 W2 g d O [v0,v1,v2,v3] ts A Ao (some ad) At B n c no co 4 cn kt ct m cb L HSV.out hno (qH hLm) (by omega) HBB HB.out);go_wp2_with fail;refine HRW.out.mono ?_;rintro e W5 ⟨rfl,hz5,hr5⟩;go_wp2;go_returns;have hzv:=HZV.out;rw [HE.out];exact ⟨rfl,by omega,hr5⟩
theorem zb5(w0 w:World)(g:Nat)(d:Dk)(O:List ByteArray)(ns:List Int)(ts:List ByteArray)(A Ao An At:Option Addr)(n c no co kn cn kt ct:Nat)(nm:ByteArray)(h:SR w0 w g d O ns ts A Ao An At n c no co kn cn kt ct)(hno:no<=900000)(hd:d.ok=true)(ht:ts[0]?=some nm)(htz:nm.size<=9223372036854775807) :
 Calls prog 107 #[.pointer (some ⟨g,0,none⟩)] w (vl w0 g (vW d nm).1 (O ++ wS (vW d nm)) ns ts w (.tuple #[])):=by
 obtain ⟨ad,hAt,_,d0⟩:=zh h.texts ht;subst hAt;have d1:w.cell? ad=some (.string nm):=by rw [<-show ad.add 0=ad from by unfold Addr.add;split <;> simp_all];exact d0
 have hkt:0 < kt:=by rw [<-h.ht];exact (List.getElem?_eq_some_iff.1 ht).1
 have c17:=uz h.blk;have c4:=yc4 h.blk;obtain ⟨hfB,hlB,hsB,hcB⟩:=yj hd;have HFB:=qH hfB;have HLA:=qH (fun x hx=>xc hlB x hx);have hn30:n<=30:=by rw [<-h.hn];exact wj hlB
 have HNZ:Hid (∀ x ∈ d.xs,x.name.size<=9223372036854775807):=qH (fun x hx=>Nat.le_trans (yH (xc hlB x hx)) (by omega));have HN:=qH h.hn;have HLN:=fun w h=>pA A d.xs n c nm HN (by omega) HNZ htz w h;have HAT:=qH (fun (hc:(yw d.xs nm).2=0)=>nM (d:=d) hc);have HYE:=qH (fun (hc:(yw d.xs nm).2=0)=>(show vW d nm=(d,[uj (wK (atD d nm) d.f)],0) from if_pos hc));have HNO:=qH (fun (hc:¬ (yw d.xs nm).2=0)=>(show vW d nm=(d,[],(yw d.xs nm).2) from if_neg hc));obtain ⟨J,hJ⟩:=zN ((yw d.xs nm).1);obtain ⟨K,hK⟩:=zN ((yw d.xs nm).2);rw [<-hJ,<-hK] at HLN HAT;rw [<-hK] at HYE HNO;obtain ⟨x,hx⟩:=zN (atD d nm);rw [<-hx] at HAT HYE;replace HLN:=qH HLN;have H:=qH h;clear hJ hK hx h d0 hfB hlB hsB hcB hd ht;go_in;go_upto_region 0 with fail;refine zH (fun w'=>Below w.heap.size w w'/\True) ?_ (fun hHeld=>?_)
 ·exact ⟨(Below.refl _ _).drew,trivial⟩
 have hd9:=hHeld.1;refine zU 0 5 ?_;refine zU 1 6 ?_;refine zU 2 7 ?_;refine zU 3 8 ?_;refine zT 4 9 rfl (fun w hSw=>by
  have x_c4:=zb hSw.1 c4;go_simp;try with_reducible rfl) ?_
 refine zU 5 10 ?_;refine zU 6 11 ?_;refine zU 7 12 ?_;refine zT 8 13 rfl (fun w hSw=>by
  have x_c17:=zb hSw.1 c17;go_simp;try with_reducible rfl) ?_
 refine zU 9 14 ?_;refine zT 10 15 rfl (fun w hSw=>by
  have x_d1:=zb hSw.1 d1;go_simp;try with_reducible rfl) ?_
 refine zR 11 (some 16) rfl (fun K hK=>?_);go_simp;go_split_ands;refine qS (HLN.out _ (Arr.own (ze H.out.own hd9))) fun W2 hb9=>?_;replace hd9:=za hd9 hb9;clear hb9;go_wp2_with fail;refine zK hK ⟨hd9,trivial⟩ (fun hHeld=>?_);clear hK K;refine zU 12 4 ?_;refine zU 13 17 ?_;refine zU 14 18 ?_;refine zU 15 2 ?_;refine zU 16 3 ?_;refine zD ?_;clear hHeld c4 c17 d1 HLN;have HSV:=qH (H.out.below hd9);have HZV:=qH hd9.size;clear hd9;by_cases hc:K=0
 case neg=>
  have HE:=qH (HNO.out hc);have HCC:=qH hc;have HRP:=qH (yP w0 W2 g d O ns ts A Ao An (some ad) n c no co kn cn kt ct HSV.out (by omega) K);rw [if_neg hc,decide_eq_true hc] at HRP;clear hc;go_wp2_with fail;refine HRP.out.mono ?_;rintro e W5 ⟨rfl,hz5,hr5⟩;go_wp2;go_returns;have hz2:=HZV.out;rw [HE.out,show wS (d,[],K)=[wZ K] from if_neg HCC.out];exact ⟨rfl,by omega,hr5⟩
 subst hc;have HE:=qH (HYE.out rfl);have HR0:=qH (fun W=>vG (.pointer (some ⟨g,0,none⟩)) W);go_wp2_with fail;refine qR (HR0.out _) ?_;obtain ⟨hx,hJ⟩:=HAT.out trivial;obtain ⟨k,hk⟩:=zN J.toNat
 rw [<-hk] at hx hJ;subst hJ;have hkn:k < n:=by rw [<-HN.out];exact (List.getElem?_eq_some_iff.1 hx).1
 obtain ⟨ad2,hA2,hab,e0,e1,e2,e3,e4,e5⟩:=Last.at_ (Arr.own HSV.out.own) hx;have HX:Hid (zy x=true):=qH (HLA.out x (List.mem_of_getElem? hx));have HNE:=fun w=>bP x d.f HX HFB w;unfold em at HNE;have HNL:=qH (show ∀ v ∈ wK x d.f,-1000000000<=v/\v<=1000000000 from fun v hv=>by
  have h9:=(oF HX.out HFB.out).2 v hv;omega)
 obtain ⟨L,hL⟩:=zN (wK x d.f);have hl3:L.length<=3:=by rw [hL];exact (oF HX.out HFB.out).1
 rw [<-hL] at HNE HNL HE;replace HNE:=qH HNE;subst hA2;have hk0:(0:Int)<=(k:Int):=by omega
 have hk1:(k:Int) < (n:Int):=by omega
 have c4:=yc4 HSV.out.blk;have f0:=yc0 HSV.out.blk;have f1:=yc1 HSV.out.blk;have f2:=yc2 HSV.out.blk;have f3:=yc3 HSV.out.blk;have HXK:=qH hx;clear hL hk hx hab c4 e0 e1 e2 e3 e4 e5 f0 f1 f2 f3;go_upto_region 2 with fail;refine zH (fun w'=>w0.heap.size<=w'.heap.size/\∃ (O':List ByteArray) (Ao':Option Addr) (no' co':Nat),SR w0 w' g d O' ns ts (some ad2) Ao' An (some ad) n c no' co' kn cn kt ct) ?_ (fun hHeld=>?_)
 ·exact ⟨HSV.out.bel.size,O,Ao,no,co,HSV.out.below (Below.refl _ _).drew⟩
 refine zU 0 23 ?_;refine zU 1 24 ?_;refine zU 2 25 ?_;refine zU 3 26 ?_;refine zU 4 27 ?_;refine zT 5 28 rfl (fun w hSw=>by
  obtain ⟨_,O9,Ao9,no9,co9,hsr⟩:=hSw;have c4:=yc4 hsr.blk;go_simp;try with_reducible rfl) ?_
 refine zU 6 29 ?_;refine zU 7 30 ?_;refine zT 8 31 rfl (fun w hSw=>by
  obtain ⟨_,O9,Ao9,no9,co9,hsr⟩:=hSw;obtain ⟨ad9,hA9,_,e0,e1,e2,e3,e4,e5⟩:=Last.at_ (Arr.own hsr.own) HXK.out;injection hA9 with hA9;subst hA9;go_simp;try with_reducible rfl) ?_
 refine zU 9 32 ?_;refine zU 10 33 ?_;refine zU 11 34 ?_;refine zU 12 35 ?_;refine zT 13 36 rfl (fun w hSw=>by
  obtain ⟨_,O9,Ao9,no9,co9,hsr⟩:=hSw;have f0:=yc0 hsr.blk;have f1:=yc1 hsr.blk;have f2:=yc2 hsr.blk;have f3:=yc3 hsr.blk;go_simp;try with_reducible rfl) ?_
 refine zR 14 (some 37) rfl (fun K hK=>?_);go_simp;go_split_ands;refine (HNE.out _).mono ?_;rintro e W4 ⟨B,m,cb,rfl,hLm,hB,hb9⟩;have HB:=qH hB;have HS4:=qH ((HSV.out.below (Below.refl _ _).drew).below hb9);have hz4:=hb9.size;clear hb9 hB;go_wp2_with fail;refine zK hK ⟨HS4.out.bel.size,O,Ao,no,co,HS4.out⟩ (fun hHeld=>?_);clear hK K;refine zR 15 (some 38) rfl (fun K hK=>?_);go_simp;go_split_ands;refine (aC w0 W4 g d O ns ts (some ad2) Ao An (some ad) B n c no co kn cn kt ct m cb L HS4.out hno (qH hLm) (by omega) HNL HB.out).mono ?_;rintro e W5 ⟨rfl,hz5,Ao5,no5,co5,hr5⟩;go_wp2_with fail;refine zK hK ⟨hr5.bel.size,O ++ [uj L],Ao5,no5,co5,hr5⟩ (fun hHeld=>?_);clear hK K;refine zD ?_;clear hHeld;go_wp2;go_returns;have hzv:=HZV.out;have hz9:W2.drew.heap.size=W2.heap.size:=rfl;rw [HE.out];exact ⟨rfl,by omega,some ad2,Ao5,An,some ad,n,c,no5,co5,kn,cn,kt,ct,hr5⟩
theorem zab(w0 w:World)(g:Nat)(d:Dk)(O:List ByteArray)(ns:List Int)(ts:List ByteArray)(A Ao An At:Option Addr)(n c no co kn cn kt ct:Nat)(a v:Int)(nm:ByteArray)(h:SR w0 w g d O ns ts A Ao An At n c no co kn cn kt ct)(hno:no<=900000)(hd:d.ok=true)(hns:ns=[a,v])(hts:ts=[nm])(htz:nm.size<=1048576) :
 Calls prog 101 #[.pointer (some ⟨g,0,none⟩)] w (vl w0 g (vp d a nm v).1 (O ++ wS (vp d a nm v)) ns ts w (.tuple #[])):=by
 subst hns;subst hts;obtain ⟨ad,hAn,_,d0⟩:=yn (k:=0) h.nums rfl;obtain ⟨_,e1,_,d1⟩:=yn (k:=1) h.nums rfl;obtain ⟨at_,hAt,_,q0⟩:=zh (k:=0) h.texts rfl;subst hAn;subst hAt;injection e1 with e1;subst e1;have n0:w.cell? ad=some (.int .i64 a):=by rw [<-show ad.add 0=ad from by unfold Addr.add;split <;> simp_all];exact d0
 have n1:w.cell? ⟨ad.block,ad.off + 1,none⟩=some (.int .i64 v):=d1;have t0:w.cell? at_=some (.string nm):=by rw [<-show at_.add 0=at_ from by unfold Addr.add;split <;> simp_all];exact q0
 obtain rfl:kn=2:=h.hk.symm;obtain rfl:kt=1:=h.ht.symm;have c14:=pt h.blk;have c16:=nF h.blk;have c17:=uz h.blk;obtain ⟨hfB,hlB,hsB,hcB⟩:=yj hd;have hlg:=vo hcB;have HAE:=fun w=>gB d.lg (by omega) ⟨a,nm,v⟩ (Nat.le_trans htz (by omega)) w;have HLA:=qH (fun (hc:(xK d.lg ⟨a,nm,v⟩).2=0)=>(mQ hcB hc).2.2.2);have HYE:=qH (fun (hc:(xK d.lg ⟨a,nm,v⟩).2=0)=>(show vp d a nm v=(⟨d.f,d.xs,d.s,(xK d.lg ⟨a,nm,v⟩).1⟩,[zm (uV (xK d.lg ⟨a,nm,v⟩).1 nm).sum],0) from if_pos hc));have HNO:=qH (fun (hc:¬ (xK d.lg ⟨a,nm,v⟩).2=0)=>(show vp d a nm v=(d,[],(xK d.lg ⟨a,nm,v⟩).2) from if_neg hc));obtain ⟨l2,hl2⟩:=zN ((xK d.lg ⟨a,nm,v⟩).1);obtain ⟨K,hK⟩:=zN ((xK d.lg ⟨a,nm,v⟩).2);rw [<-hl2,<-hK] at HAE HYE HLA;rw [<-hK] at HNO;replace HAE:=qH HAE;have H:=qH h;clear hl2 hK h d0 d1 q0 hfB hlB hsB hcB hd;go_in;go_upto_region 0 with fail;refine zH (fun w'=>Below w.heap.size w w'/\True) ?_ (fun hHeld=>?_)
 ·exact ⟨(Below.refl _ _).drew,trivial⟩
 have hd9:=hHeld.1;refine zU 0 7 ?_;refine zU 1 8 ?_;refine zU 2 9 ?_;refine zU 3 10 ?_;refine zT 4 11 rfl (fun w hSw=>by
  have x_c14:=zb hSw.1 c14;go_simp;try with_reducible rfl) ?_
 refine zU 5 12 ?_;refine zU 6 13 ?_;refine zU 7 14 ?_;refine zT 8 15 rfl (fun w hSw=>by
  have x_c16:=zb hSw.1 c16;go_simp;try with_reducible rfl) ?_
 refine zU 9 16 ?_;refine zT 10 17 rfl (fun w hSw=>by
  have x_n0:=zb hSw.1 n0;go_simp;try with_reducible rfl) ?_
 refine zU 11 18 ?_;refine zU 12 19 ?_;refine zU 13 20 ?_;refine zT 14 21 rfl (fun w hSw=>by
  have x_c17:=zb hSw.1 c17;go_simp;try with_reducible rfl) ?_
 refine zU 15 22 ?_;refine zT 16 23 rfl (fun w hSw=>by
  have x_t0:=zb hSw.1 t0;go_simp;try with_reducible rfl) ?_
 refine zU 17 24 ?_;refine zU 18 25 ?_;refine zU 19 26 ?_;refine zT 20 27 rfl (fun w hSw=>by
  have x_c16:=zb hSw.1 c16;go_simp;try with_reducible rfl) ?_
 refine zU 21 28 ?_;refine zT 22 29 rfl (fun w hSw=>by
  have x_n1:=zb hSw.1 n1;go_simp;try with_reducible rfl) ?_
 refine zU 23 30 ?_;refine zR 24 (some 31) rfl (fun K hK=>?_);go_simp;go_split_ands;refine qS (HAE.out _) fun W2 hb9=>?_;replace hd9:=za hd9 hb9;clear hb9;go_wp2_with fail;refine zK hK ⟨hd9,trivial⟩ (fun hHeld=>?_);clear hK K;refine zU 25 6 ?_;refine zU 26 32 ?_;refine zU 27 33 ?_;refine zU 28 2 ?_;refine zU 29 3 ?_;refine zD ?_;clear hHeld c14 c16 c17 n0 n1 t0 HAE;have HSV:=qH (H.out.below hd9);have HT2:=qH (H.out.texts.below hd9);have HZV:=qH hd9.size;clear hd9;by_cases hc:K=0
 case neg=>
  have HE:=qH (HNO.out hc);have HCC:=qH hc;have HRP:=qH (yP w0 W2 g d O [a,v] [nm] A Ao (some ad) (some at_) n c no co 2 cn 1 ct HSV.out (by omega) K);rw [if_neg hc,decide_eq_true hc] at HRP;clear hc;go_wp2_with fail;refine HRP.out.mono ?_;rintro e W5 ⟨rfl,hz5,hr5⟩;go_wp2;go_returns;have hz2:=HZV.out;rw [HE.out,show wS (d,[],K)=[wZ K] from if_neg HCC.out];exact ⟨rfl,by omega,hr5⟩
 subst hc;have HE:=qH (HYE.out rfl);have hlz:=HLA.out rfl;have HR0:=qH (fun W=>vG (.pointer (some ⟨g,0,none⟩)) W);go_wp2_with fail;refine qR (HR0.out _) ?_;have c14:=pt HSV.out.blk;have f14:W2.frozen? ⟨g,14,none⟩=false:=HSV.out.blk.frozen 14;have HS5:Hid (SR w0 (W2.setCell ⟨g,14,none⟩ (.string l2)) g ⟨d.f,d.xs,d.s,l2⟩ O [a,v] [nm] A Ao (some ad) (some at_) n c no co 2 cn 1 ct):=qH (HSV.out.mid (e:=⟨d.f,d.xs,d.s,l2⟩) 14 [.string l2] rfl (HSV.out.blk.set_ 14 _));have hz5:(W2.setCell ⟨g,14,none⟩ (.string l2)).heap.size=W2.heap.size:=World.size_setCell _ _ _;go_upto_region 3 with fail;obtain ⟨V,hV⟩:=zN (W2.setCell ⟨g,14,none⟩ (.string l2));rw [<-hV] at HS5 hz5 |-;have HZ5:=qH hz5;clear hV c14 f14 HSV hz5 HT2;have c17:=uz HS5.out.blk;obtain ⟨_,e2,_,q0⟩:=zh (k:=0) HS5.out.texts rfl;injection e2 with e2;subst e2;have t0:V.cell? at_=some (.string nm):=by rw [<-show at_.add 0=at_ from by unfold Addr.add;split <;> simp_all];exact q0
 have HVL:=fun w=>gJ l2 nm (by omega) (Nat.le_trans htz (by omega)) w;have hvb:=mW l2 nm;obtain ⟨L,hL⟩:=zN (uV l2 nm);rw [<-hL] at HVL hvb HE;obtain ⟨m,hm⟩:=zN L.length;rw [<-hm] at HVL;have HM:=qH hm.symm;have hm4:m<=4000:=by rw [hm];exact hvb.1
 have hsb:=mC L hvb.2;rw [<-hm] at hsb;have HBB:=qH (fun v hv=>(⟨by have:=(hvb.2 v hv).1;omega,by have:=(hvb.2 v hv).2;omega⟩:-1000000000<=v/\v<=1000000000));obtain ⟨CW,hCW⟩:=zN (cdW l2 nm);rw [<-hCW] at HVL;unfold OutL at HVL;replace HVL:=qH HVL;have HSU:=qH (fun B cb w h=>za7 B L m cb HM (by omega) HBB w h);obtain ⟨sm,hsm⟩:=zN L.sum;rw [<-hsm] at hsb HSU HE;have HDC:=qH (fun w=>xh sm (by omega) (by omega) w);clear hL hm hvb hsb hCW hsm q0;go_wp2_with fail;refine (HVL.out _).mono ?_;rintro e W6 ⟨B,cb,rfl,hown,hb6⟩;have HB:=qH (Arr.own hown);have HS6:=qH (HS5.out.below hb6);have HZ6:=qH hb6.size;clear hown hb6 c17 t0 HS5 HVL;go_wp2_with fail;refine qS (HSU.out B cb _ HB.out) fun W7 hb7=>?_;have HS7:=qH (HS6.out.below hb7);have HZ7:=qH hb7.size;clear hb7 HS6;go_wp2_with fail;refine qS (HDC.out _) fun W8 hb8=>?_;have HS8:=qH (HS7.out.below hb8);have HZ8:=qH hb8.size;clear hb8 HS7;go_wp2_with fail;refine (sZ w0 W8 g _ O [a,v] [nm] A Ao (some ad) (some at_) n c no co 2 cn 1 ct HS8.out (by omega) (zm sm)).mono ?_;rintro e W9 ⟨rfl,hz9,hr9⟩;go_wp2;go_returns;have h2:=HZV.out;have h5:=HZ5.out;have h6:=HZ6.out;have h7:=HZ7.out;have h8:=HZ8.out;rw [HE.out];exact ⟨rfl,by omega,hr9⟩
theorem cq(f:Foot)(lo hi gi:Int):∀ (xs:List Last) (i:Nat) (p:Nat × Int),p ∈ yV f lo hi gi i xs->i<=p.1/\∃ x,xs[p.1 - i]?=some x/\okC x f lo hi gi=true/\p.2=vB x f lo
 | [],_,p,h=>by simp [yV] at h
 | x :: r,i,p,h=>by
   have rc:p ∈ yV f lo hi gi (i + 1) r->i<=p.1/\∃ x',(x :: r)[p.1 - i]?=some x'/\okC x' f lo hi gi=true/\p.2=vB x' f lo:=fun h=>by
    obtain ⟨h1,y,h2,h3,h4⟩:=cq f lo hi gi r (i + 1) p h;refine ⟨by omega,y,?_,h3,h4⟩;rw [show p.1 - i=(p.1 - (i + 1)) + 1 by omega,List.getElem?_cons_succ];exact h2
   simp only [yV] at h;by_cases hk:okC x f lo hi gi=true
   · rw [if_pos hk] at h;rcases List.mem_cons.1 h with rfl | h
     ·exact ⟨Nat.le_refl _,x,by simp,hk,rfl⟩
     ·exact rc h
   ·rw [if_neg hk] at h;exact rc h
def rkP(P:List (Nat × Int)):List (Nat × Int):=P.foldl (fun l p=>vd l (ubR p.2 l) p) []
theorem zbs(P:List (Nat × Int))(p:Nat × Int):rkP (P ++ [p])=vd (rkP P) (ubR p.2 (rkP P)) p:=by
 unfold rkP;rw [List.foldl_append];rfl
theorem mt:∀ (P l:List (Nat × Int)),l.Pairwise tk ->
 (P.foldl (fun l p=>vd l (ubR p.2 l) p) l).Pairwise tk/\(∀ q ∈ P.foldl (fun l p=>vd l (ubR p.2 l) p) l,q ∈ l\/q ∈ P)/\(P.foldl (fun l p=>vd l (ubR p.2 l) p) l).length=l.length + P.length/\(P.foldl (fun l p=>vd l (ubR p.2 l) p) l)[0]?=P.foldl wt l[0]?
 | [],l,h=>⟨h,fun q hq=>.inl hq,rfl,rfl⟩
 | p :: r,l,h=>by
   obtain ⟨h1,h2,h3,h4⟩:=mt r (vd l (ubR p.2 l) p) (bE p h);rw [List.foldl_cons,List.foldl_cons];refine ⟨h1,fun q hq=>?_,?_,?_⟩
   · rcases h2 q hq with h | h
     · rcases zaX h with h | h
       ·exact .inr (h ▸ List.mem_cons_self)
       ·exact .inl h
     ·exact .inr (List.mem_cons_of_mem _ h)
   ·rw [h3,ru _ _ _ (gh _ _),List.length_cons];omega
   ·rw [h4,bD]
theorem zcJ(P:List (Nat × Int)):(rkP P).Pairwise tk:=(mt P [] List.Pairwise.nil).1
theorem zdh{P:List (Nat × Int)}{q:Nat × Int}(h:q ∈ rkP P):q ∈ P:=by
 rcases (mt P [] List.Pairwise.nil).2.1 q h with h | h
 ·cases h
 ·exact h
theorem zcI(P:List (Nat × Int)):(rkP P)[0]?=P.foldl wt none:=(mt P [] List.Pairwise.nil).2.2.2
def rkX(f:Foot)(lo hi gi:Int)(xs:List Last):List (Nat × Int):=rkP (yV f lo hi gi 0 xs)
theorem zdg{f:Foot}{lo hi gi:Int}{xs:List Last}{i:Nat}{x:Last}(h:xs[i]?=some x)(hk:okC x f lo hi gi=false):rkX f lo hi gi (xs.take (i + 1))=rkX f lo hi gi (xs.take i):=by
 unfold rkX;rw [yJ h,sK,if_neg (by simp [hk]),List.append_nil]
theorem zcH{f:Foot}{lo hi gi:Int}{xs:List Last}{i:Nat}{x:Last}(h:xs[i]?=some x)(hk:okC x f lo hi gi=true):rkX f lo hi gi (xs.take (i + 1))=vd (rkX f lo hi gi (xs.take i)) (ubR (vB x f lo) (rkX f lo hi gi (xs.take i))) (i,vB x f lo):=by
 have hil:i < xs.length:=(List.getElem?_eq_some_iff.1 h).1;unfold rkX;rw [yJ h,sK,if_pos hk,zbs,List.length_take,Nat.min_eq_left (by omega),Nat.zero_add]
theorem zdf{f:Foot}{lo hi gi:Int}{xs:List Last}{i k:Nat}{p:Nat × Int}(h:(rkX f lo hi gi (xs.take i))[k]?=some p):p.1 < xs.length/\∃ x,xs[p.1]?=some x/\okC x f lo hi gi=true/\p.2=vB x f lo:=by
 obtain ⟨h1,x,h2,h3,h4⟩:=cq f lo hi gi (xs.take i) 0 p (zdh (List.mem_of_getElem? h));rw [Nat.sub_zero,List.getElem?_take] at h2;split at h2
 ·exact ⟨(List.getElem?_eq_some_iff.1 h2).1,x,h2,h3,h4⟩
 ·cases h2
theorem zc1{xs:List Last}{f:Foot}{lo hi gi:Int}(h:(yx xs && (ym f && va lo hi gi))=true):xE xs f lo hi gi=match (rkX f lo hi gi xs)[0]? with
 | some p=>((p.1:Int),0)
 | none=>(0,10):=by
 unfold xE rkX;rw [if_pos h,ul,zcI];generalize (yV f lo hi gi 0 xs).foldl wt none=o;rcases o with _ | ⟨k,m⟩ <;> rfl
def plN(L:List (Nat × Int)):List Int:=L.map (fun p=>(p.1:Int))
theorem oJ(L:List (Nat × Int))(k:Nat)(p:Nat × Int):plN (vd L k p)=plN (L.take k) ++ ((p.1:Int) :: plN (L.drop k)):=by
 unfold plN vd;rw [List.map_append,List.map_cons]
theorem pi(L:List (Nat × Int))(k:Nat):plN (L.take k)=(plN L).take k:=by unfold plN;rw [List.map_take]
theorem ph(L:List (Nat × Int))(k:Nat):plN (L.drop k)=(plN L).drop k:=by unfold plN;rw [List.map_drop]
theorem vT(L:List (Nat × Int)):(plN L).length=L.length:=by unfold plN;rw [List.length_map]
theorem au{L:List (Nat × Int)}{k:Nat}{p:Nat × Int}(h:L[k]?=some p):(plN L)[k]?=some (p.1:Int):=by unfold plN;rw [List.getElem?_map,h];rfl
end Go.Proofs.YtpiehlfffjhoaaaGreatDoor
