/- Lemmas for the law on the console: the parts LogV,LogW. -/
import Derived.Test.YtpiehlfffjhoaaaGreatDoorQ8
import Derived.Deep.AppendLies
namespace Go.Proofs.YtpiehlfffjhoaaaGreatDoor
open Go.RowKit Go.Proofs.Tryz
set_option maxRecDepth 100000
set_option maxHeartbeats 8000000
theorem zbV(s:ByteArray)(g:Nat)(es:List Entry)(st:Int)(n m c:Nat)(A:Option Addr)(hm:Hid (es.length=m))(hmb:m<=1048576)(w:World)(hB:Blk w g 201 #[.string s,.int .i64 n,.int .i64 st,.slice A m c])(hA:Arr w A (zd Entry.cells es)) :
 Calls prog 230 #[.pointer (some ⟨g,0,none⟩)] w (Ret (.int .i64 (xx es)) w):=by
 have k3:=yc3 hB;by_cases h0:m=0
 ·subst h0;have HE:=qH (show xx es=0 by rw [show es=[] from List.eq_nil_of_length_eq_zero hm.out];rfl);go_in;go_wp2;go_returns;exact Ret.mk (vi HE.out.symm) (Below.refl _ _)
 · obtain ⟨j,rfl⟩:∃ j,m=j + 1:=⟨m - 1,by omega⟩
   obtain ⟨y,hy⟩:=zx (xs:=es) (k:=j) (by rw [hm.out];omega);obtain ⟨ad,rfl,hab,y0,_,_⟩:=Entry.at_ hA hy;have HE:=qH (nz hm.out hy);have hj0:(0:Int)<=(j:Int):=by omega
   have hj1:(j:Int) < ((j + 1:Nat):Int):=by omega
   have hj2:((j:Int)).toNat=j:=by omega
   have hj3:(j:Int) < (j:Int) + 1:=by omega
   have hne:(((j + 1:Nat):Int) == 0)=false:=by rw [beq_eq_false_iff_ne];omega
   have hne2:¬ (((j + 1:Nat):Int)=0):=by omega
   have hne3:¬ (((j:Nat):Int) + 1=0):=by omega
   have hne4:(((j:Nat):Int) + 1 == 0)=false:=by rw [beq_eq_false_iff_ne];omega
   have hw2:IntKind.i64.wrap (j:Int)=(j:Int):=IntWalk.i64_in _ (by omega);have hw1:IntKind.i64.wrap (((j + 1:Nat):Int) - 1)=(j:Int):=IntWalk.i64_in _ (by omega) |>.trans (by omega);clear hy h0;go_in;go_wp2_with fail
   go_quiet (fail)
   go_wp2;go_returns;exact Ret.mk (vi HE.out.symm) (below_drewN (Below.refl _ _) _)
def RV(s:ByteArray)(n:Nat)(st:Int)(A:Option Addr)(m c:Nat):Array Value:=#[.string s,.int .i64 n,.int .i64 st,.slice A m c]
def RS(s:ByteArray)(g:Nat)(es:List Entry)(st:Int)(n m b:Nat)(w:World):Prop:=
 ∃ A c,Blk w g 201 (RV s n st A m c)/\w.ownsRow b 141 3 (.slice A m c) m (zd Entry.cells es)/\∀ k,(Value.slice A m c).ownBlock=some k->k≠g
def zdx(s:ByteArray)(g:Nat)(es:List Entry)(st:Int)(n m b:Nat)(w:World)(e:Ending)(w':World):Prop:=
 (xP (s.data.toList.drop n) es st=none/\e=.returned (.bool false)/\RS s g es st n m b w'/\Below b w w') \/
 ∃ x k,xP (s.data.toList.drop n) es st=some (x,k)/\e=.returned (.bool true)/\RS s g (es ++ [x]) (stp st x) (n + k) (m + 1) b w'/\Below b w w'
theorem zbg{a:ByteArray}(h:okN a.data.toList=true):zq a=xk a.data.toList:=xe h
theorem ae{s a b c d:ByteArray}{n:Nat}{stv:Int}(hk:zZ (s.data.toList.drop n) < (s.data.toList.drop n).length)(hq:zl 32 (s.extract n (n + zZ (s.data.toList.drop n)))=[a,b,c,d])(ha:okN a.data.toList=true)(hc:okN c.data.toList=true)(h0:0<=stv)(h1:stv<=65518) :
 yI stv ⟨zq a,b,zq c⟩=s.extract n (n + zZ (s.data.toList.drop n) + 1) ↔ (okN d.data.toList=true/\zq d=stv):=by
 have hd:(s.extract n (n + zZ (s.data.toList.drop n))).data.toList=(s.data.toList.drop n).take (zZ (s.data.toList.drop n)):=by
  rw [uc,Nat.add_sub_cancel_left]
 have hd1:(s.extract n (n + zZ (s.data.toList.drop n) + 1)).data.toList=(s.data.toList.drop n).take (zZ (s.data.toList.drop n)) ++ [10]:=by
  rw [uc,show n + zZ (s.data.toList.drop n) + 1 - n=zZ (s.data.toList.drop n) + 1 from by omega,zcS hk]
 have hs:spl 32 ((s.data.toList.drop n).take (zZ (s.data.toList.drop n)))=[a.data.toList,b.data.toList,c.data.toList,d.data.toList]:=by
  have h2:(zl 32 (s.extract n (n + zZ (s.data.toList.drop n)))).map (·.data.toList)=spl 32 (s.extract n (n + zZ (s.data.toList.drop n))).data.toList:=by
   unfold zl;rw [List.map_map]
   conv=>rhs;rw [<-List.map_id (spl 32 _)]
   exact List.map_congr_left fun x _=>by simp
  rw [<-hd,<-h2,hq];rfl
 have key:=zcy hs ha hc h0 h1;rw [vI,<-xe ha,<-xe hc] at key;constructor
 ·intro h;have h3:=key.1 (by rw [h,hd1]);exact ⟨h3.1,by rw [xe h3.1];exact h3.2⟩
 ·rintro ⟨h3,h4⟩;rw [xe h3] at h4;have h5:=key.2 ⟨h3,h4⟩;rw [<-hd1] at h5;rw [<-vI (yI _ _),h5,vI]
theorem mB{l:List UInt8}{es:List Entry}{st sv:Int}{x:Entry}{B:Bool}(h:vU (l.take (zZ l))=if B=true then some (x,sv) else none)(hn:¬ (B=true/\xx es<=x.day/\stp st x=sv)):xP l es st=none:=by
 cases B with
 | false=>exact tf (by rw [h];rfl)
 | true=>exact rV (by rw [h];rfl) (fun h2=>hn ⟨rfl,h2⟩)
theorem zda(s:ByteArray)(hs:s.size<=1048576)(g:Nat)(es:List Entry)(st:Int)(n m b:Nat)(hG:Good s es st n)(hm:Hid (es.length=m))(hb0:b<=g)(w:World)(hRS:RS s g es st n m b w) :
 Calls prog 212 #[.pointer (some ⟨g,0,none⟩)] w (zdx s g es st n m b w):=by
 obtain ⟨i0,hi0,hz0,hz1,hz2⟩:=info_parts (P:=prog) (e:=141) (z:=.agg #[.int .i64 0,.string ByteArray.empty,.int .i64 0]) (size:=3) (bytes:=32) oU;obtain ⟨A,c,hB,hown,hne⟩:=hRS;have hgw:g < w.heap.size:=hB.lt;have hownlt:=qH (yr hown);have hn:=hG.le;have hmb:m<=1048576:=by have:=hG.few;have:=hm.out;omega
 have hdl:=qH (show (s.data.toList.drop n).length=s.size - n by rw [List.length_drop,zu]);obtain ⟨E,hE⟩:=zN (n + zZ (s.data.toList.drop n));have hEs:E<=s.size:=by have:=zcB (s.data.toList.drop n);rw [hdl.out] at this;omega
 have hnE:n<=E:=by omega
 have HE:=qH hE;clear hE;have k0:=yc0 hB;have k1:=yc1 hB;go_in;go_wp2_with fail
 go_loop [3] (fun e=>∃ q:Nat,n<=q/\q<=E/\e=.int .i64 q) (fun e=>s.size - (intOf e).toNat)
 case atStart=>exact ⟨n,by omega,hnE,rfl⟩
 case round=>
  obtain ⟨q,hq0,hq1,rfl⟩:=hrel;by_cases hlt:q < E
  · have hqs:q < s.size:=by omega
    have hb10:((s[q].toNat:Int) != 10)=true:=by
     rw [bne_iff_ne];intro h;have hx:(s.data.toList.drop n)[q - n]?=some s[q]:=by rw [List.getElem?_drop,show n + (q - n)=q from by omega];exact xU hqs
     have:=fU _ (q - n) s[q] (by have:=HE.out;omega) hx;exact this (UInt8.toNat_inj.1 (by rw [show (10:UInt8).toNat=10 from rfl];omega))
    go_wp2_with fail;exact ⟨⟨q + 1,by omega,by omega,by go_num⟩,by simp [intOf];omega⟩
  have hqE:q=E:=by omega
  subst hqE;by_cases hk:q < s.size
  case neg=>
   have HS:=qH (oY (l:=s.data.toList.drop n) (es:=es) (st:=st) (by rw [hdl.out];have:=HE.out;omega));go_wp2;go_returns;exact .inl ⟨HS.out,rfl,⟨A,c,hB,hown,hne⟩,Below.refl _ _⟩
  have hb10:((s[q].toNat:Int) != 10)=false:=by
   have hx:(s.data.toList.drop n)[q - n]?=some s[q]:=by rw [List.getElem?_drop,show n + (q - n)=q from by omega];exact xU hk
   have h2:=mR (s.data.toList.drop n) (by rw [hdl.out];have:=HE.out;omega);have h3:q - n=zZ (s.data.toList.drop n):=by have:=HE.out;omega
   rw [h3,h2] at hx;have h4:s[q]=10:=(Option.some.inj hx).symm;rw [h4];rfl
  have HKL:=qH (show zZ (s.data.toList.drop n) < (s.data.toList.drop n).length by rw [hdl.out];have:=HE.out;omega);have hnI:(n:Int)<=(q:Int):=by omega
  have hqI:(q:Int)<=(s.size:Int):=by omega
  go_wp2_with fail;clear hb10 k0 k1;obtain ⟨ln,hln⟩:∃ ln,s.extract n q=ln:=⟨_,rfl⟩
  have hlz:ln.size<=1048576:=by rw [<-hln];simp;omega
  have HLD:=qH (show ln.data.toList=(s.data.toList.drop n).take (zZ (s.data.toList.drop n)) by rw [<-hln,uc];congr 1;have:=HE.out;omega);have HSP:Hid (∀ w,Calls prog 40 #[.string ln,.int .u8 32] w (rf 9 1 (zl 32 ln).length ((zl 32 ln).map Value.string) w)):=qH (fun w=>nV 32 ln hlz w);have HLN:=qH hln;replace hB:=hB.below (Below.refl w.heap.size w).drew;replace hown:=ze hown (Below.refl w.heap.size w).drew;have hv:Below w.heap.size w w.drew:=(Below.refl w.heap.size w).drew;refine zH (fun w'=>Blk w' g 201 (RV s n st A m c)) ?_ (fun hHeld=>?_)
  ·exact hB
  refine zU 0 40 ?_;refine zU 1 41 ?_;refine zU 2 42 ?_;refine zT 3 43 rfl (fun w hSw=>by
   obtain ⟨k0,k1,k2,k3⟩:=qC4 hSw;go_simp;try with_reducible rfl) ?_
  refine zU 4 44 ?_;refine zU 5 45 ?_;refine zU 6 46 ?_;refine zT 7 47 rfl (fun w hSw=>by
   obtain ⟨k0,k1,k2,k3⟩:=qC4 hSw;go_simp;try with_reducible rfl) ?_
  refine zU 8 48 ?_;refine zU 9 49 ?_;refine zR 10 (some 50) rfl (fun K hK=>?_);go_simp;go_split_ands;refine (HSP.out _).mono ?_;rintro e W1 ⟨A4,c4,rfl,hown4,hb⟩;replace hv:=za hv hb;replace hB:=hB.below hb;replace hown:=ze hown hb;clear hb;go_wp2_with fail;refine zK hK hB (fun hHeld=>?_);clear hK K;refine zU 11 4 ?_;refine zD ?_;clear hHeld hln;by_cases h4:(zl 32 ln).length=4
  case neg=>
   have HS:=qH (tf (l:=s.data.toList.drop n) (es:=es) (st:=st) (by rw [<-HLD.out];exact fS h4));have h4':¬ ((zl 32 ln).length:Int)=4:=by omega
   generalize (zl 32 ln).length=L at h4 h4' hown4 |-;go_wp2;go_returns;exact .inl ⟨HS.out,rfl,⟨A,c,hB,hown,hne⟩,hv.mono (by omega)⟩
  obtain ⟨p0,p1,p2,p3,hq4⟩:=fE (s:=ln) h4;have hz0':=vH (s:=ln) (x:=p0) (by rw [hq4];simp);have hz1':=vH (s:=ln) (x:=p1) (by rw [hq4];simp);have hz2':=vH (s:=ln) (x:=p2) (by rw [hq4];simp);have hz3':=vH (s:=ln) (x:=p3) (by rw [hq4];simp);have HL:=qH (lJ hq4);have hq5:zl 32 ln=[p0,p1,p2,p3]:=hq4;rw [hq5] at hown4 |-;simp only [List.length_cons,List.length_nil,List.map_cons,List.map_nil] at hown4 |-;have HQ4:=qH hq5;clear hq4 hq5 h4;obtain ⟨g4,rfl⟩:=xu hown4 (by omega);obtain ⟨ba0,ba1⟩:=qk p0;obtain ⟨bc0,bc1⟩:=qk p2;have HA:=qH (fun w=>xm p0 (by omega) w);have HC:=qH (fun w=>xm p2 (by omega) w);obtain ⟨oa,hoa⟩:=zN (okN p0.data.toList);obtain ⟨oc,hoc⟩:=zN (okN p2.data.toList);obtain ⟨na,hna⟩:=zN (zq p0);obtain ⟨nc,hnc⟩:=zN (zq p2);rw [<-hoa,<-hna] at HA;rw [<-hoc,<-hnc] at HC;rw [<-hoa,<-hoc,<-hna,<-hnc] at HL;rw [<-hna] at ba0 ba1;rw [<-hnc] at bc0 bc1;have HOA:=qH hoa;have HOC:=qH hoc;have HNA:=qH hna;have HNC:=qH hnc;clear hoa hoc hna hnc;have s0:W1.cell? ⟨g4,0,none⟩=some (.string p0):=hown4.cellAt 0 (by omega);go_wp2_with fail;refine qS (HA.out _) fun W2 hb=>?_;replace hv:=za hv hb;replace hB:=hB.below hb;replace hown:=ze hown hb;replace hown4:=ze hown4 hb;clear hb s0;have s2:W2.cell? ⟨g4,2,none⟩=some (.string p2):=hown4.cellAt 2 (by omega);go_wp2_with fail;refine qS (HC.out _) fun W3 hb=>?_;replace hv:=za hv hb;replace hB:=hB.below hb;replace hown:=ze hown hb;replace hown4:=ze hown4 hb;clear hb s2;have s1:W3.cell? ⟨g4,1,none⟩=some (.string p1):=hown4.cellAt 1 (by omega);obtain ⟨W4,hW4⟩:=zN (W3.alloc (Obj.cells #[.int .i64 na,.string p1,.int .i64 nc] 141));obtain ⟨gX,hgX⟩:=zN W3.heap.size;have hX:Blk W4 gX 141 #[.int .i64 na,.string p1,.int .i64 nc]:=by rw [hW4,hgX];exact Blk.new _ _ _
  have hXw:w.heap.size<=gX:=by rw [hgX];exact hv.size
  have hb:Below W3.heap.size W3 W4:=by rw [hW4];exact zc (Below.refl _ _) _
  go_wp2_with fail;rw [<-hW4,<-hgX];clear hW4 hgX s1 hown4;replace hv:=(za hv hb).drew;replace hB:=(hB.below hb).below (Below.refl W4.heap.size W4).drew;replace hown:=ze (ze hown hb) (Below.refl W4.heap.size W4).drew;replace hX:=hX.below (Below.refl W4.heap.size W4).drew;clear hb;cases oa
  · have HS:=qH (tf (l:=s.data.toList.drop n) (es:=es) (st:=st) (by rw [<-HLD.out,HL.out];simp));refine zH (fun w'=>Blk w' g 201 (RV s n st A m c)/\Blk w' gX 141 #[Value.int .i64 na,Value.string p1,Value.int .i64 nc]) ?_ (fun hHeld=>?_)
    ·exact ⟨hB,hX⟩
    refine zU 0 74 ?_;refine zU 1 75 ?_;refine zU 2 76 ?_;refine zS 3 77 ?_;refine zS 4 78 ?_;refine zU 5 79 ?_;refine zU 6 80 ?_;refine zS 7 81 ?_;refine zS 8 82 ?_;refine zU 9 83 ?_;refine zU 10 84 ?_;refine zS 11 85 ?_;refine zS 12 86 ?_;refine zS 13 87 ?_;refine zS 14 88 ?_;refine zS 15 89 ?_;refine zU 16 90 ?_;refine zD ?_;clear hHeld;go_wp2;go_returns;exact .inl ⟨HS.out,rfl,⟨A,c,hB,hown,hne⟩,hv.mono (by omega)⟩
  cases oc
  · have HS:=qH (tf (l:=s.data.toList.drop n) (es:=es) (st:=st) (by rw [<-HLD.out,HL.out];simp));refine zH (fun w'=>Blk w' g 201 (RV s n st A m c)/\Blk w' gX 141 #[Value.int .i64 na,Value.string p1,Value.int .i64 nc]) ?_ (fun hHeld=>?_)
    ·exact ⟨hB,hX⟩
    refine zU 0 74 ?_;refine zU 1 75 ?_;refine zU 2 76 ?_;refine zU 3 77 ?_;refine zU 4 78 ?_;refine zU 5 79 ?_;refine zU 6 80 ?_;refine zS 7 81 ?_;refine zS 8 82 ?_;refine zU 9 83 ?_;refine zU 10 84 ?_;refine zS 11 85 ?_;refine zS 12 86 ?_;refine zS 13 87 ?_;refine zS 14 88 ?_;refine zS 15 89 ?_;refine zU 16 90 ?_;refine zD ?_;clear hHeld;go_wp2;go_returns;exact .inl ⟨HS.out,rfl,⟨A,c,hB,hown,hne⟩,hv.mono (by omega)⟩
  cases hent:xa ⟨na,p1,nc⟩
  · have HS:=qH (tf (l:=s.data.toList.drop n) (es:=es) (st:=st) (by rw [<-HLD.out,HL.out];simp [hent]));have hent2:xa ⟨na,p1,nc⟩=false:=hent;refine zH (fun w'=>Blk w' g 201 (RV s n st A m c)/\Blk w' gX 141 #[Value.int .i64 na,Value.string p1,Value.int .i64 nc]) ?_ (fun hHeld=>?_)
    ·exact ⟨hB,hX⟩
    refine zU 0 74 ?_;refine zU 1 75 ?_;refine zU 2 76 ?_;refine zU 3 77 ?_;refine zU 4 78 ?_;refine zU 5 79 ?_;refine zU 6 80 ?_;refine zR 7 (some 81) rfl (fun K hK=>?_);go_simp;go_split_ands;refine (mP ⟨gX,0,none⟩ ⟨na,p1,nc⟩ (show p1.size<=_ by omega) _ (hX.cell 0) (hX.cell 1) (hX.cell 2)).mono ?_;rintro e w' ⟨rfl,rfl⟩;rw [hent2];go_wp2_with fail;refine zK hK ⟨hB,hX⟩ (fun hHeld=>?_);clear hK K;refine zU 8 82 ?_;refine zU 9 83 ?_;refine zU 10 84 ?_;refine zS 11 85 ?_;refine zS 12 86 ?_;refine zS 13 87 ?_;refine zS 14 88 ?_;refine zS 15 89 ?_;refine zU 16 90 ?_;refine zD ?_;clear hHeld;go_wp2;go_returns;exact .inl ⟨HS.out,rfl,⟨A,c,hB,hown,hne⟩,hv.mono (by omega)⟩
  have hent2:xa ⟨na,p1,nc⟩=true:=hent;have HENT:=qH hent2;refine zH (fun w'=>Blk w' g 201 (RV s n st A m c)/\Blk w' gX 141 #[Value.int .i64 na,Value.string p1,Value.int .i64 nc]) ?_ (fun hHeld=>?_)
  ·exact ⟨hB,hX⟩
  refine zU 0 74 ?_;refine zU 1 75 ?_;refine zU 2 76 ?_;refine zU 3 77 ?_;refine zU 4 78 ?_;refine zU 5 79 ?_;refine zU 6 80 ?_;refine zR 7 (some 81) rfl (fun K hK=>?_);go_simp;go_split_ands;refine (mP ⟨gX,0,none⟩ ⟨na,p1,nc⟩ (show p1.size<=_ by omega) _ (hX.cell 0) (hX.cell 1) (hX.cell 2)).mono ?_;rintro e w' ⟨rfl,rfl⟩;try rw [hent2]
  go_wp2_with fail;refine zK hK ⟨hB,hX⟩ (fun hHeld=>?_);clear hK K;refine zU 8 82 ?_;refine zU 9 83 ?_;refine zU 10 84 ?_;refine zU 11 85 ?_;refine zT 12 86 rfl (fun w hSw=>by
   have k0:=yc0 hSw.1;have k1:=yc1 hSw.1;have k2:=yc2 hSw.1;have k3:=yc3 hSw.1;have x0:=yc0 hSw.2;have x1:=yc1 hSw.2;have x2:=yc2 hSw.2;go_simp;try with_reducible rfl) ?_
  refine zU 13 87 ?_;refine zR 14 (some 88) rfl (fun K hK=>?_);go_simp;go_split_ands;refine qS (zbV s g es st n m c A hm hmb _ hB (Arr.own hown)) fun W5 hb=>?_;replace hv:=za hv hb;replace hB:=hB.below hb;replace hown:=ze hown hb;replace hX:=hX.below hb;clear hb;try rw [hent2]
  go_wp2_with fail;refine zK hK ⟨hB,hX⟩ (fun hHeld=>?_);clear hK K;refine zU 15 89 ?_;refine zU 16 90 ?_;refine zD ?_;clear hHeld;clear hent hent2;by_cases hday:na < xx es
  ·have hdd:decide (na < xx es)=true:=decide_eq_true hday;have HS:=qH (mB (l:=s.data.toList.drop n) (es:=es) (st:=st) (by rw [<-HLD.out];exact HL.out) (fun h=>by have h2:xx es<=na:=h.2.1;omega));go_wp2;go_returns;exact .inl ⟨HS.out,rfl,⟨A,c,hB,hown,hne⟩,hv.mono (by omega)⟩
  have hdd:decide (na < xx es)=false:=decide_eq_false hday;have HDAY:=qH (show xx es<=na by omega);obtain ⟨t0,t1⟩:=rB st ⟨na,p1,nc⟩;have s0:=hG.s0;have s1:=hG.s1;have hwz:(yd ⟨na,p1,nc⟩).size<=9223372036854775807:=by have:=vA HENT.out;omega
  have hWD:Hid (∀ w c0 c1 c2,Calls prog 174 #[.pointer (some ⟨gX,0,none⟩)] w (Ret (.string (yd ⟨na,p1,nc⟩)) w)):=qH (fun w c0 c1 c2=>sR ⟨gX,0,none⟩ ⟨na,p1,nc⟩ HENT.out w c0 c1 c2);have hST:Hid (∀ w,Calls prog 232 #[.int .i64 st,.string (yd ⟨na,p1,nc⟩)] w (RetQ (.int .i64 (stp st ⟨na,p1,nc⟩)) w)):=qH (fun w=>nZ st _ s0 s1 hwz w);have hLN:=qH (fun w c0 c1 c2=>lE (stp st ⟨na,p1,nc⟩) ⟨gX,0,none⟩ ⟨na,p1,nc⟩ HENT.out t0 t1 w c0 c1 c2);have HSAME:=qH (ae (s:=s) (n:=n) HKL.out (by rw [<-HE.out,HLN.out];exact HQ4.out) (HOA.out.symm) (HOC.out.symm) t0 t1);obtain ⟨sv,hsv⟩:=zN (stp st ⟨na,p1,nc⟩);rw [<-HNA.out,<-HNC.out,<-HE.out,<-hsv] at HSAME;rw [<-hsv] at hLN hST t0 t1;obtain ⟨L1,hL1⟩:=zN (yI sv ⟨na,p1,nc⟩);rw [<-hL1] at HSAME hLN;obtain ⟨wd,hwd⟩:=zN (yd ⟨na,p1,nc⟩);rw [<-hwd] at hWD hST;have HSV:=qH hsv;clear hwd hL1 hsv hwz;go_wp2_with fail;replace hv:=hv.drew;replace hB:=hB.below (Below.refl W5.heap.size W5).drew;replace hown:=ze hown (Below.refl W5.heap.size W5).drew;replace hX:=hX.below (Below.refl W5.heap.size W5).drew;refine zH (fun w'=>Blk w' g 201 (RV s n st A m c)/\Blk w' gX 141 #[Value.int .i64 na,Value.string p1,Value.int .i64 nc]) ?_ (fun hHeld=>?_)
  ·exact ⟨hB,hX⟩
  refine zU 0 91 ?_;refine zU 1 92 ?_;refine zU 2 93 ?_;refine zT 3 94 rfl (fun w hSw=>by
   have k0:=yc0 hSw.1;have k1:=yc1 hSw.1;have k2:=yc2 hSw.1;have k3:=yc3 hSw.1;have x0:=yc0 hSw.2;have x1:=yc1 hSw.2;have x2:=yc2 hSw.2;go_simp;try with_reducible rfl) ?_
  refine zR 4 (some 95) rfl (fun K hK=>?_);go_simp;go_split_ands;refine qS (hWD.out _ (hX.cell 0) (hX.cell 1) (hX.cell 2)) fun W6 hb=>?_;replace hv:=za hv hb;replace hB:=hB.below hb;replace hown:=ze hown hb;replace hX:=hX.below hb;clear hb;go_wp2_with fail;refine zK hK ⟨hB,hX⟩ (fun hHeld=>?_);clear hK K;refine zR 5 (some 96) rfl (fun K hK=>?_);go_simp;go_split_ands;refine qR (hST.out _) ?_;go_wp2_with fail;refine zK hK ⟨hB,hX⟩ (fun hHeld=>?_);clear hK K;refine zU 6 10 ?_;refine zD ?_;clear hHeld;have hq1:(0:Int)<=(q:Int) + 1:=by omega
  have hq2:(q:Int) + 1<=(s.size:Int):=by omega
  have hq3:(n:Int)<=(q:Int) + 1:=by omega
  have hq4:((q:Int) + 1).toNat=q + 1:=by omega
  have hw1:IntKind.i64.wrap ((q:Int) + 1)=(q:Int) + 1:=IntWalk.i64_in _ (by omega);obtain ⟨L2,hL2⟩:∃ L2,s.extract n (q + 1)=L2:=⟨_,rfl⟩
  rw [hL2] at HSAME;obtain ⟨bq,hbq⟩:∃ bq,(L1.toList == L2.toList)=bq:=⟨_,rfl⟩
  have HBQ:=qH (hbq.symm.trans (yD L1 L2));go_wp2_with fail;replace hv:=hv.drew;replace hB:=hB.below (Below.refl W6.heap.size W6).drew;replace hown:=ze hown (Below.refl W6.heap.size W6).drew;replace hX:=hX.below (Below.refl W6.heap.size W6).drew;refine zH (fun w'=>Blk w' g 201 (RV s n st A m c)/\Blk w' gX 141 #[Value.int .i64 na,Value.string p1,Value.int .i64 nc]) ?_ (fun hHeld=>?_)
  ·exact ⟨hB,hX⟩
  refine zU 0 97 ?_;refine zU 2 99 ?_;refine zU 3 100 ?_;refine zU 4 101 ?_;refine zT 5 102 rfl (fun w hSw=>by
   have k0:=yc0 hSw.1;have k1:=yc1 hSw.1;have k2:=yc2 hSw.1;have k3:=yc3 hSw.1;have x0:=yc0 hSw.2;have x1:=yc1 hSw.2;have x2:=yc2 hSw.2;go_simp;try with_reducible rfl) ?_
  refine zU 6 103 ?_;refine zU 7 104 ?_;refine zU 8 105 ?_;refine zT 9 106 rfl (fun w hSw=>by
   have k0:=yc0 hSw.1;have k1:=yc1 hSw.1;have k2:=yc2 hSw.1;have k3:=yc3 hSw.1;have x0:=yc0 hSw.2;have x1:=yc1 hSw.2;have x2:=yc2 hSw.2;go_simp;try with_reducible rfl) ?_
  refine zU 10 107 ?_;refine zU 11 108 ?_;refine zU 12 109 ?_;refine zR 1 (some 98) rfl (fun K hK=>?_);go_simp;go_split_ands;refine qS (hLN.out _ (hX.cell 0) (hX.cell 1) (hX.cell 2)) fun W7 hb=>?_;replace hv:=za hv hb;replace hB:=hB.below hb;replace hown:=ze hown hb;replace hX:=hX.below hb;clear hb;go_wp2_with fail;refine zK hK ⟨hB,hX⟩ (fun hHeld=>?_);clear hK K;refine zU 13 110 ?_;refine zD ?_;clear hHeld;clear hw1 hL2 hbq;cases bq
  case false=>
   have h12:¬ L1=L2:=of_decide_eq_false HBQ.out.symm;have HS:=qH (mB (l:=s.data.toList.drop n) (es:=es) (st:=st) (by rw [<-HLD.out];exact HL.out) (fun h=>h12 (HSAME.out.2 (by
    have h1:=h.1;simp only [Bool.true_and,Bool.and_eq_true] at h1;exact ⟨h1.1,by rw [HSV.out];exact h.2.2.symm⟩))))
   clear h12;go_wp2;go_returns;exact .inl ⟨HS.out,rfl,⟨A,c,hB,hown,hne⟩,hv.mono (by omega)⟩
  have h12:L1=L2:=of_decide_eq_true HBQ.out.symm;have HS:=qH (ot (es:=es) (st:=st) HKL.out (show vU ((s.data.toList.drop n).take (zZ (s.data.toList.drop n)))=some (⟨na,p1,nc⟩,zq p3) by
   rw [<-HLD.out,HL.out,(HSAME.out.1 h12).1,HENT.out];rfl) ⟨HDAY.out,by rw [<-HSV.out];exact (HSAME.out.1 h12).2.symm⟩)
  clear h12;go_wp2_with fail;replace hv:=hv.drew;replace hB:=hB.below (Below.refl W7.heap.size W7).drew;replace hown:=ze hown (Below.refl W7.heap.size W7).drew;replace hX:=hX.below (Below.refl W7.heap.size W7).drew;have hbW:b<=W7.drew.heap.size:=by
   have h:=hv.size;have h2:b<=w.heap.size:=by omega
   exact Nat.le_trans h2 h
  refine zH (fun w'=>Blk w' gX 141 #[Value.int .i64 na,Value.string p1,Value.int .i64 nc]) ?_ (fun hHeld=>?_)
  ·exact hX
  refine zU 0 111 ?_;refine zU 1 112 ?_;refine zU 2 113 ?_;refine zU 3 114 ?_;refine zT 5 116 rfl (fun w hSw=>by
   obtain ⟨x0,x1,x2⟩:=qC3 hSw;go_simp;try with_reducible rfl) ?_
  refine wpAnyH_ready (rs:=[4,6]) (by kernel_rfl) (by simp) ?_;refine AllReadyH.cons (o:={ dst:=some 115,op:=_,type:=_,pos:=_,after:=_,guard:=_ }) rfl (fun K hK=>?_) (AllReadyH.cons (o:={ dst:=some 117,op:=_,type:=_,pos:=_,after:=_,guard:=_ }) rfl (fun K hK=>?_) AllReadyH.nil)
  · have k3:=yc3 hB;go_simp;refine zK hK hX (fun hHeld=>?_);clear hK K;refine zR 6 (some 117) rfl (fun K hK=>?_);have x0:=yc0 hX;go_simp;obtain ⟨W8,hW8⟩:=zN ((W7.alloc (Obj.cells #[.int .i64 na,.string p1,.int .i64 nc] 141)).drew);obtain ⟨gN,hgN⟩:=zN W7.heap.size;have hN:Blk W8 gN 141 #[.int .i64 na,.string p1,.int .i64 nc]:=by rw [hW8,hgN];exact Blk.new W7 _ _
    have hb:Below W7.drew.heap.size W7.drew W8:=by rw [hW8];exact zc (Below.refl W7.drew.heap.size W7.drew) _
    rw [<-hgN,<-hW8];clear hgN hW8;replace hv:=za hv hb;replace hB:=hB.below hb;replace hown:=ze hown hb;replace hX:=hX.below hb;replace hbW:=Nat.le_trans hbW hb.size;clear hb;refine zK hK hX (fun hHeld=>?_);clear hK K;refine zR 7 (some 118) rfl (fun K hK=>?_);have HOWN:=qH hown;refine step_append_lies W8 rfl _ _ _ rfl b 141 i0 _ 3 32 underlying144 hi0 hz0 hz1 hz2 rfl (by omega) (.slice A m c) m (zd Entry.cells es) (by rfl) hown ⟨gN,0,none⟩ 1 1 #[Value.int .i64 na,Value.string p1,Value.int .i64 nc].toList (by rfl) rfl (World.news_of_block hN) (by simp [Value.oneCell']) (by omega) (by unfold maxLen;omega) (by omega) hbW W8.heap.size rfl ?_;intro g9 cap W9 hown9 hg9 hat hlt9;have hB9:=hB.grown hg9 (fun e=>hne g e.symm rfl);have hX9:=hX.grown hg9 (fun e=>by have:=hownlt.out gX e.symm;omega);refine zK hK hX9 (fun hHeld=>?_);clear hK K;refine zU 8 119 ?_;refine zU 9 120 ?_;refine zR 10 none rfl (fun K hK=>?_);have q3:=hB9.frozen 3;have k3:=yc3 hB9;have hgX2:gX≠g:=by omega
    go_simp;have hB10:=hB9.set_ 3 (.slice (some ⟨g9,0,none⟩) (m + 1) cap);refine hK.out _ _ ?_ (fun hHeld=>?_)
    ·exact (hX9.far (p:=⟨g,3,none⟩) hgX2 _)
    clear hK K;(try simp only [Act.put]);refine zD ?_;clear hHeld q3 k3;have y1:=yc1 hB9;have y2:=yc2 hB9;have z1:=hB9.frozen 1;have z2:=hB9.frozen 2;have hg9g:g9≠g:=by
     rcases hat with h | h
     ·exact hne g9 h
     ·have h1:=hv.size;omega
    go_wp2;go_returns;have hcast:((n + (zZ (s.data.toList.drop n) + 1):Nat):Int)=(q:Int) + 1:=by have:=HE.out;omega
    have hfl:zd Entry.cells es ++ (#[Value.int .i64 na,Value.string p1,Value.int .i64 nc]).toList=zd Entry.cells (es ++ [⟨na,p1,nc⟩]):=by rw [zY,xS];rfl
    have hB11:=((hB9.set_ 3 (.slice (some ⟨g9,0,none⟩) (m + 1) cap)).set_ 2 (.int .i64 sv)).set_ 1 (.int .i64 ((q:Int) + 1));have hv11:=(((((hv.mono (by omega:b<=w.heap.size)).grown hg9 hbW (fun k e=>zn HOWN.out k e)).setCell (p:=⟨g,3,none⟩) hb0 (.slice (some ⟨g9,0,none⟩) (m + 1) cap)).setCell (p:=⟨g,2,none⟩) hb0 (.int .i64 sv)).setCell (p:=⟨g,1,none⟩) hb0 (.int .i64 ((q:Int) + 1)))
    have hnb:∀ k,(Value.slice (some ⟨g9,0,none⟩) (m + 1) cap).ownBlock=some k->k≠g:=by
     intro k e;have:g9=k:=by simpa [Value.ownBlock] using e
     rw [<-this];exact hg9g
    have ho11:=yy (yy (yy hown9 (p:=⟨g,3,none⟩) hnb (.slice (some ⟨g9,0,none⟩) (m + 1) cap)) (p:=⟨g,2,none⟩) hnb (.int .i64 sv)) (p:=⟨g,1,none⟩) hnb (.int .i64 ((q:Int) + 1));refine .inr ⟨⟨na,p1,nc⟩,zZ (s.data.toList.drop n) + 1,HS.out,rfl,⟨some ⟨g9,0,none⟩,cap,?_,by rw [<-hfl];exact ho11,hnb⟩,hv11⟩;unfold RV;rw [hcast,<-HSV.out];exact hB11
  · go_simp;obtain ⟨W8,hW8⟩:=zN ((W7.alloc (Obj.cells #[.int .i64 na,.string p1,.int .i64 nc] 141)).drew);obtain ⟨gN,hgN⟩:=zN W7.heap.size;have hN:Blk W8 gN 141 #[.int .i64 na,.string p1,.int .i64 nc]:=by rw [hW8,hgN];exact Blk.new W7 _ _
    have hb:Below W7.drew.heap.size W7.drew W8:=by rw [hW8];exact zc (Below.refl W7.drew.heap.size W7.drew) _
    rw [<-hgN,<-hW8];clear hgN hW8;replace hv:=za hv hb;replace hB:=hB.below hb;replace hown:=ze hown hb;replace hX:=hX.below hb;replace hbW:=Nat.le_trans hbW hb.size;clear hb;refine zK hK hX (fun hHeld=>?_);clear hK K;refine zR 4 (some 115) rfl (fun K hK=>?_);have k3:=yc3 hB;go_simp;refine zK hK hX (fun hHeld=>?_);clear hK K;refine zR 7 (some 118) rfl (fun K hK=>?_);have HOWN:=qH hown;refine step_append_lies W8 rfl _ _ _ rfl b 141 i0 _ 3 32 underlying144 hi0 hz0 hz1 hz2 rfl (by omega) (.slice A m c) m (zd Entry.cells es) (by rfl) hown ⟨gN,0,none⟩ 1 1 #[Value.int .i64 na,Value.string p1,Value.int .i64 nc].toList (by rfl) rfl (World.news_of_block hN) (by simp [Value.oneCell']) (by omega) (by unfold maxLen;omega) (by omega) hbW W8.heap.size rfl ?_;intro g9 cap W9 hown9 hg9 hat hlt9;have hB9:=hB.grown hg9 (fun e=>hne g e.symm rfl);have hX9:=hX.grown hg9 (fun e=>by have:=hownlt.out gX e.symm;omega);refine zK hK hX9 (fun hHeld=>?_);clear hK K;refine zU 8 119 ?_;refine zU 9 120 ?_;refine zR 10 none rfl (fun K hK=>?_);have q3:=hB9.frozen 3;have k3:=yc3 hB9;have hgX2:gX≠g:=by omega
    go_simp;have hB10:=hB9.set_ 3 (.slice (some ⟨g9,0,none⟩) (m + 1) cap);refine hK.out _ _ ?_ (fun hHeld=>?_)
    ·exact (hX9.far (p:=⟨g,3,none⟩) hgX2 _)
    clear hK K;(try simp only [Act.put]);refine zD ?_;clear hHeld q3 k3;have y1:=yc1 hB9;have y2:=yc2 hB9;have z1:=hB9.frozen 1;have z2:=hB9.frozen 2;have hg9g:g9≠g:=by
     rcases hat with h | h
     ·exact hne g9 h
     ·have h1:=hv.size;omega
    go_wp2;go_returns;have hcast:((n + (zZ (s.data.toList.drop n) + 1):Nat):Int)=(q:Int) + 1:=by have:=HE.out;omega
    have hfl:zd Entry.cells es ++ (#[Value.int .i64 na,Value.string p1,Value.int .i64 nc]).toList=zd Entry.cells (es ++ [⟨na,p1,nc⟩]):=by rw [zY,xS];rfl
    have hB11:=((hB9.set_ 3 (.slice (some ⟨g9,0,none⟩) (m + 1) cap)).set_ 2 (.int .i64 sv)).set_ 1 (.int .i64 ((q:Int) + 1));have hv11:=(((((hv.mono (by omega:b<=w.heap.size)).grown hg9 hbW (fun k e=>zn HOWN.out k e)).setCell (p:=⟨g,3,none⟩) hb0 (.slice (some ⟨g9,0,none⟩) (m + 1) cap)).setCell (p:=⟨g,2,none⟩) hb0 (.int .i64 sv)).setCell (p:=⟨g,1,none⟩) hb0 (.int .i64 ((q:Int) + 1)))
    have hnb:∀ k,(Value.slice (some ⟨g9,0,none⟩) (m + 1) cap).ownBlock=some k->k≠g:=by
     intro k e;have:g9=k:=by simpa [Value.ownBlock] using e
     rw [<-this];exact hg9g
    have ho11:=yy (yy (yy hown9 (p:=⟨g,3,none⟩) hnb (.slice (some ⟨g9,0,none⟩) (m + 1) cap)) (p:=⟨g,2,none⟩) hnb (.int .i64 sv)) (p:=⟨g,1,none⟩) hnb (.int .i64 ((q:Int) + 1));refine .inr ⟨⟨na,p1,nc⟩,zZ (s.data.toList.drop n) + 1,HS.out,rfl,⟨some ⟨g9,0,none⟩,cap,?_,by rw [<-hfl];exact ho11,hnb⟩,hv11⟩;unfold RV;rw [hcast,<-HSV.out];exact hB11
def cdL(s:ByteArray):Int:=if 4000 < s.size then 5 else if (rdL s).2.2≠s.size then 8 else 0
theorem nj{s:ByteArray}(h:4000 < s.size):cdL s=5:=by unfold cdL;rw [if_pos h]
theorem mM{s:ByteArray}(h:¬ 4000 < s.size)(h2:(rdL s).2.2≠s.size):cdL s=8:=by unfold cdL;rw [if_neg h,if_pos h2]
theorem kT{s:ByteArray}(h:¬ 4000 < s.size)(h2:(rdL s).2.2=s.size):cdL s=0:=by unfold cdL;rw [if_neg h,if_neg (by simpa using h2)]
def OutR(s:ByteArray)(w:World)(e:Ending)(w':World):Prop:=
 ∃ g,e=.returned (.pointer (some ⟨g,0,none⟩))/\w.heap.size<=g/\RS s g (rdL s).1 (rdL s).2.1 (rdL s).2.2 (rdL s).1.length w.heap.size w'/\Below w.heap.size w w'
theorem OutR.mk{s:ByteArray}{w w':World}{g:Nat}{es:List Entry}{st:Int}{n m:Nat}(hr:rdL s=(es,st,n))(hm:es.length=m)(hg:w.heap.size<=g)(hRS:RS s g es st n m w.heap.size w')(hb:Below w.heap.size w w') :
 OutR s w (.returned (.pointer (some ⟨g,0,none⟩))) w':=by
 subst hm;unfold OutR;rw [hr];exact ⟨g,rfl,hg,hRS,hb⟩
theorem bT(s:ByteArray)(hs:s.size<=1048576)(w:World):Calls prog 147 #[.string s] w (OutR s w):=by
 go_in;go_wp2_with fail;obtain ⟨W,hW⟩:=zN ((w.alloc (Obj.cells #[] 141)).alloc (Obj.cells #[.string s,.int .i64 0,.int .i64 0,.slice (some ⟨w.heap.size,0,none⟩) 0 0] 201));obtain ⟨g,hg⟩:=zN (w.heap.size + 1);have hv:Below w.heap.size w W:=by rw [hW];exact zc (zc (Below.refl _ _) _) _
 have hB:Blk W g 201 (RV s 0 0 (some ⟨w.heap.size,0,none⟩) 0 0):=by
  rw [hW,hg,show w.heap.size + 1=(w.alloc (Obj.cells #[] 141)).heap.size from by simp];exact Blk.new _ _ _
 have hown:W.ownsRow w.heap.size 141 3 (.slice (some ⟨w.heap.size,0,none⟩) 0 0) 0 (zd Entry.cells []):=by
  rw [hW];exact (zI w w.heap.size 141 3 (Nat.le_refl _)).alloc _
 have hRS:RS s g [] 0 0 0 w.heap.size W:=⟨_,_,hB,hown,fun k e=>(by
  have h1:w.heap.size=k:=by simpa [Value.ownBlock] using e
  omega)⟩
 have hgw:w.heap.size<=g:=by omega
 rw [<-hW,<-hg];clear hW hg hB hown;have hR0:=qH (show rdL s=rdF s.data.toList (s.size + 1) [] 0 0 from rfl)
 go_loopw [8] (fun _ wr=>∃ (es:List Entry) (st:Int) (n f m:Nat),Good s es st n/\s.size + 1<=n + f/\Hid (es.length=m)/\Hid (rdL s=rdF s.data.toList f es st n)/\RS s g es st n m w.heap.size wr/\Below w.heap.size w wr) (fun _ wr=>s.size - oB wr ⟨g,1,none⟩)
 case atStart=>exact ⟨[],0,0,s.size + 1,0,Good.nil s,by omega,qH rfl,hR0,hRS,hv⟩
 case round=>
  clear hR0 hRS hv;obtain ⟨es,st,n,f,m,hG,hf,hm,hRd,hRS,hv⟩:=hrel;have hn:=hG.le;have hmeas:Hid (oB wr ⟨g,1,none⟩=n):=by
   obtain ⟨A,c,hB,_,_⟩:=hRS;exact qH (rk (hB.cell 1))
  go_wp2_with fail;refine (zda s hs g es st n m w.heap.size hG hm hgw _ hRS).mono ?_;rintro e W2 (⟨hS,rfl,hRS2,hb⟩ | ⟨x,k,hS,rfl,hRS2,hb⟩)
  ·have HS:=qH hS;clear hS;go_wp2;go_returns;exact OutR.mk (hRd.out.trans (tY HS.out)) hm.out hgw hRS2 (hv.trans hb)
  · have HG:=ra hG hS;obtain ⟨f',rfl⟩:∃ f',f=f' + 1:=⟨f - 1,by omega⟩
    have hR2:=qH (hRd.out.trans (nD hS));have hm2:Hid (oB W2 ⟨g,1,none⟩=n + k):=by
     obtain ⟨A,c,hB,_,_⟩:=hRS2;exact qH (rk (hB.cell 1))
    have hle:=HG.1.le;have hk1:=HG.2;clear hS;go_wp2_with fail;refine ⟨⟨es ++ [x],stp st x,n + k,f',m + 1,HG.1,by omega,qH (by rw [List.length_append,hm.out];rfl),hR2,hRS2,hv.trans hb⟩,?_⟩;have h1:=hmeas.out;have h2:=hm2.out;rw [h1,h2];omega
def el(s:ByteArray)(w:World)(e:Ending)(w':World):Prop:=
 ∃ g,e=.returned (.tuple #[.pointer (some ⟨g,0,none⟩),.int .i64 (cdL s)])/\w.heap.size<=g/\(cdL s=0->RS s g (rdL s).1 (rdL s).2.1 (rdL s).2.2 (rdL s).1.length w.heap.size w')/\Below w.heap.size w w'
theorem rQ(s:ByteArray)(hs:s.size<=1048576)(w:World):Calls prog 90 #[.string s] w (el s w):=by
 by_cases h4:4000 < (s.size:Int)
 ·have HC:=qH (nj (s:=s) (by omega));go_in;go_wp2;go_returns;exact ⟨w.heap.size,by rw [HC.out];rfl,Nat.le_refl _,(fun h=>by rw [HC.out] at h;cases h),zc (Below.refl _ _) _⟩
 · have hd4:decide (4000 < (s.size:Int))=false:=decide_eq_false h4;have H4:=qH (show ¬ 4000 < s.size by omega);go_in;go_wp2_with fail;refine (bT s hs _).mono ?_;rintro e W ⟨g,rfl,hg,hRS,hb⟩;obtain ⟨es,hes⟩:=zN ((rdL s).1);obtain ⟨st,hst⟩:=zN ((rdL s).2.1);obtain ⟨n,hn⟩:=zN ((rdL s).2.2);have HRS:=qH hRS;rw [<-hes,<-hst,<-hn] at hRS;have HN:=qH hn;obtain ⟨A,c,hB,_,_⟩:=hRS;have k1:=yc1 hB;clear hes hst hn hB;by_cases hq:n=s.size
   ·have HC:=qH (kT (s:=s) H4.out (by rw [<-HN.out];exact hq));subst hq;go_wp2;go_returns;exact ⟨g,by rw [HC.out];rfl,hg,fun _=>HRS.out,hb⟩
   · have HC:=qH (mM (s:=s) H4.out (by rw [<-HN.out];exact hq));have hne:((n:Int) != (s.size:Int))=true:=by rw [bne_iff_ne];omega
     clear hq;go_wp2;go_returns;exact ⟨g,by rw [HC.out];rfl,hg,(fun h=>by rw [HC.out] at h;cases h),hb⟩
def zbO(s:ByteArray)(w:World)(e:Ending)(w':World):Prop:=
 ∃ (A:Option Addr) (c m:Nat) (es:List Entry) (st:Int) (n:Nat),e=.returned (.tuple #[.agg #[.slice A m c,.int .i64 st,.int .i64 n],.int .i64 (cdL s)])/\Good s es st n/\es.length=m/\w'.ownsRow w.heap.size 141 3 (.slice A m c) m (zd Entry.cells es)/\(cdL s=0->rdL s=(es,st,n))/\(cdL s≠0->A=none/\m=0/\c=0)/\Below w.heap.size w w'
theorem pS(s:ByteArray)(hs:s.size<=1048576)(w:World)(hT:Tabs w):Calls prog 119 #[.string s] w (zbO s w):=by
 have HT:=qH hT;clear hT;by_cases h4:4000 < (s.size:Int)
 ·have HC:=qH (nj (s:=s) (by omega));go_in;go_wp2_with fail;refine bodyPost_ret (zj (P:=prog) rfl _ _ w.heap.size 146 Z74 (0,0) _ rfl (Blk.new w 146 Z74) underlying146 rfl (by kernel_rfl)) rfl ?_;exact ⟨none,0,0,[],0,0,by rw [HC.out];rfl,Good.nil s,rfl,World.ownsRow_nil _ _ _ _,(fun h=>by rw [HC.out] at h;cases h),fun _=>⟨rfl,rfl,rfl⟩,zc (Below.refl _ _) _⟩
 have hd4:decide (4000 < (s.size:Int))=false:=decide_eq_false h4;have H4:=qH (show ¬ 4000 < s.size by omega);have hR:=Blk.new w 146 Z74;have hv:=zc (Below.refl w.heap.size w) (Obj.cells Z74 146);have hgR1:w.heap.size < (w.alloc (Obj.cells Z74 146)).heap.size:=by simp
 go_in;go_wp2_with fail;refine (lU s hs _ (HT.out.below hv)).mono ?_;rintro e W ⟨A,c,rfl,hown,hb⟩;obtain ⟨gR,hgR⟩:=zN w.heap.size;have hok:=yF (base':=w.heap.size) hown (Nat.le_of_lt hgR1);have hRlo:∀ k,(Value.slice A (rdL s).1.length c).ownBlock=some k->k≠gR:=fun k e=>by have h1:=zn hown k e;rw [hgR];exact Nat.ne_of_gt (Nat.lt_of_lt_of_le hgR1 h1)
 rw [<-hgR] at hR |-;replace hR:=hR.below hb;replace hv:=za hv hb;have hGd:=vO s;obtain ⟨es,hes⟩:=zN ((rdL s).1);obtain ⟨st,hst⟩:=zN ((rdL s).2.1);obtain ⟨n,hn⟩:=zN ((rdL s).2.2);have HN:=qH hn;have HRD:=qH (show rdL s=(es,st,n) by rw [hes,hst,hn]);rw [<-hes,<-hst,<-hn] at hGd;rw [<-hes] at hok hRlo;rw [<-hes,<-hst,<-hn];obtain ⟨m,hm⟩:=zN es.length;rw [<-hm] at hok hRlo |-;have HM:=qH hm.symm;have hle:=hGd.le;clear hes hst hn hm hown hb hgR1;have hg1:w.heap.size<=gR:=by omega
 have HGR:=qH hgR;clear hgR;obtain ⟨W2,hW2⟩:=zN (W.alloc (Obj.cells #[.slice A m c,.int .i64 st,.int .i64 n] 146));obtain ⟨gX,hgX⟩:=zN W.heap.size;have hX:Blk W2 gX 146 #[.slice A m c,.int .i64 st,.int .i64 n]:=by rw [hW2,hgX];exact Blk.new _ _ _
 have hb:Below W.heap.size W W2:=by rw [hW2];exact zc (Below.refl _ _) _
 have r0:∀ O,(W.alloc O).cell? ⟨gR,0,none⟩=some (.slice none 0 0):=fun O=>(hR.alloc O).cell 0;have r1:∀ O,(W.alloc O).cell? ⟨gR,1,none⟩=some (.int .i64 0):=fun O=>(hR.alloc O).cell 1;have r2:∀ O,(W.alloc O).cell? ⟨gR,2,none⟩=some (.int .i64 0):=fun O=>(hR.alloc O).cell 2;have f0:∀ O,(W.alloc O).frozen? ⟨gR,0,none⟩=false:=fun O=>(hR.alloc O).frozen 0;have f1:∀ O,(W.alloc O).frozen? ⟨gR,1,none⟩=false:=fun O=>(hR.alloc O).frozen 1;have f2:∀ O,(W.alloc O).frozen? ⟨gR,2,none⟩=false:=fun O=>(hR.alloc O).frozen 2;replace hR:=hR.below hb;replace hv:=za hv hb;replace hok:=ze hok hb;have HW2:=qH hW2;clear hX hb hgX hW2;have hf:=fun (u:Value) (i:Nat) (ww:World) (h:ww.ownsRow w.heap.size 141 3 (.slice A m c) m (zd Entry.cells es))=>yy h (p:=⟨gR,i,none⟩) hRlo u;by_cases hq:n=s.size
 · have HC:=qH (kT (s:=s) H4.out (by rw [HRD.out];exact hq));have hlt:¬ (n:Int) < (s.size:Int):=by omega
   clear hq;go_wp2_with fail;rw [<-HW2.out];refine bodyPost_ret (zj (P:=prog) rfl _ _ gR 146 #[.slice A m c,.int .i64 st,.int .i64 n] (0,0) _ rfl ?_ underlying146 rfl (by kernel_rfl)) rfl ?_
   ·exact ((hR.set_ 0 _).set_ 1 _).set_ 2 _
   ·exact ⟨A,c,m,es,st,n,by rw [HC.out];rfl,hGd,HM.out,hf _ 2 _ (hf _ 1 _ (hf _ 0 _ hok)),(fun _=>HRD.out),(fun h=>absurd HC.out h),zk (zk (zk hv (p:=⟨gR,0,none⟩) hg1 _) (p:=⟨gR,1,none⟩) hg1 _) (p:=⟨gR,2,none⟩) hg1 _⟩
 · have HC:=qH (mM (s:=s) H4.out (by rw [HRD.out];exact hq));have hlt:(n:Int) < (s.size:Int):=by omega
   clear hq;go_wp2_with fail;rw [<-HW2.out];refine bodyPost_ret (zj (P:=prog) rfl _ _ gR 146 Z74 (0,0) _ rfl ?_ underlying146 rfl (by kernel_rfl)) rfl ?_
   ·exact ((hR.set_ 0 _).set_ 1 _).set_ 2 _
   ·exact ⟨none,0,0,[],0,0,by rw [HC.out];rfl,Good.nil s,rfl,World.ownsRow_nil _ _ _ _,(fun h=>by rw [HC.out] at h;cases h),(fun _=>⟨rfl,rfl,rfl⟩),zk (zk (zk hv (p:=⟨gR,0,none⟩) hg1 _) (p:=⟨gR,1,none⟩) hg1 _) (p:=⟨gR,2,none⟩) hg1 _⟩
end Go.Proofs.YtpiehlfffjhoaaaGreatDoor
