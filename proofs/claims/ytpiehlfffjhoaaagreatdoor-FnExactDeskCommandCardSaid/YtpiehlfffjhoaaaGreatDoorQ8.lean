/- Lemmas for the law on the console: the parts LogU,SplS,LogS. -/
import Derived.Test.YtpiehlfffjhoaaaGreatDoorQ7
namespace Go.Proofs.YtpiehlfffjhoaaaGreatDoor
open Go.RowKit Go.Proofs.Tryz
set_option maxRecDepth 100000
set_option maxHeartbeats 8000000
theorem oU:(prog.info? 141).map (fun i=>(i.zero,i.size,i.bytes))=some (some (.agg #[.int .i64 0,.string ByteArray.empty,.int .i64 0]),3,32):=by kernel_rfl
def oB(w:World)(p:Addr):Nat:=match w.cell? p with
 | some v=>(intOf v).toNat
 | none=>0
theorem rk{w:World}{p:Addr}{n:Nat}(h:w.cell? p=some (.int .i64 n)):oB w p=n:=by unfold oB;rw [h];simp [intOf]
def OutRd(s:ByteArray)(w:World)(e:Ending)(w':World):Prop:=
 ∃ A c,e=.returned (.agg #[.slice A (rdL s).1.length c,.int .i64 (rdL s).2.1,.int .i64 (rdL s).2.2])/\w'.ownsRow w.heap.size 141 3 (.slice A (rdL s).1.length c) (rdL s).1.length (zd Entry.cells (rdL s).1)/\Below w.heap.size w w'
theorem OutRd.mk{s:ByteArray}{w w':World}{es:List Entry}{st:Int}{n m:Nat}{A:Option Addr}{c:Nat}(hr:rdL s=(es,st,n))(hm:es.length=m)(ho:w'.ownsRow w.heap.size 141 3 (.slice A m c) m (zd Entry.cells es))(hb:Below w.heap.size w w') :
 OutRd s w (.returned (.agg #[.slice A m c,.int .i64 st,.int .i64 n])) w':=by
 subst hm;unfold OutRd;rw [hr];exact ⟨A,c,rfl,ho,hb⟩
theorem zc6(l:List UInt8):Lib.cut l [10]=if zZ l < l.length then (l.take (zZ l),l.drop (zZ l + 1),true) else (l,[],false):=by
 have h:=dC l;unfold Lib.cut;by_cases hk:zZ l < l.length
 ·rw [if_pos hk] at h |-;rw [h,if_pos (by omega)];simp
 ·rw [if_neg hk] at h |-;rw [h,if_neg (by omega)]
theorem oY{l:List UInt8}{es:List Entry}{st:Int}(h:¬ zZ l < l.length):xP l es st=none:=by unfold xP;rw [if_neg h]
theorem tf{l:List UInt8}{es:List Entry}{st:Int}(h:vU (l.take (zZ l))=none):xP l es st=none:=by
 unfold xP;split
 ·rw [h]
 ·rfl
theorem rV{l:List UInt8}{es:List Entry}{st s':Int}{x:Entry}(h:vU (l.take (zZ l))=some (x,s'))(hn:¬ (xx es<=x.day/\stp st x=s')):xP l es st=none:=by
 unfold xP;split
 ·rw [h];simp only [];rw [if_neg hn]
 ·rfl
theorem ot{l:List UInt8}{es:List Entry}{st s':Int}{x:Entry}(hk:zZ l < l.length)(h:vU (l.take (zZ l))=some (x,s'))(hn:xx es<=x.day/\stp st x=s'):xP l es st=some (x,zZ l + 1):=by
 unfold xP;rw [if_pos hk,h];simp only [];rw [if_pos hn]
theorem cI(s:ByteArray)(n:Nat):(s.extract n s.size).data.toList=s.data.toList.drop n:=by
 rw [ByteArray.data_extract,Array.toList_extract];simp [List.take_of_length_le]
theorem zbb{l:List UInt8}{x:Entry}{s:Int}(h:vU l=some (x,s)):xa x=true:=by
 unfold vU at h;split at h
 · split at h
   ·rename_i hq;simp only [Option.some.injEq,Prod.mk.injEq] at h;simp only [Bool.and_eq_true] at hq;rw [<-h.1];exact hq.2
   ·cases h
 ·cases h
def Z74:Array Value:=#[Value.slice none 0 0,Value.int .i64 0,Value.int .i64 0]
theorem zb2(s:ByteArray)(hs:s.size<=4000000000)(w:World)(hT:Tabs w):Calls prog 133 #[.string s,.string ⟨#[10]⟩] w fun e w'=>∃ a b:ByteArray,∃ n,a.data.toList=(if zZ s.data.toList < s.size then s.data.toList.take (zZ s.data.toList) else s.data.toList)/\e=.returned (.tuple #[.string a,.string b,.bool (decide (zZ s.data.toList < s.size))])/\w'=w.drewN n:=by
 obtain ⟨m,hm⟩:=hT.len;refine (Tryz.strings_Cut s ⟨#[10]⟩ m w (by omega) hm).mono ?_;rintro e w' ⟨rfl,n,rfl⟩;rw [show (ByteArray.mk #[10]).data.toList=[10] from rfl,zc6,zu];by_cases hk:zZ s.data.toList < s.size
 ·simp only [if_pos hk,decide_eq_true hk];exact ⟨_,_,n,by simp,rfl,rfl⟩
 ·simp only [if_neg hk,decide_eq_false hk];exact ⟨_,_,n,by simp,rfl,rfl⟩
theorem yt{w:World}{base e size n:Nat}{v:Value}{cs:List Value}(h:w.ownsRow base e size v n cs){p:Addr}(hp:p.block < base)(u:Value):(w.setCell p u).ownsRow base e size v n cs:=
 yy h (fun g hg=>by have:=zn h g hg;omega) u
theorem lU(s:ByteArray)(hs:s.size<=1048576)(w:World)(hT:Tabs w):Calls prog 88 #[.string s] w (OutRd s w):=by
 have HT:=qH hT;clear hT;obtain ⟨i0,hi0,hz0,hz1,hz2⟩:=info_parts (P:=prog) (e:=141) (z:=.agg #[.int .i64 0,.string ByteArray.empty,.int .i64 0]) (size:=3) (bytes:=32) oU;go_in;go_wp2_with fail;obtain ⟨W,hW⟩:=zN ((w.alloc (Obj.cells #[.slice none 0 0,.int .i64 0,.int .i64 0] 146)).alloc (Obj.cells #[.slice none 0 0,.int .i64 0,.int .i64 0] 146));obtain ⟨gR,hgR⟩:=zN w.heap.size;obtain ⟨gO,hgO⟩:=zN (w.heap.size + 1);have hv:Below w.heap.size w W:=by rw [hW];exact zc (zc (Below.refl _ _) _) _
 have hR:Blk W gR 146 Z74:=by rw [hW,hgR];exact (Blk.new _ _ _).alloc _
 have hO:Blk W gO 146 Z74:=by
  rw [hW,hgO,show w.heap.size + 1=(w.alloc (Obj.cells #[.slice none 0 0,.int .i64 0,.int .i64 0] 146)).heap.size from by simp];exact Blk.new _ _ _
 have hne:gR≠gO:=by omega
 have hg1:w.heap.size<=gR:=by omega
 have hgO2:w.heap.size<=gO:=by omega
 rw [<-hW,<-hgO,<-hgR];have HGR:=qH hgR;have HGO:=qH hgO;clear hW hgR hgO;have hR0:=qH (show rdL s=rdF s.data.toList (s.size + 1) [] 0 0 from rfl)
 go_loopw [4] (fun _ wr=>∃ (es:List Entry) (st:Int) (n f m:Nat) (A:Option Addr) (c:Nat),Good s es st n/\s.size + 1<=n + f/\Hid (es.length=m)/\Hid (rdL s=rdF s.data.toList f es st n)/\Blk wr gR 146 Z74/\Blk wr gO 146 #[.slice A m c,.int .i64 st,.int .i64 n] /\
  wr.ownsRow (gO + 1) 141 3 (.slice A m c) m (zd Entry.cells es)/\Below w.heap.size w wr) (fun _ wr=>s.size - oB wr ⟨gO,2,none⟩)
 case atStart=>exact ⟨[],0,0,s.size + 1,0,none,0,Good.nil s,by omega,qH rfl,hR0,hR,hO,World.ownsRow_nil _ _ _ _,hv⟩
 case round=>
  clear hR0 hR hO hv;obtain ⟨es,st,n,f,m,A,c,hG,hf,hm,hRd,hR,hO,hown,hv⟩:=hrel;have hn:=hG.le;have k2:=yc2 hO;obtain ⟨t,ht⟩:∃ t,s.extract n s.size=t:=⟨_,rfl⟩
  have htd:t.data.toList=s.data.toList.drop n:=by rw [<-ht];exact cI s n
  have htz:t.size=s.size - n:=by rw [<-ht];simp
  go_wp2_with fail;refine (zb2 t (by omega) _ (HT.out.below hv)).mono ?_;rintro e W2 ⟨ln,rst,q,hln,rfl,hW2⟩;have hb:Below wr.heap.size wr W2:=by rw [hW2];exact below_drewN (Below.refl _ _) q
  replace hv:=za hv hb;replace hR:=hR.below hb;replace hO:=hO.below hb;replace hown:=ze hown hb;have hmeas:=qH (rk k2);clear hb hW2 k2 ht;rw [htd,htz] at hln |-;have hRlo:gR < gO + 1:=by have:=HGR.out;have:=HGO.out;omega
  have hdl:=qH (show (s.data.toList.drop n).length=s.size - n by rw [List.length_drop,zu]);by_cases hk:zZ (s.data.toList.drop n) < s.size - n
  case neg=>
   have HS:=qH (oY (l:=s.data.toList.drop n) (es:=es) (st:=st) (by rw [hdl.out];exact hk));rw [decide_eq_false hk];clear hk hln htd htz;have k0:=yc0 hO;have k1:=yc1 hO;have k2:=yc2 hO;have r0:W2.cell? ⟨gR,0,none⟩=some (.slice none 0 0):=hR.cell 0;have r1:W2.cell? ⟨gR,1,none⟩=some (.int .i64 0):=hR.cell 1;have r2:W2.cell? ⟨gR,2,none⟩=some (.int .i64 0):=hR.cell 2;have f0:W2.frozen? ⟨gR,0,none⟩=false:=hR.frozen 0;have f1:W2.frozen? ⟨gR,1,none⟩=false:=hR.frozen 1;have f2:W2.frozen? ⟨gR,2,none⟩=false:=hR.frozen 2;go_wp2_with fail;refine bodyPost_ret (results_cell_row (P:=prog) rfl _ _ gR 146 #[(.slice A m c),.int .i64 st,.int .i64 n] (0,0) _ rfl ?_ underlying146 rfl (by kernel_rfl)) rfl ?_
   ·exact ((hR.set_ 0 _).set_ 1 _).set_ 2 _
   ·have hbs:=zk (zk (zk hv (p:=⟨gR,0,none⟩) hg1 (.slice A m c)) (p:=⟨gR,1,none⟩) hg1 (.int .i64 st)) (p:=⟨gR,2,none⟩) hg1 (.int .i64 n);have hok:=yF (yt (yt (yt hown (p:=⟨gR,0,none⟩) hRlo (.slice A m c)) (p:=⟨gR,1,none⟩) hRlo (.int .i64 st)) (p:=⟨gR,2,none⟩) hRlo (.int .i64 n)) (base':=w.heap.size) (by omega);exact OutRd.mk (hRd.out.trans (tY (HS.out))) hm.out hok hbs
  have HK:=qH hk;rw [decide_eq_true hk];rw [if_pos hk] at hln;have hlz:ln.size=zZ (s.data.toList.drop n):=by
   rw [<-zu,hln,List.length_take,hdl.out];omega
  obtain ⟨k,hkk⟩:=zN (zZ (s.data.toList.drop n));rw [<-hkk] at hlz hk hln;have HKK:=qH hkk;have hlnz:ln.size<=1048576:=by omega
  clear hkk htd htz;go_wp2_with fail;refine (dN ln hlnz _ (HT.out.below hv)).mono ?_;rintro e W3 ⟨x,st',ok,rfl,hxz,⟨d0,d1⟩,⟨q0,q1⟩,hlin,hb⟩;replace hv:=za hv hb;replace hR:=hR.below hb;replace hO:=hO.below hb;replace hown:=ze hown hb;rw [hln] at hlin;have HLIN:=qH hlin;clear hb hlin hln;obtain ⟨W4,hW4⟩:=zN (W3.alloc (Obj.cells #[.int .i64 x.day,.string x.what,.int .i64 x.value] 141));obtain ⟨gX,hgX⟩:=zN W3.heap.size;have hX:Blk W4 gX 141 #[.int .i64 x.day,.string x.what,.int .i64 x.value]:=by rw [hW4,hgX];exact Blk.new _ _ _
  have hb:Below W3.heap.size W3 W4:=by rw [hW4];exact zc (Below.refl _ _) _
  have k0:∀ o,(W3.alloc o).cell? ⟨gO,0,none⟩=some (.slice A m c):=fun o=>(hO.alloc o).cell 0;have hgOX:gO < gX:=by rw [hgX];exact hO.lt
  go_wp2_with fail;rw [<-hW4,<-hgX];clear hW4 hgX k0;replace hv:=za hv hb;replace hR:=hR.below hb;replace hO:=hO.below hb;replace hown:=ze hown hb;clear hb;replace hv:Below w.heap.size w W4.drew:=hv.drew;replace hR:=hR.below (Below.refl W4.heap.size W4).drew;replace hO:=hO.below (Below.refl W4.heap.size W4).drew;replace hX:=hX.below (Below.refl W4.heap.size W4).drew;replace hown:=ze hown (Below.refl W4.heap.size W4).drew;cases ok
  · have HS:=qH (tf (l:=s.data.toList.drop n) (es:=es) (st:=st) (by rw [<-HKK.out];exact HLIN.out));refine zH (fun w'=>Blk w' gO 146 #[.slice A m c,.int .i64 st,.int .i64 n]/\Blk w' gX 141 #[Value.int .i64 x.day,Value.string x.what,Value.int .i64 x.value]) ?_ (fun hHeld=>?_)
    ·exact ⟨hO,hX⟩
    refine zU 0 33 ?_;refine zU 1 34 ?_;refine zU 2 35 ?_;refine zS 3 36 ?_;refine zS 4 37 ?_;refine zS 5 38 ?_;refine zS 6 39 ?_;refine zS 7 40 ?_;refine zS 8 41 ?_;refine zS 9 42 ?_;refine zS 10 43 ?_;refine zS 11 44 ?_;refine zS 12 45 ?_;refine zS 13 46 ?_;refine zS 14 47 ?_;refine zS 15 48 ?_;refine zS 16 49 ?_;refine zU 17 50 ?_;refine zU 18 51 ?_;refine zS 19 52 ?_;refine zS 20 53 ?_;refine zS 21 54 ?_;refine zS 22 55 ?_;refine zS 23 56 ?_;refine zS 24 57 ?_;refine zU 25 58 ?_;refine zD ?_;have k0:=yc0 hO;have k1:=yc1 hO;have k2:=yc2 hO;have r0:W4.cell? ⟨gR,0,none⟩=some (.slice none 0 0):=hR.cell 0;have r1:W4.cell? ⟨gR,1,none⟩=some (.int .i64 0):=hR.cell 1;have r2:W4.cell? ⟨gR,2,none⟩=some (.int .i64 0):=hR.cell 2;have f0:W4.frozen? ⟨gR,0,none⟩=false:=hR.frozen 0;have f1:W4.frozen? ⟨gR,1,none⟩=false:=hR.frozen 1;have f2:W4.frozen? ⟨gR,2,none⟩=false:=hR.frozen 2;go_wp2_with fail;refine bodyPost_ret (results_cell_row (P:=prog) rfl _ _ gR 146 #[(.slice A m c),.int .i64 st,.int .i64 n] (0,0) _ rfl ?_ underlying146 rfl (by kernel_rfl)) rfl ?_
    ·exact ((hR.set_ 0 _).set_ 1 _).set_ 2 _
    ·have hbs:=zk (zk (zk hv (p:=⟨gR,0,none⟩) hg1 (.slice A m c)) (p:=⟨gR,1,none⟩) hg1 (.int .i64 st)) (p:=⟨gR,2,none⟩) hg1 (.int .i64 n);have hok:=yF (yt (yt (yt hown (p:=⟨gR,0,none⟩) hRlo (.slice A m c)) (p:=⟨gR,1,none⟩) hRlo (.int .i64 st)) (p:=⟨gR,2,none⟩) hRlo (.int .i64 n)) (base':=w.heap.size) (by omega);exact OutRd.mk (hRd.out.trans (tY (HS.out))) hm.out hok hbs
  have HLIN2:=qH (show vU ((s.data.toList.drop n).take (zZ (s.data.toList.drop n)))=some (x,st') by rw [<-HKK.out];exact HLIN.out);have hex:=zbb HLIN2.out;have s0:=hG.s0;have s1:=hG.s1;by_cases hm0:m=0
  · have hd0:decide (0 < (m:Int))=false:=decide_eq_false (by omega);have HLA:=qH (show xx es<=x.day by rw [show es=[] from List.eq_nil_of_length_eq_zero (by rw [hm.out];exact hm0)];exact (uo hex).1);have hm1:¬ 0 < m:=by omega
    clear hm0;refine zH (fun w'=>Blk w' gO 146 #[.slice A m c,.int .i64 st,.int .i64 n]/\Blk w' gX 141 #[Value.int .i64 x.day,Value.string x.what,Value.int .i64 x.value]) ?_ (fun hHeld=>?_)
    ·exact ⟨hO,hX⟩
    refine zU 0 33 ?_;refine zU 1 34 ?_;refine zU 2 35 ?_;refine zU 3 36 ?_;refine zU 4 37 ?_;refine zU 5 38 ?_;refine zS 6 39 ?_;refine zS 7 40 ?_;refine zS 8 41 ?_;refine zS 9 42 ?_;refine zS 10 43 ?_;refine zS 11 44 ?_;refine zS 12 45 ?_;refine zS 13 46 ?_;refine zS 14 47 ?_;refine zS 15 48 ?_;refine zU 16 49 ?_;refine zU 17 50 ?_;refine zU 18 51 ?_;refine zU 19 52 ?_;refine zT 20 53 rfl (fun w hSw=>by
     have k0:=yc0 hSw.1;have k1:=yc1 hSw.1;have x0:=yc0 hSw.2;have x1:=yc1 hSw.2;have x2:=yc2 hSw.2;go_simp;try with_reducible rfl) ?_
    refine zT 21 54 rfl (fun w hSw=>by
     have k0:=yc0 hSw.1;have k1:=yc1 hSw.1;have x0:=yc0 hSw.2;have x1:=yc1 hSw.2;have x2:=yc2 hSw.2;go_simp;try with_reducible rfl) ?_
    refine zU 23 56 ?_;refine zR 22 (some 55) rfl (fun K hK=>?_);go_simp;go_split_ands;refine qS (rU st x s0 s1 hex _ (HT.out.below hv).pow) fun W5 hb=>?_;replace hv:=za hv hb;replace hR:=hR.below hb;replace hO:=hO.below hb;replace hX:=hX.below hb;replace hown:=ze hown hb;clear hb;go_wp2_with fail;refine zK hK ⟨hO,hX⟩ (fun hHeld=>?_);clear hK K;refine zU 24 57 ?_;refine zU 25 58 ?_;refine zD ?_;by_cases hst:stp st x=st'
    case neg=>
     have HS:=qH (rV (es:=es) HLIN2.out (fun h=>hst h.2));have hq:(tI st (yd x) != st')=true:=by rw [bne_iff_ne];exact hst
     clear hst;have k0:=yc0 hO;have k1:=yc1 hO;have k2:=yc2 hO;have r0:W5.cell? ⟨gR,0,none⟩=some (.slice none 0 0):=hR.cell 0;have r1:W5.cell? ⟨gR,1,none⟩=some (.int .i64 0):=hR.cell 1;have r2:W5.cell? ⟨gR,2,none⟩=some (.int .i64 0):=hR.cell 2;have f0:W5.frozen? ⟨gR,0,none⟩=false:=hR.frozen 0;have f1:W5.frozen? ⟨gR,1,none⟩=false:=hR.frozen 1;have f2:W5.frozen? ⟨gR,2,none⟩=false:=hR.frozen 2;go_wp2_with fail;refine bodyPost_ret (results_cell_row (P:=prog) rfl _ _ gR 146 #[(.slice A m c),.int .i64 st,.int .i64 n] (0,0) _ rfl ?_ underlying146 rfl (by kernel_rfl)) rfl ?_
     ·exact ((hR.set_ 0 _).set_ 1 _).set_ 2 _
     ·have hbs:=zk (zk (zk hv (p:=⟨gR,0,none⟩) hg1 (.slice A m c)) (p:=⟨gR,1,none⟩) hg1 (.int .i64 st)) (p:=⟨gR,2,none⟩) hg1 (.int .i64 n);have hok:=yF (yt (yt (yt hown (p:=⟨gR,0,none⟩) hRlo (.slice A m c)) (p:=⟨gR,1,none⟩) hRlo (.int .i64 st)) (p:=⟨gR,2,none⟩) hRlo (.int .i64 n)) (base':=w.heap.size) (by omega);exact OutRd.mk (hRd.out.trans (tY (HS.out))) hm.out hok hbs
    have HS:=qH (ot (es:=es) (st:=st) (by rw [hdl.out];exact HK.out) HLIN2.out ⟨HLA.out,hst⟩);have hq:(tI st (yd x) != st')=false:=by rw [bne_eq_false_iff_eq];exact hst
    have HG:=ra hG HS.out;have HST:=qH hst;obtain ⟨f',rfl⟩:∃ f',f=f' + 1:=⟨f - 1,by omega⟩
    have hR2:=qH (hRd.out.trans (nD HS.out));have HLZ:=qH hlz;clear hst hlz hRd;have hmf:m<=1048576:=by have:=hG.few;have:=hm.out;omega
    have k0:=yc0 hO;have x0:=yc0 hX;have x1:=yc1 hX;have x2:=yc2 hX;have hbase:gO + 1<=W5.heap.size:=hO.lt;go_wp2_with (at_builtin;refine qB W5 #[Value.int .i64 x.day,Value.string x.what,Value.int .i64 x.value] rfl _ _ 144 141 rfl i0 _ 3 32 underlying144 hi0 hz0 hz1 hz2 rfl (by omega) (gO + 1) (.slice A m c) m (zd Entry.cells es) rfl _ rfl rfl hown rfl (by simp [Value.oneCell']) (by unfold maxLen;omega) (by omega) hbase ?_;intro A2 c2 w2 hown2 hg2;have hO2:=Blk.grown hO hg2 (fun e=>by have h1:=zn hown gO e.symm;omega);have k0':=yc0 hO2;have k1':=yc1 hO2;have k2':=yc2 hO2;have f0':=hO2.frozen 0;have f1':=hO2.frozen 1;have f2':=hO2.frozen 2)
    have hnn:n + (ln.size + 1)=n + (zZ (s.data.toList.drop n) + 1):=by rw [HLZ.out,HKK.out]
    have hfl:zd Entry.cells es ++ #[Value.int .i64 x.day,Value.string x.what,Value.int .i64 x.value].toList=zd Entry.cells (es ++ [x]):=by rw [zY,xS];rfl
    have hcast:((n + (ln.size + 1):Nat):Int)=(n:Int) + ((ln.size:Int) + 1):=by omega
    have hOlo:gO < gO + 1:=by omega
    have hRg:=Blk.grown hR hg2 (fun e=>by have h1:=zn hown gR e.symm;omega);have hvg:=zi hv hg2 (fun k e=>by have h1:=zn hown k e;omega);have hO3:=((hO2.set_ 0 (.slice A2 (m + 1) c2)).set_ 1 (.int .i64 st')).set_ 2 (.int .i64 ((n:Int) + ((ln.size:Int) + 1)));have hR3:=((hRg.far (p:=⟨gO,0,none⟩) hne (.slice A2 (m + 1) c2)).far (p:=⟨gO,1,none⟩) hne (.int .i64 st')).far (p:=⟨gO,2,none⟩) hne (.int .i64 ((n:Int) + ((ln.size:Int) + 1)));have hv3:=zk (zk (zk hvg (p:=⟨gO,0,none⟩) hgO2 (.slice A2 (m + 1) c2)) (p:=⟨gO,1,none⟩) hgO2 (.int .i64 st')) (p:=⟨gO,2,none⟩) hgO2 (.int .i64 ((n:Int) + ((ln.size:Int) + 1)));have ho3:=yt (yt (yt hown2 (p:=⟨gO,0,none⟩) hOlo (.slice A2 (m + 1) c2)) (p:=⟨gO,1,none⟩) hOlo (.int .i64 st')) (p:=⟨gO,2,none⟩) hOlo (.int .i64 ((n:Int) + ((ln.size:Int) + 1)));have hm3:=rk (w:=(((w2.setCell ⟨gO,0,none⟩ (.slice A2 (m + 1) c2)).setCell ⟨gO,1,none⟩ (.int .i64 st')).setCell ⟨gO,2,none⟩ (.int .i64 ((n:Int) + ((ln.size:Int) + 1))))) (p:=⟨gO,2,none⟩) (n:=n + (ln.size + 1)) (by rw [hcast];exact hO3.cell 2);refine ⟨⟨es ++ [x],st',n + (ln.size + 1),f',m + 1,A2,c2,?_,by omega,qH (by rw [List.length_append,hm.out];rfl),qH (by rw [hR2.out,hnn,HST.out]),hR3,by rw [hcast];exact hO3,by rw [<-hfl];exact ho3,hv3⟩,?_⟩
    ·rw [hnn,<-HST.out];exact HG.1
    ·have h2:=hmeas.out;rw [hm3,h2];have:=HK.out;omega
  obtain ⟨j,rfl⟩:∃ j,m=j + 1:=⟨m - 1,by omega⟩
  obtain ⟨y,hy⟩:=zx (xs:=es) (k:=j) (by rw [hm.out];omega);obtain ⟨ad,rfl,hab,hY,_,_⟩:=Entry.at_ (Arr.own hown) hy;have HLD:=qH (nz hm.out hy);have hjm:j + 1<=1048576:=by have:=hG.few;have:=hm.out;omega
  have hd0:decide (0 < ((j + 1:Nat):Int))=true:=decide_eq_true (by omega);have hm1:0 < j + 1:=by omega
  have hj0:(0:Int)<=(j:Int):=by omega
  have hj1:(j:Int) < ((j + 1:Nat):Int):=by omega
  have hj2:((j:Int)).toNat=j:=by omega
  have hj3:(j:Int) < (j:Int) + 1:=by omega
  have HW2:=qH (show IntKind.i64.wrap (j:Int)=(j:Int) from IntWalk.i64_in _ (by omega));have HW1:=qH (show IntKind.i64.wrap (((j + 1:Nat):Int) - 1)=(j:Int) from IntWalk.i64_in _ (by omega) |>.trans (by omega));clear hm0 hy;by_cases hyd:x.day < y.day
  · have hdd:decide (x.day < y.day)=true:=decide_eq_true hyd;have HS:=qH (rV (es:=es) (st:=st) HLIN2.out (fun h=>by have:=h.1;rw [HLD.out] at this;omega));have hw1:=HW1.out;have hw2:=HW2.out;refine zH (fun w'=>Blk w' gO 146 #[.slice (some ad) (j + 1) c,.int .i64 st,.int .i64 n]/\Blk w' gX 141 #[Value.int .i64 x.day,Value.string x.what,Value.int .i64 x.value]/\w'.cell? (ad.add (j * 3))=some (.int .i64 y.day)) ?_ (fun hHeld=>?_)
    ·exact ⟨hO,hX,hY⟩
    refine zU 0 33 ?_;refine zU 1 34 ?_;refine zU 2 35 ?_;refine zU 3 36 ?_;refine zU 4 37 ?_;refine zU 5 38 ?_;refine zU 6 39 ?_;refine zT 7 40 rfl (fun w hSw=>by
     have k0:=yc0 hSw.1;have k1:=yc1 hSw.1;have x0:=yc0 hSw.2.1;have x1:=yc1 hSw.2.1;have x2:=yc2 hSw.2.1;have y0:=hSw.2.2;go_simp;try with_reducible rfl) ?_
    refine zU 8 41 ?_;refine zU 9 42 ?_;refine zU 10 43 ?_;refine zU 11 44 ?_;refine zT 12 45 rfl (fun w hSw=>by
     have k0:=yc0 hSw.1;have k1:=yc1 hSw.1;have x0:=yc0 hSw.2.1;have x1:=yc1 hSw.2.1;have x2:=yc2 hSw.2.1;have y0:=hSw.2.2;go_simp;try with_reducible rfl) ?_
    refine zU 13 46 ?_;refine zT 14 47 rfl (fun w hSw=>by
     have k0:=yc0 hSw.1;have k1:=yc1 hSw.1;have x0:=yc0 hSw.2.1;have x1:=yc1 hSw.2.1;have x2:=yc2 hSw.2.1;have y0:=hSw.2.2;go_simp;try with_reducible rfl) ?_
    refine zU 15 48 ?_;refine zU 16 49 ?_;refine zU 17 50 ?_;refine zU 18 51 ?_;refine zS 19 52 ?_;refine zS 20 53 ?_;refine zS 21 54 ?_;refine zS 22 55 ?_;refine zS 23 56 ?_;refine zS 24 57 ?_;refine zU 25 58 ?_;refine zD ?_;clear hw1 hw2;have k0:=yc0 hO;have k1:=yc1 hO;have k2:=yc2 hO;have r0:W4.cell? ⟨gR,0,none⟩=some (.slice none 0 0):=hR.cell 0;have r1:W4.cell? ⟨gR,1,none⟩=some (.int .i64 0):=hR.cell 1;have r2:W4.cell? ⟨gR,2,none⟩=some (.int .i64 0):=hR.cell 2;have f0:W4.frozen? ⟨gR,0,none⟩=false:=hR.frozen 0;have f1:W4.frozen? ⟨gR,1,none⟩=false:=hR.frozen 1;have f2:W4.frozen? ⟨gR,2,none⟩=false:=hR.frozen 2;go_wp2_with fail;refine bodyPost_ret (results_cell_row (P:=prog) rfl _ _ gR 146 #[(.slice (some ad) (j + 1) c),.int .i64 st,.int .i64 n] (0,0) _ rfl ?_ underlying146 rfl (by kernel_rfl)) rfl ?_
    ·exact ((hR.set_ 0 _).set_ 1 _).set_ 2 _
    ·have hbs:=zk (zk (zk hv (p:=⟨gR,0,none⟩) hg1 (.slice (some ad) (j + 1) c)) (p:=⟨gR,1,none⟩) hg1 (.int .i64 st)) (p:=⟨gR,2,none⟩) hg1 (.int .i64 n);have hok:=yF (yt (yt (yt hown (p:=⟨gR,0,none⟩) hRlo (.slice (some ad) (j + 1) c)) (p:=⟨gR,1,none⟩) hRlo (.int .i64 st)) (p:=⟨gR,2,none⟩) hRlo (.int .i64 n)) (base':=w.heap.size) (by omega);exact OutRd.mk (hRd.out.trans (tY (HS.out))) hm.out hok hbs
  have hdd:decide (x.day < y.day)=false:=decide_eq_false hyd;have HLA:=qH (show xx es<=x.day by rw [HLD.out];omega);have hw1:=HW1.out;have hw2:=HW2.out;refine zH (fun w'=>Blk w' gO 146 #[.slice (some ad) (j + 1) c,.int .i64 st,.int .i64 n]/\Blk w' gX 141 #[Value.int .i64 x.day,Value.string x.what,Value.int .i64 x.value]/\w'.cell? (ad.add (j * 3))=some (.int .i64 y.day)) ?_ (fun hHeld=>?_)
  ·exact ⟨hO,hX,hY⟩
  refine zU 0 33 ?_;refine zU 1 34 ?_;refine zU 2 35 ?_;refine zU 3 36 ?_;refine zU 4 37 ?_;refine zU 5 38 ?_;refine zU 6 39 ?_;refine zT 7 40 rfl (fun w hSw=>by
   have k0:=yc0 hSw.1;have k1:=yc1 hSw.1;have x0:=yc0 hSw.2.1;have x1:=yc1 hSw.2.1;have x2:=yc2 hSw.2.1;have y0:=hSw.2.2;go_simp;try with_reducible rfl) ?_
  refine zU 8 41 ?_;refine zU 9 42 ?_;refine zU 10 43 ?_;refine zU 11 44 ?_;refine zT 12 45 rfl (fun w hSw=>by
   have k0:=yc0 hSw.1;have k1:=yc1 hSw.1;have x0:=yc0 hSw.2.1;have x1:=yc1 hSw.2.1;have x2:=yc2 hSw.2.1;have y0:=hSw.2.2;go_simp;try with_reducible rfl) ?_
  refine zU 13 46 ?_;refine zT 14 47 rfl (fun w hSw=>by
   have k0:=yc0 hSw.1;have k1:=yc1 hSw.1;have x0:=yc0 hSw.2.1;have x1:=yc1 hSw.2.1;have x2:=yc2 hSw.2.1;have y0:=hSw.2.2;go_simp;try with_reducible rfl) ?_
  refine zU 15 48 ?_;refine zU 16 49 ?_;refine zU 17 50 ?_;refine zU 18 51 ?_;refine zU 19 52 ?_;refine zT 20 53 rfl (fun w hSw=>by
   have k0:=yc0 hSw.1;have k1:=yc1 hSw.1;have x0:=yc0 hSw.2.1;have x1:=yc1 hSw.2.1;have x2:=yc2 hSw.2.1;have y0:=hSw.2.2;go_simp;try with_reducible rfl) ?_
  refine zT 21 54 rfl (fun w hSw=>by
   have k0:=yc0 hSw.1;have k1:=yc1 hSw.1;have x0:=yc0 hSw.2.1;have x1:=yc1 hSw.2.1;have x2:=yc2 hSw.2.1;have y0:=hSw.2.2;go_simp;try with_reducible rfl) ?_
  refine zU 23 56 ?_;refine zR 22 (some 55) rfl (fun K hK=>?_);go_simp;go_split_ands;refine qS (rU st x s0 s1 hex _ (HT.out.below hv).pow) fun W5 hb=>?_;replace hv:=za hv hb;replace hR:=hR.below hb;replace hO:=hO.below hb;replace hX:=hX.below hb;replace hown:=ze hown hb;replace hY:=zb hb hY;clear hb;go_wp2_with fail;refine zK hK ⟨hO,hX,hY⟩ (fun hHeld=>?_);clear hK K;refine zU 24 57 ?_;refine zU 25 58 ?_;refine zD ?_;clear hw1 hw2;by_cases hst:stp st x=st'
  case neg=>
   have HS:=qH (rV (es:=es) HLIN2.out (fun h=>hst h.2));have hq:(tI st (yd x) != st')=true:=by rw [bne_iff_ne];exact hst
   clear hst;have k0:=yc0 hO;have k1:=yc1 hO;have k2:=yc2 hO;have r0:W5.cell? ⟨gR,0,none⟩=some (.slice none 0 0):=hR.cell 0;have r1:W5.cell? ⟨gR,1,none⟩=some (.int .i64 0):=hR.cell 1;have r2:W5.cell? ⟨gR,2,none⟩=some (.int .i64 0):=hR.cell 2;have f0:W5.frozen? ⟨gR,0,none⟩=false:=hR.frozen 0;have f1:W5.frozen? ⟨gR,1,none⟩=false:=hR.frozen 1;have f2:W5.frozen? ⟨gR,2,none⟩=false:=hR.frozen 2;go_wp2_with fail;refine bodyPost_ret (results_cell_row (P:=prog) rfl _ _ gR 146 #[(.slice (some ad) (j + 1) c),.int .i64 st,.int .i64 n] (0,0) _ rfl ?_ underlying146 rfl (by kernel_rfl)) rfl ?_
   ·exact ((hR.set_ 0 _).set_ 1 _).set_ 2 _
   ·have hbs:=zk (zk (zk hv (p:=⟨gR,0,none⟩) hg1 (.slice (some ad) (j + 1) c)) (p:=⟨gR,1,none⟩) hg1 (.int .i64 st)) (p:=⟨gR,2,none⟩) hg1 (.int .i64 n);have hok:=yF (yt (yt (yt hown (p:=⟨gR,0,none⟩) hRlo (.slice (some ad) (j + 1) c)) (p:=⟨gR,1,none⟩) hRlo (.int .i64 st)) (p:=⟨gR,2,none⟩) hRlo (.int .i64 n)) (base':=w.heap.size) (by omega);exact OutRd.mk (hRd.out.trans (tY (HS.out))) hm.out hok hbs
  have HS:=qH (ot (es:=es) (st:=st) (by rw [hdl.out];exact HK.out) HLIN2.out ⟨HLA.out,hst⟩);have hq:(tI st (yd x) != st')=false:=by rw [bne_eq_false_iff_eq];exact hst
  have HG:=ra hG HS.out;have HST:=qH hst;obtain ⟨f',rfl⟩:∃ f',f=f' + 1:=⟨f - 1,by omega⟩
  have hR2:=qH (hRd.out.trans (nD HS.out));have HLZ:=qH hlz;clear hst hlz hRd;have hmf:(j + 1)<=1048576:=by have:=hG.few;have:=hm.out;omega
  have k0:=yc0 hO;have x0:=yc0 hX;have x1:=yc1 hX;have x2:=yc2 hX;have hbase:gO + 1<=W5.heap.size:=hO.lt;go_wp2_with (at_builtin;refine qB W5 #[Value.int .i64 x.day,Value.string x.what,Value.int .i64 x.value] rfl _ _ 144 141 rfl i0 _ 3 32 underlying144 hi0 hz0 hz1 hz2 rfl (by omega) (gO + 1) (.slice (some ad) (j + 1) c) (j + 1) (zd Entry.cells es) rfl _ rfl rfl hown rfl (by simp [Value.oneCell']) (by unfold maxLen;omega) (by omega) hbase ?_;intro A2 c2 w2 hown2 hg2;have hO2:=Blk.grown hO hg2 (fun e=>by have h1:=zn hown gO e.symm;omega);have k0':=yc0 hO2;have k1':=yc1 hO2;have k2':=yc2 hO2;have f0':=hO2.frozen 0;have f1':=hO2.frozen 1;have f2':=hO2.frozen 2)
  have hnn:n + (ln.size + 1)=n + (zZ (s.data.toList.drop n) + 1):=by rw [HLZ.out,HKK.out]
  have hfl:zd Entry.cells es ++ #[Value.int .i64 x.day,Value.string x.what,Value.int .i64 x.value].toList=zd Entry.cells (es ++ [x]):=by rw [zY,xS];rfl
  have hcast:((n + (ln.size + 1):Nat):Int)=(n:Int) + ((ln.size:Int) + 1):=by omega
  have hOlo:gO < gO + 1:=by omega
  have hRg:=Blk.grown hR hg2 (fun e=>by have h1:=zn hown gR e.symm;omega);have hvg:=zi hv hg2 (fun k e=>by have h1:=zn hown k e;omega);have hO3:=((hO2.set_ 0 (.slice A2 ((j + 1) + 1) c2)).set_ 1 (.int .i64 st')).set_ 2 (.int .i64 ((n:Int) + ((ln.size:Int) + 1)));have hR3:=((hRg.far (p:=⟨gO,0,none⟩) hne (.slice A2 ((j + 1) + 1) c2)).far (p:=⟨gO,1,none⟩) hne (.int .i64 st')).far (p:=⟨gO,2,none⟩) hne (.int .i64 ((n:Int) + ((ln.size:Int) + 1)));have hv3:=zk (zk (zk hvg (p:=⟨gO,0,none⟩) hgO2 (.slice A2 ((j + 1) + 1) c2)) (p:=⟨gO,1,none⟩) hgO2 (.int .i64 st')) (p:=⟨gO,2,none⟩) hgO2 (.int .i64 ((n:Int) + ((ln.size:Int) + 1)));have ho3:=yt (yt (yt hown2 (p:=⟨gO,0,none⟩) hOlo (.slice A2 ((j + 1) + 1) c2)) (p:=⟨gO,1,none⟩) hOlo (.int .i64 st')) (p:=⟨gO,2,none⟩) hOlo (.int .i64 ((n:Int) + ((ln.size:Int) + 1)));have hm3:=rk (w:=(((w2.setCell ⟨gO,0,none⟩ (.slice A2 ((j + 1) + 1) c2)).setCell ⟨gO,1,none⟩ (.int .i64 st')).setCell ⟨gO,2,none⟩ (.int .i64 ((n:Int) + ((ln.size:Int) + 1))))) (p:=⟨gO,2,none⟩) (n:=n + (ln.size + 1)) (by rw [hcast];exact hO3.cell 2);refine ⟨⟨es ++ [x],st',n + (ln.size + 1),f',(j + 1) + 1,A2,c2,?_,by omega,qH (by rw [List.length_append,hm.out];rfl),qH (by rw [hR2.out,hnn,HST.out]),hR3,by rw [hcast];exact hO3,by rw [<-hfl];exact ho3,hv3⟩,?_⟩
  ·rw [hnn,<-HST.out];exact HG.1
  ·have h2:=hmeas.out;rw [hm3,h2];have:=HK.out;omega
def zl(c:UInt8)(s:ByteArray):List ByteArray:=(spl c s.data.toList).map (fun l=>⟨l.toArray⟩)
theorem jr{L:List (List UInt8)}(h:L≠[]):wL [] L=L:=by
 cases L with
 | nil=>exact absurd rfl h
 | cons a t=>rfl
theorem uc(s:ByteArray)(q k:Nat):(s.extract q k).data.toList=(s.data.toList.drop q).take (k - q):=by
 rw [ByteArray.data_extract,Array.toList_extract];try simp
theorem aR{s:ByteArray}{q k:Nat}(hq:q<=k)(hk:k < s.size):(s.data.toList.drop q).take (k + 1 - q)=(s.data.toList.drop q).take (k - q) ++ [s[k]]:=by
 have h:=xU hk;rw [show k + 1 - q=(k - q) + 1 from by omega,List.take_add_one,List.getElem?_drop,show q + (k - q)=k from by omega,h];rfl
theorem zcO{c:UInt8}{s:ByteArray}{q k:Nat}{P:List (List UInt8)}(hk:k < s.size)(hc:s[k]=c)(h:spl c s.data.toList=P ++ wL ((s.data.toList.drop q).take (k - q)) (spl c (s.data.toList.drop k))) :
 spl c s.data.toList=(P ++ [(s.data.toList.drop q).take (k - q)]) ++ wL ((s.data.toList.drop (k + 1)).take (k + 1 - (k + 1))) (spl c (s.data.toList.drop (k + 1))):=by
 rw [h,yM (xU hk)];simp only [spl];rw [if_pos hc,Nat.sub_self,List.take_zero,jr (uk _ _)];simp [wL]
theorem zbz{c:UInt8}{s:ByteArray}{q k:Nat}{P:List (List UInt8)}(hq:q<=k)(hk:k < s.size)(hc:¬ s[k]=c)(h:spl c s.data.toList=P ++ wL ((s.data.toList.drop q).take (k - q)) (spl c (s.data.toList.drop k))) :
 spl c s.data.toList=P ++ wL ((s.data.toList.drop q).take (k + 1 - q)) (spl c (s.data.toList.drop (k + 1))):=by
 rw [h,yM (xU hk)];simp only [spl];rw [if_neg hc,bz _ _ _ (uk _ _),aR hq hk]
theorem zby{c:UInt8}{s:ByteArray}{q k:Nat}{P:List (List UInt8)}(hk:s.size<=k)(h:spl c s.data.toList=P ++ wL ((s.data.toList.drop q).take (k - q)) (spl c (s.data.toList.drop k))) :
 spl c s.data.toList=P ++ [(s.data.toList.drop q).take (s.size - q)]:=by
 rw [h,show s.data.toList.drop k=[] from List.drop_eq_nil_of_le (by rw [zu];exact hk)];have h1:∀ j,s.size - q<=j->(s.data.toList.drop q).take j=s.data.toList.drop q:=fun j hj=>List.take_of_length_le (by rw [List.length_drop,zu];exact hj);rw [h1 (k - q) (by omega),h1 (s.size - q) (Nat.le_refl _)];simp [spl,wL]
theorem zcp:(prog.info? 9).map (fun i=>(i.zero,i.size,i.bytes))=some (some (.string ByteArray.empty),1,16):=by kernel_rfl
theorem vx(c:UInt8)(s:ByteArray)(hs:s.size<=4194304)(w:World):Calls prog 40 #[.string s,.int .u8 c.toNat] w (rf 9 1 (zl c s).length ((zl c s).map Value.string) w):=by
 obtain ⟨i0,hi0,hz0,hz1,hz2⟩:=info_parts (P:=prog) (e:=9) (z:=.string ByteArray.empty) (size:=1) (bytes:=16) zcp;have hR:=qH (show spl c s.data.toList=([]:List ByteArray).map (·.data.toList) ++ wL ((s.data.toList.drop 0).take (0 - 0)) (spl c (s.data.toList.drop 0)) by
  rw [Nat.sub_self,List.take_zero,List.drop_zero,jr (uk _ _)];rfl)
 have hfin:∀ P:List ByteArray,spl c s.data.toList=P.map (·.data.toList)->zl c s=P:=by
  intro P h;unfold zl;rw [h,List.map_map]
  conv=>rhs;rw [<-List.map_id P]
  exact List.map_congr_left fun x _=>by cases x;simp
 replace hfin:=qH hfin;go_in;go_wp2_with fail;have hown:=zI w w.heap.size 9 1 (Nat.le_refl _);have hv:=zc (Below.refl w.heap.size w) (Obj.cells #[] 9)
 go_loopw [5,6,7] (fun o fr i wr=>∃ (P:List ByteArray) (q k m:Nat) (A:Option Addr) (c':Nat),q<=k/\k<=s.size/\i=.int .i64 k/\fr=.int .i64 q/\o=.slice A m c'/\m<=k/\Hid (P.length=m) /\
  Hid (spl c s.data.toList=P.map (·.data.toList) ++ wL ((s.data.toList.drop q).take (k - q)) (spl c (s.data.toList.drop k)))/\wr.ownsRow w.heap.size 9 1 (.slice A m c') m (P.map Value.string)/\Below w.heap.size w wr) (fun _ _ i _=>s.size - (intOf i).toNat)
 case atStart=>exact ⟨[],0,0,0,_,_,by omega,by omega,rfl,rfl,rfl,by omega,qH rfl,hR,hown,hv⟩
 case round=>
  clear hR hown hv;obtain ⟨P,q,k,m,A,c',hq,hk,rfl,rfl,rfl,hmk,hm,hR,hown,hv⟩:=hrel;by_cases hlt:k < s.size
  · by_cases hc:s[k]=c
    · have hR2:=qH (zcO hlt hc hR.out);have hcb:((s[k].toNat:Int) == (c.toNat:Int))=true:=by rw [hc];simp
      have hqi:(q:Int)<=(k:Int):=by omega
      clear hR hc;go_wp2_with (at_builtin;refine xI _ _ rfl _ _ 24 9 rfl i0 _ 1 16 underlying24 hi0 hz0 hz1 hz2 rfl (by omega) _ (.slice A m c') m _ rfl rfl hown rfl (by simp [Value.oneCell']) (by unfold maxLen;omega) (by omega) hv.size ?_;intro A2 c2 w2 hown2 hg2)
      refine ⟨⟨P ++ [s.extract q k],k + 1,k + 1,m + 1,A2,c2,by omega,by omega,by go_num,by go_num,rfl,by omega,qH (by rw [List.length_append,hm.out];rfl),qH ?_,?_,zi hv hg2 (zn hown)⟩,by simp [intOf];omega⟩
      ·rw [hR2.out,List.map_append];simp only [List.map_cons,List.map_nil,uc]
      ·rw [List.map_append];exact hown2
    · have hR2:=qH (zbz hq hlt hc hR.out);have hcb:((s[k].toNat:Int) == (c.toNat:Int))=false:=by
       rw [beq_eq_false_iff_ne];intro h;exact hc (UInt8.toNat_inj.1 (by omega))
      clear hR hc;go_wp2_with fail;exact ⟨⟨P,q,k + 1,m,A,c',by omega,by omega,by go_num,rfl,rfl,by omega,hm,hR2,hown,hv⟩,by simp [intOf];omega⟩
  · have hR2:=qH (zby (by omega) hR.out);have hF:=qH (hfin.out (P ++ [s.extract q s.size]) (by rw [hR2.out,List.map_append];simp only [List.map_cons,List.map_nil,uc]));have hqi:(q:Int)<=(s.size:Int):=by omega
    clear hR hR2;go_wp2_with (at_builtin;refine xI _ _ rfl _ _ 24 9 rfl i0 _ 1 16 underlying24 hi0 hz0 hz1 hz2 rfl (by omega) _ (.slice A m c') m _ rfl rfl hown rfl (by simp [Value.oneCell']) (by unfold maxLen;omega) (by omega) hv.size ?_;intro A2 c2 w2 hown2 hg2)
    go_returns;rw [hF.out];refine ⟨A2,c2,by rw [List.length_append,hm.out];rfl,?_,zi hv hg2 (zn hown)⟩;rw [List.length_append,hm.out,List.map_append];exact hown2
theorem nV(c:UInt8)(s:ByteArray)(hs:s.size<=1048576)(w:World):Calls prog 40 #[.string s,.int .u8 c.toNat] w (rf 9 1 (zl c s).length ((zl c s).map Value.string) w):=
 vx c s (by omega) w
theorem lE(s:Int)(g:Addr)(x:Entry)(hx:xa x=true)(h0:0<=s)(h1:s<=65518)(w:World)(c0:w.cell? g=some (.int .i64 x.day))(c1:w.cell? ⟨g.block,g.off + 1,none⟩=some (.string x.what))(c2:w.cell? ⟨g.block,g.off + 2,none⟩=some (.int .i64 x.value)) :
 Calls prog 231 #[.int .i64 s,.pointer (some g)] w (Ret (.string (yI s x)) w):=by
 have z1:=vA hx;have z2:=wk s;have hwd:=qH (sR g x hx w c0 c1 c2);obtain ⟨wd,hwd2⟩:=zN (yd x);have HL:=qH (show yI s x=wd ++ ⟨#[32]⟩ ++ zm s ++ ⟨#[10]⟩ by rw [hwd2];rfl);rw [<-hwd2] at hwd z1;have z3:(ByteArray.mk #[32]).size=1:=rfl;have z4:(ByteArray.mk #[10]).size=1:=rfl;have hadd1:=fun (w:World)=>run_string_add_sum (P:=prog) w wd ⟨#[32]⟩ (by omega);have hadd2:=fun (w:World)=>run_string_add_sum (P:=prog) w (wd ++ ⟨#[32]⟩) (zm s) (by rw [ByteArray.size_append'];omega);have hadd3:=fun (w:World)=>run_string_add_sum (P:=prog) w (wd ++ ⟨#[32]⟩ ++ zm s) ⟨#[10]⟩ (by rw [ByteArray.size_append',ByteArray.size_append'];omega);clear z1 z2 z3 z4 hwd2 c0 c1 c2 hx;go_in;go_wp2_with fail;refine qS (hwd.out) fun W hb=>?_;go_wp2_with fail;refine qS (xh s (by omega) (by omega) _) fun W2 hb2=>?_;go_wp2;go_returns;exact Ret.mk (vs HL.out.symm) (za hb hb2)
end Go.Proofs.YtpiehlfffjhoaaaGreatDoor
