/- Lemmas for the law on the console: the parts StyH,CnU,StyN,LogB,LogJ,LgsP,LgsQ,LgsR,CnV. -/
import Derived.Test.YtpiehlfffjhoaaaGreatDoorQ23
import Derived.Test.YtpiehlfffjhoaaaGreatDoorQ21
namespace Go.Proofs.YtpiehlfffjhoaaaGreatDoor
open Go.RowKit Go.Proofs.Tryz
set_option maxRecDepth 100000
set_option maxHeartbeats 8000000
theorem cz{s:ByteArray}(h:xG s=true):(zl 59 s).length<=12:=by
 unfold xG at h;rw [Bool.and_eq_true,decide_eq_true_eq,decide_eq_true_eq] at h;exact h.2
def rdS(s:ByteArray):Style:=if xG s=true then (if tro (zl 59 s)=[] then wG yA (zl 59 s) else yA) else yA
def rdC(s:ByteArray):Int:=if xG s=true then (if tro (zl 59 s)=[] then 0 else 7) else 5
theorem ly{x:Style}{cl:List ByteArray}{j:Nat}{t:ByteArray}(h:cl[j]?=some t):wG x (cl.take (j + 1))=yp (wG x (cl.take j)) (zP t):=by
 unfold wG;rw [yJ h,List.foldl_append];rfl
theorem gA(s:ByteArray)(hs:s.size<=1048576)(w:World)(hT:Tabs w):Calls prog 81 #[.string s] w (RetT #[.agg #[.string (rdS s).u,.string (rdS s).c,.string (rdS s).l,.string (rdS s).s,.int .i64 (rdS s).t,.int .i64 (rdS s).h,.int .i64 (rdS s).e,.int .i64 (rdS s).d,.bool (rdS s).q],.int .i64 (rdC s)] w):=by
 have HT:=qH hT;clear hT;obtain ⟨W,hW⟩:=zN (w.alloc (Obj.cells cT 30));obtain ⟨gr,hgr⟩:=zN w.heap.size;have hv:Below w.heap.size w W:=by rw [hW];exact zc (Below.refl _ _) _
 have hR:Hid (Blk W gr 30 cT):=qH (by rw [hW,hgr];exact Blk.new _ _ _);have hge:w.heap.size<=gr:=by omega
 have HC:=gT s hs W (HT.out.below hv);unfold kD at HC;have HPT:=qH (fun t (h:t ∈ zl 59 s)=>Nat.le_trans (wU h) (by omega:s.size<=4194304));have HFW:=qH (fun h=>cz (s:=s) h);have h1:rdS s=if xG s=true then (if tro (zl 59 s)=[] then wG yA (zl 59 s) else yA) else yA:=rfl
 have h2:rdC s=if xG s=true then (if tro (zl 59 s)=[] then 0 else 7) else 5:=rfl
 obtain ⟨b,hb⟩:=zN (xG s);obtain ⟨L,hL⟩:=zN (zl 59 s);rw [<-hb,<-hL] at HC HFW h1 h2;rw [<-hL] at HPT;replace HC:=qH HC;have HPOS:=qH (show 0 < L.length by rw [hL,nE];omega);have HW:=qH hW;have HGR:=qH hgr;have H1':=qH h1;have H2':=qH h2;clear hb hL hW hgr h1 h2;go_in;go_upto_region 1 with fail;rw [<-HW.out,<-HGR.out];clear HW HGR;go_wp2_with fail;refine HC.out.mono ?_;rintro e W1 ⟨A,m,c,rfl,hcl,hb⟩;replace hv:=za hv hb;replace hR:=qH (hR.out.below hb);clear hb HC;cases b
 case false=>
  clear hcl;have H1:=qH (show rdS s=yA by rw [H1'.out];rfl);have H2:=qH (show rdC s=5 by rw [H2'.out];rfl);go_wp2_with (refine yS gr cT hR.out ?_)
  refine bodyPost_ret (zj (P:=prog) rfl _ _ gr 30 cT (0,0) _ rfl ?_ underlying30 rfl (by kernel_rfl)) rfl ?_
  ·exact setRow_heap _ _ _ _ _ _ hR.out
  ·exact RetT.mk (by rw [H1.out,H2.out];rfl) (zg hv hge _)
 case true=>
 obtain ⟨hm,hA⟩:=hcl rfl;have hm12:=HFW.out rfl;rw [hm] at hm12;have HM:=qH hm;have HTR:=qH (dV A L m c HM (by omega) HPT W1 hA (HT.out.below hv));have HA:=qH hA;clear hcl hm hA HFW;go_wp2_with fail;refine HTR.out.mono ?_;rintro e W2 ⟨g,k,c2,rfl,hk,_,hb⟩;replace hv:=za hv hb;replace hR:=qH (hR.out.below hb);replace HA:=qH (HA.out.below hb);clear hb HTR;by_cases ht:tro L=[]
 case neg=>
  have hk0:(0:Int) < (k:Int):=by
   have:=List.length_pos_iff.2 ht;omega
  have H1:=qH (show rdS s=yA by rw [H1'.out];simp [ht]);have H2:=qH (show rdC s=7 by rw [H2'.out];simp [ht]);clear hk ht;go_wp2_with (refine yS gr cT hR.out ?_)
  refine bodyPost_ret (zj (P:=prog) rfl _ _ gr 30 cT (0,0) _ rfl ?_ underlying30 rfl (by kernel_rfl)) rfl ?_
  ·exact setRow_heap _ _ _ _ _ _ hR.out
  ·exact RetT.mk (by rw [H1.out,H2.out];rfl) (zg hv hge _)
 case pos=>
 have hk0:¬ (0:Int) < (k:Int):=by rw [hk,ht];simp
 obtain rfl:k=0:=by rw [hk,ht];rfl
 have H1:=qH (show rdS s=wG yA L by rw [H1'.out];simp [ht]);have H2:=qH (show rdC s=0 by rw [H2'.out];simp [ht]);have HPR:=qH (fun t (h:t ∈ L)=>((oz L [] 0).1 (by
  unfold tro at ht;exact (List.append_eq_nil_iff.1 ht).1)).1 t h)
 clear hk ht H1' H2';obtain ⟨ad0,hA0,hab0,_⟩:=HA.out.at_ (j:=0) (by rw [xo,List.length_map];exact HPOS.out);subst hA0;go_upto_region 7 with fail;obtain ⟨W3,hW3⟩:=zN (World.alloc W2 (Obj.cells cT 30));obtain ⟨gx,hgx⟩:=zN W2.heap.size;have hX:Hid (Blk W3 gx 30 (cS yA)):=qH (by rw [hW3,hgx];exact Blk.new _ _ _);have hb:Below W2.heap.size W2 W3:=by rw [hW3];exact zc (Below.refl _ _) _
 have hgrx:gr < gx:=by have:=hR.out.lt;omega
 have hgex:w.heap.size<=gx:=by have:=hv.size;omega
 have hane:ad0.block≠gx:=by omega
 rw [<-hW3,<-hgx];replace hv:=za hv hb;replace hR:=qH (hR.out.below hb);replace HA:=qH (HA.out.below hb);clear hb hW3 hgx;go_wp2_with fail;have HY0:=qH (show yA=wG yA (L.take 0) from rfl)
 go_loopw [27] (fun i wr=>∃ (j:Nat) (y:Style),j<=m/\i=.int .i64 j/\Hid (y=wG yA (L.take j))/\Hid (Blk wr gx 30 (cS y))/\Hid (Blk wr gr 30 cT)/\Hid (Arr wr (some ad0) (zd zt L))/\Below w.heap.size w wr) (fun i _=>m - (intOf i).toNat)
 case atStart=>exact ⟨0,yA,by omega,rfl,HY0,hX,hR,HA,hv⟩
 case round=>
 clear HY0 hX hR HA hv;obtain ⟨j,y,hj,rfl,HY,hX,hR,HA,hv⟩:=hrel;have hj0:(0:Int)<=(j:Int):=by omega
 by_cases hlt:j < m
 case pos=>
  have hj1:(j:Int) < (m:Int):=by omega
  obtain ⟨t,ht⟩:=zx (xs:=L) (k:=j) (by rw [HM.out];exact hlt);obtain ⟨ad,had,_,c0⟩:=zh HA.out ht;injection had with had;subst had;have HWT:=fun w h=>aY y t (HPT.out t (List.mem_of_getElem? ht)) (qH (HPR.out t (List.mem_of_getElem? ht))) w h;have hy:=ly (x:=yA) ht;rw [<-HY.out] at hy;obtain ⟨z,hz⟩:=zN (yp y (zP t));rw [<-hz] at HWT hy;replace HWT:=qH HWT;have HY2:=qH hy.symm;clear hy hz ht;go_wp2_with (refine yL gx hX.out underlying30 ?_)
  refine qS (HWT.out _ (HT.out.below hv)) fun W5 hb=>?_;replace hv:=za hv hb;replace hR:=qH (hR.out.below hb);replace hX:=qH (hX.out.below hb);replace HA:=qH (HA.out.below hb);clear hb HWT;go_wp2_with (refine yS gx (cS z) hX.out ?_)
  exact ⟨⟨j + 1,z,by omega,by go_num,HY2,qH (setRow_heap _ _ _ _ _ _ hX.out),qH ((setRow_other W5 gx gr _ (by omega)).trans hR.out),qH (HA.out.grown (yl W5 gx (cS z)) (fun ad e h=>by injection e with e;subst e;injection h with h;omega)),zg hv hgex _⟩,by simp [intOf];omega⟩
 case neg=>
 have hjm:j=m:=by omega
 subst hjm;have hj1:¬ (j:Int) < (j:Int):=by omega
 have HYF:=qH (show y=wG yA L by rw [HY.out,List.take_of_length_le (by rw [HM.out];exact Nat.le_refl _)]);clear HY;go_wp2_with (first | (refine yL gx hX.out underlying30 ?_) | (refine yS gr (cS y) hR.out ?_))
 try simp only [Exit.inBlock,Exit.then]
 refine bodyPost_ret (zj (P:=prog) rfl _ _ gr 30 (cS y) (0,0) _ rfl ?_ underlying30 rfl (by kernel_rfl)) rfl ?_
 ·exact setRow_heap _ _ _ _ _ _ hR.out
 ·exact RetT.mk (by rw [H1.out,H2.out,HYF.out];rfl) (zg hv hge _)
structure Dk where
 f:Foot
 xs:List Last
 s:Style
 lg:ByteArray
def Dk.ok(d:Dk):Bool:=un d.f d.xs d.s d.lg
def zdU:Foot:=⟨0,0,0,0⟩
def zDk:Dk:=⟨zdU,[],yA,⟨#[]⟩⟩
def vJ(c:Int):ByteArray:=if c=0 then ⟨#[111,107]⟩ else if c=1 then ⟨#[105,110,118,97,108,105,100]⟩ else if c=2 then ⟨#[114,97,110,103,101]⟩ else if c=3 then ⟨#[110,111,116,45,102,111,117,110,100]⟩ else if c=4 then ⟨#[101,120,105,115,116,115]⟩ else if c=5 then ⟨#[102,117,108,108]⟩ else if c=6 then ⟨#[115,116,97,116,101]⟩ else if c=7 then ⟨#[115,121,110,116,97,120]⟩ else if c=8 then ⟨#[102,111,114,109,97,116]⟩ else if c=9 then ⟨#[99,108,97,115,104]⟩ else if c=10 then ⟨#[116,105,103,104,116]⟩ else ⟨#[]⟩
def wZ(c:Int):ByteArray:=⟨#[101,114,114,111,114,32]⟩ ++ vJ c
def okW(n:Nat):ByteArray:=⟨#[111,107,32]⟩ ++ zm n
def zJ:ByteArray:=⟨#[97,108,116,101,114]⟩
def zw:ByteArray:=⟨#[99,108,97,117,115,101]⟩
def zL:ByteArray:=⟨#[101,110,116,101,114]⟩
def yv:ByteArray:=⟨#[102,105,116]⟩
def ya:ByteArray:=⟨#[102,111,111,116]⟩
def yb:ByteArray:=⟨#[108,97,115,116]⟩
def zV:ByteArray:=⟨#[108,97,115,116,115]⟩
def yE:ByteArray:=⟨#[108,111,103]⟩
def yc:ByteArray:=⟨#[110,101,101,100]⟩
def zM:ByteArray:=⟨#[114,97,105,115,101]⟩
def zO:ByteArray:=⟨#[115,116,121,108,101]⟩
def wi:List ByteArray:=[zJ,zw,zL,yv,ya,yb,zV,yE,yc,zM,zO]
def ye(w:ByteArray):ByteArray:=if w=ya then ⟨#[119]⟩ else if w=yc then ⟨#[119]⟩ else if w=yb then ⟨#[43]⟩ else if w=zO then ⟨#[43]⟩ else if w=zw then ⟨#[43]⟩ else if w=yv then ⟨#[110,110,110]⟩ else if w=zJ then ⟨#[119,119,119]⟩ else if w=zM then ⟨#[110,110,110,110]⟩ else if w=zL then ⟨#[110,119,110]⟩ else ⟨#[]⟩
def yz(ws:List ByteArray):ByteArray:=yB ⟨#[32]⟩ (ws.drop 1)
def uj(l:List Int):ByteArray:=yB ⟨#[32]⟩ (xL l)
def zf(ws:List ByteArray)(k:Nat):ByteArray:=ws.getD k ⟨#[]⟩
def yW(ns:List Int)(k:Nat):Int:=ns.getD k 0
abbrev xD:=Dk × List ByteArray × Int
def noD(d:Dk)(c:Int):xD:=(d,[],c)
def vj(d:Dk)(t:ByteArray):xD:=match xl t with
 | some f=>({ d with f:=f },[xb f],0)
 | none=>noD d 7
def xt(d:Dk)(t:ByteArray):xD:=match wg t with
 | some x=>if (yT d.xs x).2=0 then ({ d with xs:=(yT d.xs x).1 },[tp d.f (yT d.xs x).1.length],0) else noD d (yT d.xs x).2
 | none=>noD d 7
def vS(d:Dk):xD:=(d,d.xs.map xT ++ [okW d.xs.length],0)
def uQ(d:Dk)(a b c:Int):xD:=if (xE d.xs d.f a b c).2=0 then (d,[((d.xs[(xE d.xs d.f a b c).1.toNat]?).getD ut).name],0) else noD d (xE d.xs d.f a b c).2
def atD(d:Dk)(nm:ByteArray):Last:=(d.xs[(yw d.xs nm).1.toNat]?).getD ut
def vW(d:Dk)(nm:ByteArray):xD:=if (yw d.xs nm).2=0 then (d,[uj (wK (atD d nm) d.f)],0) else noD d (yw d.xs nm).2
def xB(d:Dk)(nm t:ByteArray):xD:=match wv t with
 | none=>noD d 7
 | some (k,a)=>if (yw d.xs nm).2=0 then
    (if (xZ (atD d nm) k a).2=0 then ({ d with xs:=d.xs.set (yw d.xs nm).1.toNat (xZ (atD d nm) k a).1 },[ltB (xZ (atD d nm) k a).1],0) else noD d (xZ (atD d nm) k a).2)
   else noD d (yw d.xs nm).2
def wF(d:Dk)(t:ByteArray):xD:=if rdC t=0 then ({ d with s:=rdS t },[xQ (rdS t)],0) else noD d (rdC t)
def xV(d:Dk)(t:ByteArray):xD:=if wn d.s t=0 then ({ d with s:=yX d.s t },[xQ (yX d.s t)],0) else noD d (wn d.s t)
def vu(d:Dk)(a b c e:Int):xD:=if (xy a b c e).2=0 then (d,[uj (xy a b c e).1],0) else noD d (xy a b c e).2
def vp(d:Dk)(a:Int)(w:ByteArray)(v:Int):xD:=if (xK d.lg ⟨a,w,v⟩).2=0 then ({ d with lg:=(xK d.lg ⟨a,w,v⟩).1 },[zm (uV (xK d.lg ⟨a,w,v⟩).1 w).sum],0) else noD d (xK d.lg ⟨a,w,v⟩).2
def sF(d:Dk):xD:=(d,(rdL d.lg).1.map yd ++ [okW (rdL d.lg).1.length],0)
def yi(d:Dk)(ws:List ByteArray)(ns:List Int):xD:=
 if zf ws 0=ya then vj d (yz ws)
 else if zf ws 0=yb then xt d (yz ws)
 else if zf ws 0=zV then vS d
 else if zf ws 0=yv then uQ d (yW ns 0) (yW ns 1) (yW ns 2)
 else if zf ws 0=yc then vW d (zf ws 1)
 else if zf ws 0=zJ then xB d (zf ws 1) (zf ws 2 ++ ⟨#[32]⟩ ++ zf ws 3)
 else if zf ws 0=zO then wF d (yz ws)
 else if zf ws 0=zw then xV d (yz ws)
 else if zf ws 0=zM then vu d (yW ns 0) (yW ns 1) (yW ns 2) (yW ns 3)
 else if zf ws 0=zL then vp d (yW ns 0) (zf ws 2) (yW ns 1)
 else sF d
def xH(ws:List ByteArray):List UInt8->Nat->Option (List Int)
 | [],_=>some []
 | c :: r,k=>if c=110 then (if okB (zf ws k)=true then (xH ws r (k + 1)).map (zq (zf ws k) :: ·) else none) else xH ws r (k + 1)
def wy(ws:List ByteArray)(fm:ByteArray):Bool:=decide (fm.size + 1<=ws.length) && (decide (fm=⟨#[43]⟩) || decide (ws.length<=fm.size + 1))
def wR(d:Dk)(ws:List ByteArray):xD:=match xH ws (ye (zf ws 0)).data.toList 1 with
 | none=>(d,[wZ 7],0)
 | some ns=>if (yi d ws ns).2.2=0 then ((yi d ws ns).1,(yi d ws ns).2.1,0) else (d,[wZ (yi d ws ns).2.2],0)
def isD(ws:List ByteArray):Bool:=xd (zf ws 0) wi && wy ws (ye (zf ws 0))
def qD(d:Dk)(line:ByteArray):xD:=
 if d.ok=true then (if isD (zl 32 line)=true then wR d (zl 32 line) else (zDk,[],7)) else (zDk,[],1)
theorem yj{d:Dk}(h:d.ok=true):ym d.f=true/\yx d.xs=true/\yZ d.s=true/\cdL d.lg=0:=by
 unfold Dk.ok un at h;simp only [Bool.and_eq_true,decide_eq_true_eq] at h;exact ⟨h.1.1.1,h.1.1.2,h.1.2,h.2⟩
theorem oH{d:Dk}(h1:ym d.f=true)(h2:yx d.xs=true)(h3:yZ d.s=true)(h4:cdL d.lg=0):d.ok=true:=by
 unfold Dk.ok un;simp only [h1,h2,h3,h4,decide_true,Bool.and_self]
theorem zdO{s:ByteArray}(h:xG s=false):rdC s=5:=by unfold rdC;rw [if_neg (by rw [h];simp)]
theorem zde{s:ByteArray}(h:xG s=true)(ht:tro (zl 59 s)≠[]):rdC s=7:=by unfold rdC;rw [if_pos h,if_neg ht]
theorem zdP{s:ByteArray}(h:xG s=true)(ht:tro (zl 59 s)=[]):rdC s=0/\yZ (rdS s)=true:=by
 refine ⟨by unfold rdC;rw [if_pos h,if_pos ht],?_⟩;unfold rdS;rw [if_pos h,if_pos ht];exact zbq ht
theorem qd(v:Int):(10:UInt8) ∉ Lib.itoa v:=by
 have h:=xr v;have hd:=(uY v.natAbs).1;have key:∀ l:List UInt8,l.all yG=true->(10:UInt8) ∉ l:=by
  intro l hl hm;have:=List.all_eq_true.1 hl _ hm
  revert this;decide
 intro hm;rw [<-h.1] at hd;cases hv:Lib.itoa v with
 | nil=>rw [hv] at hm;cases hm
 | cons c r=>
   rw [hv] at hm hd;simp only [yo] at hd;split at hd
   · rename_i hc;rcases List.mem_cons.1 hm with h1 | h1
     ·rw [hc] at h1;revert h1;decide
     ·exact key _ hd h1
   ·exact key _ hd hm
theorem fp{s:ByteArray}(h:zo s=true):(10:UInt8) ∉ s.data.toList:=by
 intro hm;simp only [zo,sV,Bool.and_eq_true] at h;have:=List.all_eq_true.1 h.2 _ hm
 revert this;decide
theorem lm{x:Entry}(h:xa x=true):zo x.what=true:=by
 simp only [xa,Bool.and_eq_true] at h;exact h.1.2
def qe(s:Int)(x:Entry):List UInt8:=[32].intercalate [Lib.itoa x.day,x.what.data.toList,Lib.itoa x.value,Lib.itoa s]
theorem mg(s:Int)(x:Entry):(yI s x).data.toList=qe s x ++ [10]:=by
 simp only [yI,yd,zm,ua];simp [qe,List.intercalate]
theorem ab{s:Int}{x:Entry}(h:xa x=true):(10:UInt8) ∉ qe s x:=by
 have hn:=fp (lm h);have h1:=qd x.day;have h2:=qd x.value;have h3:=qd s;rw [Array.mem_toList_iff] at hn;simp only [qe,List.intercalate];simp;exact ⟨h1,hn,h2,h3⟩
theorem nC:∀ (l r:List UInt8),(10:UInt8) ∉ l->zZ (l ++ 10 :: r)=l.length:=by
 intro l
 induction l with
 | nil=>intro r _;rw [List.nil_append,ss,if_pos rfl];rfl
 | cons b t ih=>
   intro r h;simp only [List.mem_cons,not_or] at h;rw [List.cons_append,ss,if_neg (fun e=>h.1 e.symm),ih r h.2,List.length_cons]
theorem ac{s:Int}{x:Entry}(h:xa x=true)(h0:0<=s)(h1:s<=65518):vU (qe s x)=some (x,s):=by
 obtain ⟨d0,d1,v0,v1,_⟩:=uo h;have hs:spl 32 (qe s x)=[Lib.itoa x.day,x.what.data.toList,Lib.itoa x.value,Lib.itoa s]:=by
  refine rT _ (by simp) ?_;intro p hp;simp only [List.mem_cons,List.not_mem_nil,or_false] at hp;rcases hp with rfl | rfl | rfl | rfl
  ·exact sq _
  ·exact pY (lm h)
  ·exact sq _
  ·exact sq _
 have e1:=uf (v:=x.day) (by omega) (by omega);have e2:=uf (v:=x.value) (by omega) (by omega);have e3:=uf (v:=s) (by omega) (by omega);have hx:(⟨xk (Lib.itoa x.day),⟨x.what.data.toList.toArray⟩,xk (Lib.itoa x.value)⟩:Entry)=x:=by
  rw [(xr _).2,(xr _).2]
 unfold vU;rw [hs];simp only [e1,e2,e3,hx,h,Bool.and_self,if_true,(xr s).2]
theorem aM{es:List Entry}{st:Int}{x:Entry}(hx:xa x=true)(hd:xx es<=x.day)(r:List UInt8):xP ((yI (stp st x) x).data.toList ++ r) es st=some (x,(yI (stp st x) x).size):=by
 have hb:=rB st x;have hl:=mg (stp st x) x;have hz:(yI (stp st x) x).size=(qe (stp st x) x).length + 1:=by rw [<-zu,hl];simp
 have hn:zZ ((yI (stp st x) x).data.toList ++ r)=(qe (stp st x) x).length:=by
  rw [hl,List.append_assoc];exact nC _ r (ab hx)
 unfold xP;rw [hn,if_pos (by rw [hl];simp)];have ht:((yI (stp st x) x).data.toList ++ r).take (qe (stp st x) x).length=qe (stp st x) x:=by rw [hl,List.append_assoc,List.take_left]
 rw [ht,ac hx hb.1 hb.2];simp only [];rw [if_pos (by exact ⟨hd,trivial⟩),hz]
theorem aL(es:List Entry)(st:Int):xP [] es st=none:=by unfold xP;rw [if_neg (by simp)]
theorem kQ(out:List ByteArray)(x:ByteArray):out.any (fun z=>z.toList == x.toList)=Lib.containsS out x:=by
 rw [Bool.eq_iff_iff,Lib.containsS_iff,List.any_eq_true];constructor
 ·rintro ⟨z,hz,h⟩;rw [yD,decide_eq_true_eq] at h;rw [<-h];exact hz
 ·intro h;exact ⟨x,h,by simp⟩
theorem containsS_iff(out:List ByteArray)(x:ByteArray):Lib.containsS out x=true ↔ x ∈ out:=by
 rw [<-kQ,List.any_eq_true];constructor
 ·rintro ⟨z,hz,h⟩;rw [beq_iff_eq,tl] at h;subst h;exact hz
 ·intro h;exact ⟨x,h,by simp⟩
theorem aK{l r:List UInt8}{es:List Entry}{st:Int}{e:Entry}{m:Nat}(h:xP l es st=some (e,m)):xP (l ++ r) es st=some (e,m)/\1<=m/\m<=l.length:=by
 unfold xP at h;by_cases hn:zZ l < l.length
 · rw [if_pos hn] at h;have hat:=mR l hn;obtain ⟨a,b,hab⟩:∃ a b,l=a ++ 10 :: b/\a.length=zZ l/\(10:UInt8) ∉ a:=by
    refine ⟨l.take (zZ l),l.drop (zZ l + 1),?_,by rw [List.length_take];omega,?_⟩
    · have e1:=List.take_append_drop (zZ l) l;rw [List.drop_eq_getElem_cons hn] at e1;have e2:l[zZ l]=10:=by
       have:=List.getElem?_eq_getElem hn;rw [hat] at this;injection this with this;exact this.symm
      rw [e2] at e1;exact e1.symm
    · intro hm;obtain ⟨j,hj⟩:=List.getElem?_of_mem hm;rw [List.getElem?_take] at hj;split at hj
      ·exact fU l j 10 (by assumption) hj rfl
      ·cases hj
   obtain ⟨hl,ha,hf⟩:=hab;have h2:zZ (l ++ r)=zZ l:=by
    rw [hl,List.append_assoc,List.cons_append,nC a _ hf,nC a _ hf]
   have ht:(l ++ r).take (zZ l)=l.take (zZ l):=List.take_append_of_le_length (by omega);have hm:m=zZ l + 1:=by
    revert h
    cases vU (l.take (zZ l)) with
    | none=>intro h;cases h
    | some p=>
      obtain ⟨e',s'⟩:=p;simp only [];intro h;split at h
      ·injection h with h;injection h with _ h;exact h.symm
      ·cases h
   refine ⟨?_,by omega,by omega⟩;unfold xP;rw [h2,if_pos (by rw [List.length_append];omega),ht];exact h
 ·rw [if_neg hn] at h;cases h
theorem ed(l r:List UInt8)(k:Nat):∀ (f:Nat) (es:List Entry) (st:Int) (n:Nat) (es':List Entry) (st':Int),rdF l f es st n=(es',st',l.length)->n<=l.length->1 + l.length - n<=f->∃ g,k + 1<=g/\rdF (l ++ r) (f + k) es st n=rdF (l ++ r) g es' st' l.length
 | 0,es,st,n,es',st',h,h1,h2=>by omega
 | f + 1,es,st,n,es',st',h,h1,h2=>by
   rw [rdF] at h;cases hs:xP (l.drop n) es st with
   | none=>
     rw [hs] at h;simp only [Prod.mk.injEq] at h;obtain ⟨rfl,rfl,rfl⟩:=h;exact ⟨f + 1 + k,by omega,rfl⟩
   | some p=>
     obtain ⟨e,m⟩:=p;rw [hs] at h;simp only [] at h;obtain ⟨h3,h4,h5⟩:=aK (r:=r) hs;rw [List.length_drop] at h5;obtain ⟨g,hg,he⟩:=ed l r k f _ _ _ _ _ h (by omega) (by omega);refine ⟨g,hg,?_⟩;rw [<-he,show f + 1 + k=(f + k) + 1 by omega,rdF,List.drop_append_of_le_length h1,h3]
theorem mQ{s:ByteArray}{x:Entry}(h0:cdL s=0)(h:(xK s x).2=0):cdL (xK s x).1=0/\rdL (xK s x).1=((rdL s).1 ++ [x],stp (rdL s).2.1 x,(xK s x).1.size)/\xa x=true/\(xK s x).1.size<=4000:=by
 have hz:(rdL s).2.2=s.size/\¬ 4000 < s.size:=by
  by_cases h4:4000 < s.size
  ·rw [nj h4] at h0;cases h0
  · by_cases h5:(rdL s).2.2=s.size
    ·exact ⟨h5,h4⟩
    ·rw [mM h4 h5] at h0;cases h0
 obtain ⟨hr,_⟩:=hz;have hR:rdL s=((rdL s).1,(rdL s).2.1,s.size):=by rw [<-hr]
 rw [mI h0 hR] at h |-;generalize (rdL s).1=es at *;generalize (rdL s).2.1=st at *;cases he:xa x
 ·rw [nh he] at h;cases h
 by_cases hd:x.day < xx es
 ·rw [nf he hd] at h;cases h
 by_cases hb:4000 < (s ++ yI (stp st x) x).size
 ·rw [qz he hd hb] at h;cases h
 rw [qA he hd hb];have hl:s.data.toList.length=s.size:=zu s;have hsz:(s ++ yI (stp st x) x).size=s.size + (yI (stp st x) x).size:=ByteArray.size_append' _ _;have hone:1<=(yI (stp st x) x).size:=by
  have:(yI (stp st x) x).data.toList.length=(yI (stp st x) x).size:=zu _;rw [<-this,mg];simp
 have hrd:rdL (s ++ yI (stp st x) x)=(es ++ [x],stp st x,(s ++ yI (stp st x) x).size):=by
  unfold rdL at hR |-;rw [ua,hsz];rw [<-hl] at hR;obtain ⟨g,hg,heq⟩:=ed s.data.toList (yI (stp st x) x).data.toList (yI (stp st x) x).size (s.data.toList.length + 1) [] 0 0 es st hR (by omega) (by omega);rw [<-hl,show s.data.toList.length + (yI (stp st x) x).size + 1=s.data.toList.length + 1 + (yI (stp st x) x).size by omega,heq];obtain ⟨g2,rfl⟩:∃ g2,g=g2 + 1:=⟨g - 1,by omega⟩
  have hst:=aM (es:=es) (st:=st) he (by omega) [];rw [List.append_nil] at hst;rw [rdF,List.drop_append_of_le_length (Nat.le_refl _),List.drop_length,List.nil_append,hst];simp only [];obtain ⟨g3,rfl⟩:∃ g3,g2=g3 + 1:=⟨g2 - 1,by omega⟩
  rw [rdF,List.drop_eq_nil_of_le (by rw [List.length_append,zu (yI (stp st x) x)];exact Nat.le_refl _),aL]
 exact ⟨kT hb (by rw [hrd]),hrd,rfl,Nat.le_of_not_lt hb⟩
theorem zaP{d:Dk}(h:d.ok=true){t:ByteArray}(hc:(vj d t).2.2=0):(vj d t).1.ok=true/\(vj d t).2.1≠[]:=by
 obtain ⟨_,h2,h3,h4⟩:=yj h;unfold vj at hc |-;cases hr:xl t with
 | none=>rw [hr] at hc;cases hc
 | some f=>exact ⟨oH (sx hr).2 h2 h3 h4,by simp⟩
theorem jB{d:Dk}(h:d.ok=true){t:ByteArray}(hc:(xt d t).2.2=0):(xt d t).1.ok=true/\(xt d t).2.1≠[]:=by
 obtain ⟨h1,h2,h3,h4⟩:=yj h;unfold xt at hc |-;cases hr:wg t with
 | none=>rw [hr] at hc;cases hc
 | some x=>
   rw [hr] at hc;simp only [] at hc |-;by_cases ha:(yT d.xs x).2=0
   ·rw [if_pos ha];exact ⟨oH h1 (kO ha).1 h3 h4,by simp⟩
   ·rw [if_neg ha] at hc;exact absurd hc ha
theorem bZ{d:Dk}(h:d.ok=true):(vS d).1.ok=true/\(vS d).2.1≠[]:=⟨h,by simp [vS]⟩
theorem zcl{d:Dk}(h:d.ok=true){a b c:Int}(hc:(uQ d a b c).2.2=0):(uQ d a b c).1.ok=true/\(uQ d a b c).2.1≠[]:=by
 unfold uQ at hc |-;by_cases hb:(xE d.xs d.f a b c).2=0
 ·rw [if_pos hb];exact ⟨h,by simp⟩
 ·rw [if_neg hb] at hc;exact absurd hc hb
theorem zbe{d:Dk}(h:d.ok=true){nm:ByteArray}(hc:(vW d nm).2.2=0):(vW d nm).1.ok=true/\(vW d nm).2.1≠[]:=by
 unfold vW at hc |-;by_cases hb:(yw d.xs nm).2=0
 ·rw [if_pos hb];exact ⟨h,by simp⟩
 ·rw [if_neg hb] at hc;exact absurd hc hb
theorem lL{xs:List Last}{nm:ByteArray}(h:(yw xs nm).2=0):(yw xs nm).1=(lbN nm xs:Int)/\(∃ x,xs[lbN nm xs]?=some x/\x.name=nm)/\zo nm=true:=by
 unfold yw at h |-;split at h
 · rename_i h1;rw [if_pos h1];split at h
   · rename_i h2;rw [if_pos h2];split at h
     ·rename_i h3;rw [if_pos h3];exact ⟨rfl,zcn h3,h2⟩
     ·cases h
   ·cases h
 ·cases h
theorem nM{d:Dk}{nm:ByteArray}(h:(yw d.xs nm).2=0):d.xs[(yw d.xs nm).1.toNat]?=some (atD d nm)/\(yw d.xs nm).1=((yw d.xs nm).1.toNat:Int):=by
 obtain ⟨h1,⟨x,hx,_⟩,_⟩:=lL h;unfold atD;rw [h1,Int.toNat_natCast,hx];exact ⟨rfl,rfl⟩
theorem cm{d:Dk}(h:d.ok=true){nm t:ByteArray}(hc:(xB d nm t).2.2=0):(xB d nm t).1.ok=true/\(xB d nm t).2.1≠[]:=by
 obtain ⟨h1,h2,h3,h4⟩:=yj h;unfold xB at hc |-;cases hr:wv t with
 | none=>rw [hr] at hc;cases hc
 | some p=>
   obtain ⟨k,a⟩:=p;rw [hr] at hc;simp only [] at hc |-;by_cases hn:(yw d.xs nm).2=0
   · rw [if_pos hn] at hc |-;by_cases ha:(xZ (atD d nm) k a).2=0
     · rw [if_pos ha];obtain ⟨e1,e2⟩:=rD ha;refine ⟨oH h1 ?_ h3 h4,by simp⟩
       show yx (d.xs.set _ _)=true
       rw [e1];exact zcw h2 (nM hn).1 e2 (pG _ _ _)
     ·rw [if_neg ha] at hc;exact absurd hc ha
   ·rw [if_neg hn] at hc;exact absurd hc hn
theorem rW{d:Dk}(h:d.ok=true){t:ByteArray}(hc:(wF d t).2.2=0):(wF d t).1.ok=true/\(wF d t).2.1≠[]:=by
 obtain ⟨h1,h2,h3,h4⟩:=yj h;unfold wF at hc |-;by_cases hr:rdC t=0
 · rw [if_pos hr];refine ⟨oH h1 h2 ?_ h4,by simp⟩;cases hk:xG t
   ·rw [zdO hk] at hr;cases hr
   · by_cases ht:tro (zl 59 t)=[]
     ·exact (zdP hk ht).2
     ·rw [zde hk ht] at hr;cases hr
 ·rw [if_neg hr] at hc;exact absurd hc hr
theorem sL{d:Dk}(h:d.ok=true){t:ByteArray}(hc:(xV d t).2.2=0):(xV d t).1.ok=true/\(xV d t).2.1≠[]:=by
 obtain ⟨h1,h2,h3,h4⟩:=yj h;unfold xV at hc |-;by_cases hr:wn d.s t=0
 · rw [if_pos hr];refine ⟨oH h1 h2 ?_ h4,by simp⟩
   show yZ (yX d.s t)=true
   unfold wn at hr;rw [if_pos h3] at hr;split at hr
   ·rename_i ho;unfold yX;rw [if_pos h3,if_pos ho];unfold uy at ho;simp only [Bool.and_eq_true,decide_eq_true_eq] at ho;exact zcK h3 ho.2
   ·cases hr
 ·rw [if_neg hr] at hc;exact absurd hc hr
theorem ax{d:Dk}(h:d.ok=true){a b c e:Int}(hc:(vu d a b c e).2.2=0):(vu d a b c e).1.ok=true/\(vu d a b c e).2.1≠[]:=by
 unfold vu at hc |-;by_cases hr:(xy a b c e).2=0
 ·rw [if_pos hr];exact ⟨h,by simp⟩
 ·rw [if_neg hr] at hc;exact absurd hc hr
theorem cJ{d:Dk}(h:d.ok=true){a:Int}{w:ByteArray}{v:Int}(hc:(vp d a w v).2.2=0):(vp d a w v).1.ok=true/\(vp d a w v).2.1≠[]:=by
 obtain ⟨h1,h2,h3,h4⟩:=yj h;unfold vp at hc |-;by_cases hr:(xK d.lg ⟨a,w,v⟩).2=0
 ·rw [if_pos hr];exact ⟨oH h1 h2 h3 (mQ h4 hr).1,by simp⟩
 ·rw [if_neg hr] at hc;exact absurd hc hr
theorem zcA{d:Dk}(h:d.ok=true):(sF d).1.ok=true/\(sF d).2.1≠[]:=⟨h,by simp [sF]⟩
theorem zci{d:Dk}(h:d.ok=true)(ws:List ByteArray)(ns:List Int)(hc:(yi d ws ns).2.2=0):(yi d ws ns).1.ok=true/\(yi d ws ns).2.1≠[]:=by
 unfold yi at hc |-;by_cases hFoot:zf ws 0=ya
 ·rw [if_pos hFoot] at hc |-;exact zaP h hc
 rw [if_neg hFoot] at hc |-;by_cases hLast:zf ws 0=yb
 ·rw [if_pos hLast] at hc |-;exact jB h hc
 rw [if_neg hLast] at hc |-;by_cases hLasts:zf ws 0=zV
 ·rw [if_pos hLasts] at hc |-;exact bZ h
 rw [if_neg hLasts] at hc |-;by_cases hFit:zf ws 0=yv
 ·rw [if_pos hFit] at hc |-;exact zcl h hc
 rw [if_neg hFit] at hc |-;by_cases hNeed:zf ws 0=yc
 ·rw [if_pos hNeed] at hc |-;exact zbe h hc
 rw [if_neg hNeed] at hc |-;by_cases hAlter:zf ws 0=zJ
 ·rw [if_pos hAlter] at hc |-;exact cm h hc
 rw [if_neg hAlter] at hc |-;by_cases hStyle:zf ws 0=zO
 ·rw [if_pos hStyle] at hc |-;exact rW h hc
 rw [if_neg hStyle] at hc |-;by_cases hClause:zf ws 0=zw
 ·rw [if_pos hClause] at hc |-;exact sL h hc
 rw [if_neg hClause] at hc |-;by_cases hRaise:zf ws 0=zM
 ·rw [if_pos hRaise] at hc |-;exact ax h hc
 rw [if_neg hRaise] at hc |-;by_cases hEnter:zf ws 0=zL
 ·rw [if_pos hEnter] at hc |-;exact cJ h hc
 rw [if_neg hEnter] at hc |-;exact zcA h
theorem ee{d:Dk}(h:d.ok=true)(ws:List ByteArray):(wR d ws).1.ok=true/\(wR d ws).2.1≠[]/\(wR d ws).2.2=0:=by
 unfold wR;split
 ·exact ⟨h,by simp,rfl⟩
 · rename_i ns _;by_cases hc:(yi d ws ns).2.2=0
   ·rw [if_pos hc];obtain ⟨e1,e2⟩:=zci h ws ns hc;exact ⟨e1,e2,rfl⟩
   ·rw [if_neg hc];exact ⟨h,by simp,rfl⟩
end Go.Proofs.YtpiehlfffjhoaaaGreatDoor
