/- Lemmas for the law on the console: the parts StyH,CnU,StyN,LogB,LogJ,LgsP,LgsQ,LgsR,CnV. -/
import Derived.Test.YtpiehlfffjhoaaaGreatDoorQ1
import Derived.Test.YtpiehlfffjhoaaaGreatDoorQ0
import Derived.Test.YtpiehlfffjhoaaaGreatDoorQ18
import Derived.Test.YtpiehlfffjhoaaaGreatDoorQ20
import Derived.Test.YtpiehlfffjhoaaaGreatDoorQ13
import Derived.Test.YtpiehlfffjhoaaaGreatDoorQ12
import Derived.Test.YtpiehlfffjhoaaaGreatDoorQ17
import Derived.Test.YtpiehlfffjhoaaaGreatDoorQ19
import Derived.Test.YtpiehlfffjhoaaaGreatDoorQ4
import Derived.Test.YtpiehlfffjhoaaaGreatDoorQ7
import Derived.Lib.SlicesS
import Derived.Deep.RegionHeld3
namespace Go.Proofs.YtpiehlfffjhoaaaGreatDoor
open Go.RowKit
set_option maxRecDepth 100000
set_option maxHeartbeats 8000000
theorem eU {s:ByteArray} (h:xG s=true):(zi 59 s).length≤12:=by
 unfold xG at h;rw [Bool.and_eq_true,decide_eq_true_eq,decide_eq_true_eq] at h;exact h.2
def rdS (s:ByteArray):Style:=if xG s=true then (if tro (zi 59 s)=[] then wD yy (zi 59 s) else yy) else yy
def rdC (s:ByteArray):Int:=if xG s=true then (if tro (zi 59 s)=[] then 0 else 7) else 5
theorem mP {x:Style} {cl:List ByteArray} {j:Nat} {t:ByteArray} (h:cl[j]?=some t):wD x (cl.take (j + 1))=yr (wD x (cl.take j)) (zO t):=by
 unfold wD;rw [yD h,List.foldl_append];rfl
theorem jt (s:ByteArray) (hs:s.size≤1048576) (w:World) (hT:Tabs w):Calls Tryz.prog 81 #[.string s] w (RetT #[.agg #[.string (rdS s).u,.string (rdS s).c,.string (rdS s).l,.string (rdS s).s,.int .i64 (rdS s).t,.int .i64 (rdS s).h,.int .i64 (rdS s).e,.int .i64 (rdS s).d,.bool (rdS s).q],.int .i64 (rdC s)] w):=by
 have HT:=qH hT;clear hT;obtain ⟨W,hW⟩:=zN (w.alloc (Obj.cells cT 30));obtain ⟨gr,hgr⟩:=zN w.heap.size;have hv:Below w.heap.size w W:=by rw [hW];exact zc (Below.refl _ _) _
 have hR:Hid (Blk W gr 30 cT):=qH (by rw [hW,hgr];exact Blk.new _ _ _);have hge:w.heap.size≤gr:=by omega
 have HC:=jE s hs W (HT.out.below hv);unfold lL at HC;have HPT:=qH (fun t (h:t ∈ zi 59 s)=>Nat.le_trans (wj h) (by omega:s.size≤4194304));have HFW:=qH (fun h=>eU (s:=s) h);have h1:rdS s=if xG s=true then (if tro (zi 59 s)=[] then wD yy (zi 59 s) else yy) else yy:=rfl
 have h2:rdC s=if xG s=true then (if tro (zi 59 s)=[] then 0 else 7) else 5:=rfl
 obtain ⟨b,hb⟩:=zN (xG s);obtain ⟨L,hL⟩:=zN (zi 59 s);rw [←hb,←hL] at HC HFW h1 h2;rw [←hL] at HPT;replace HC:=qH HC;have HPOS:=qH (show 0 < L.length by rw [hL,oX];omega);have HW:=qH hW;have HGR:=qH hgr;have H1':=qH h1;have H2':=qH h2;clear hb hL hW hgr h1 h2;go_enter Tryz.func81,Tryz.ntmps81;go_upto_region 1 with fail;rw [←HW.out,←HGR.out];clear HW HGR;go_wp2_with fail;refine HC.out.mono ?_;rintro e W1 ⟨A,m,c,rfl,hcl,hb⟩;replace hv:=za hv hb;replace hR:=qH (hR.out.below hb);clear hb HC;cases b
 case false=>
  clear hcl;have H1:=qH (show rdS s=yy by rw [H1'.out];rfl);have H2:=qH (show rdC s=5 by rw [H2'.out];rfl);go_wp2_with (refine yS gr cT hR.out ?_)
  refine bodyPost_ret (zk (P:=Tryz.prog) rfl _ _ gr 30 cT (0,0) _ rfl ?_ Tryz.underlying30 rfl (by kernel_rfl)) rfl ?_
  · exact setRow_heap _ _ _ _ _ _ hR.out
  · exact RetT.mk (by rw [H1.out,H2.out];rfl) (zg hv hge _)
 case true=>
 obtain ⟨hm,hA⟩:=hcl rfl;have hm12:=HFW.out rfl;rw [hm] at hm12;have HM:=qH hm;have HTR:=qH (eD A L m c HM (by omega) HPT W1 hA (HT.out.below hv));have HA:=qH hA;clear hcl hm hA HFW;go_wp2_with fail;refine HTR.out.mono ?_;rintro e W2 ⟨g,k,c2,rfl,hk,_,hb⟩;replace hv:=za hv hb;replace hR:=qH (hR.out.below hb);replace HA:=qH (HA.out.below hb);clear hb HTR;by_cases ht:tro L=[]
 case neg=>
  have hk0:(0:Int) < (k:Int):=by
   have:=List.length_pos_iff.2 ht;omega
  have H1:=qH (show rdS s=yy by rw [H1'.out];simp [ht]);have H2:=qH (show rdC s=7 by rw [H2'.out];simp [ht]);clear hk ht;go_wp2_with (refine yS gr cT hR.out ?_)
  refine bodyPost_ret (zk (P:=Tryz.prog) rfl _ _ gr 30 cT (0,0) _ rfl ?_ Tryz.underlying30 rfl (by kernel_rfl)) rfl ?_
  · exact setRow_heap _ _ _ _ _ _ hR.out
  · exact RetT.mk (by rw [H1.out,H2.out];rfl) (zg hv hge _)
 case pos=>
 have hk0:¬ (0:Int) < (k:Int):=by rw [hk,ht];simp
 obtain rfl:k=0:=by rw [hk,ht];rfl
 have H1:=qH (show rdS s=wD yy L by rw [H1'.out];simp [ht]);have H2:=qH (show rdC s=0 by rw [H2'.out];simp [ht]);have HPR:=qH (fun t (h:t ∈ L)=>((pM L [] 0).1 (by
  unfold tro at ht;exact (List.append_eq_nil_iff.1 ht).1)).1 t h)
 clear hk ht H1' H2';obtain ⟨ad0,hA0,hab0,_⟩:=HA.out.at_ (j:=0) (by rw [yH,List.length_map];exact HPOS.out);subst hA0;go_upto_region 7 with fail;obtain ⟨W3,hW3⟩:=zN (World.alloc W2 (Obj.cells cT 30));obtain ⟨gx,hgx⟩:=zN W2.heap.size;have hX:Hid (Blk W3 gx 30 (cS yy)):=qH (by rw [hW3,hgx];exact Blk.new _ _ _);have hb:Below W2.heap.size W2 W3:=by rw [hW3];exact zc (Below.refl _ _) _
 have hgrx:gr < gx:=by have:=hR.out.lt;omega
 have hgex:w.heap.size≤gx:=by have:=hv.size;omega
 have hane:ad0.block≠gx:=by omega
 rw [←hW3,←hgx];replace hv:=za hv hb;replace hR:=qH (hR.out.below hb);replace HA:=qH (HA.out.below hb);clear hb hW3 hgx;go_wp2_with fail;have HY0:=qH (show yy=wD yy (L.take 0) from rfl)
 go_loopw [27] (fun i wr=>∃ (j:Nat) (y:Style),j≤m∧i=.int .i64 j∧Hid (y=wD yy (L.take j))∧Hid (Blk wr gx 30 (cS y))∧Hid (Blk wr gr 30 cT)∧Hid (Arr wr (some ad0) (zd zn L))∧Below w.heap.size w wr) (fun i _=>m - (intOf i).toNat)
 case atStart=>exact ⟨0,yy,by omega,rfl,HY0,hX,hR,HA,hv⟩
 case round=>
 clear HY0 hX hR HA hv;obtain ⟨j,y,hj,rfl,HY,hX,hR,HA,hv⟩:=hrel;have hj0:(0:Int)≤(j:Int):=by omega
 by_cases hlt:j < m
 case pos=>
  have hj1:(j:Int) < (m:Int):=by omega
  obtain ⟨t,ht⟩:=zx (xs:=L) (k:=j) (by rw [HM.out];exact hlt);obtain ⟨ad,had,_,c0⟩:=zj HA.out ht;injection had with had;subst had;have HWT:=fun w h=>bt y t (HPT.out t (List.mem_of_getElem? ht)) (qH (HPR.out t (List.mem_of_getElem? ht))) w h;have hy:=mP (x:=yy) ht;rw [←HY.out] at hy;obtain ⟨z,hz⟩:=zN (yr y (zO t));rw [←hz] at HWT hy;replace HWT:=qH HWT;have HY2:=qH hy.symm;clear hy hz ht;go_wp2_with (refine yL gx hX.out Tryz.underlying30 ?_)
  refine qS (HWT.out _ (HT.out.below hv)) fun W5 hb=>?_;replace hv:=za hv hb;replace hR:=qH (hR.out.below hb);replace hX:=qH (hX.out.below hb);replace HA:=qH (HA.out.below hb);clear hb HWT;go_wp2_with (refine yS gx (cS z) hX.out ?_)
  exact ⟨⟨j + 1,z,by omega,by go_num,HY2,qH (setRow_heap _ _ _ _ _ _ hX.out),qH ((setRow_other W5 gx gr _ (by omega)).trans hR.out),qH (HA.out.grown (yh W5 gx (cS z)) (fun ad e h=>by injection e with e;subst e;injection h with h;omega)),zg hv hgex _⟩,by simp [intOf];omega⟩
 case neg=>
 have hjm:j=m:=by omega
 subst hjm;have hj1:¬ (j:Int) < (j:Int):=by omega
 have HYF:=qH (show y=wD yy L by rw [HY.out,List.take_of_length_le (by rw [HM.out];exact Nat.le_refl _)]);clear HY;go_wp2_with (first | (refine yL gx hX.out Tryz.underlying30 ?_) | (refine yS gr (cS y) hR.out ?_))
 try simp only [Exit.inBlock,Exit.then]
 refine bodyPost_ret (zk (P:=Tryz.prog) rfl _ _ gr 30 (cS y) (0,0) _ rfl ?_ Tryz.underlying30 rfl (by kernel_rfl)) rfl ?_
 · exact setRow_heap _ _ _ _ _ _ hR.out
 · exact RetT.mk (by rw [H1.out,H2.out,HYF.out];rfl) (zg hv hge _)
structure Dk where
 f:Foot
 xs:List Last
 s:Style
 lg:ByteArray
def Dk.ok (d:Dk):Bool:=tL d.f d.xs d.s d.lg
def zcx:Foot:=⟨0,0,0,0⟩
def zDk:Dk:=⟨zcx,[],yy,⟨#[]⟩⟩
def newDk:Dk:=⟨⟨2500,2400,2500,3200⟩,[],⟨⟨#[99,97,108,102]⟩,⟨#[98,108,97,99,107]⟩,⟨#[]⟩,⟨#[108,101,97,116,104,101,114]⟩,40,0,0,0,false⟩,⟨#[]⟩⟩
def vC (c:Int):ByteArray:=if c=0 then ⟨#[111,107]⟩ else if c=1 then ⟨#[105,110,118,97,108,105,100]⟩ else if c=2 then ⟨#[114,97,110,103,101]⟩ else if c=3 then ⟨#[110,111,116,45,102,111,117,110,100]⟩ else if c=4 then ⟨#[101,120,105,115,116,115]⟩ else if c=5 then ⟨#[102,117,108,108]⟩ else if c=6 then ⟨#[115,116,97,116,101]⟩ else if c=7 then ⟨#[115,121,110,116,97,120]⟩ else if c=8 then ⟨#[102,111,114,109,97,116]⟩ else if c=9 then ⟨#[99,108,97,115,104]⟩ else if c=10 then ⟨#[116,105,103,104,116]⟩ else ⟨#[]⟩
def xw (c:Int):ByteArray:=⟨#[101,114,114,111,114,32]⟩ ++ vC c
def okW (n:Nat):ByteArray:=⟨#[111,107,32]⟩ ++ zm n
def zI:ByteArray:=⟨#[97,108,116,101,114]⟩
def zw:ByteArray:=⟨#[99,108,97,117,115,101]⟩
def zJ:ByteArray:=⟨#[101,110,116,101,114]⟩
def yu:ByteArray:=⟨#[102,105,116]⟩
def ya:ByteArray:=⟨#[102,111,111,116]⟩
def yb:ByteArray:=⟨#[108,97,115,116]⟩
def zQ:ByteArray:=⟨#[108,97,115,116,115]⟩
def yE:ByteArray:=⟨#[108,111,103]⟩
def yc:ByteArray:=⟨#[110,101,101,100]⟩
def zL:ByteArray:=⟨#[114,97,105,115,101]⟩
def zM:ByteArray:=⟨#[115,116,121,108,101]⟩
def wf:List ByteArray:=[zI,zw,zJ,yu,ya,yb,zQ,yE,yc,zL,zM]
def ye (w:ByteArray):ByteArray:=if w=ya then ⟨#[119]⟩ else if w=yc then ⟨#[119]⟩ else if w=yb then ⟨#[43]⟩ else if w=zM then ⟨#[43]⟩ else if w=zw then ⟨#[43]⟩ else if w=yu then ⟨#[110,110,110]⟩ else if w=zI then ⟨#[119,119,119]⟩ else if w=zL then ⟨#[110,110,110,110]⟩ else if w=zJ then ⟨#[110,119,110]⟩ else ⟨#[]⟩
def yx (ws:List ByteArray):ByteArray:=yA ⟨#[32]⟩ (ws.drop 1)
def vZ (l:List Int):ByteArray:=yA ⟨#[32]⟩ (xL l)
def zf (ws:List ByteArray) (k:Nat):ByteArray:=ws.getD k ⟨#[]⟩
def yR (ns:List Int) (k:Nat):Int:=ns.getD k 0
abbrev xX:=Dk × List ByteArray × Int
def noD (d:Dk) (c:Int):xX:=(d,[],c)
def vd (d:Dk) (t:ByteArray):xX:=match xk t with
 | some f=>({ d with f:=f },[yZ f],0)
 | none=>noD d 7
def xt (d:Dk) (t:ByteArray):xX:=match wc t with
 | some x=>if (yO d.xs x).2=0 then ({ d with xs:=(yO d.xs x).1 },[uW d.f (yO d.xs x).1.length],0) else noD d (yO d.xs x).2
 | none=>noD d 7
def vK (d:Dk):xX:=(d,d.xs.map xS ++ [okW d.xs.length],0)
def uC (d:Dk) (a b c:Int):xX:=if (xE d.xs d.f a b c).2=0 then (d,[((d.xs[(xE d.xs d.f a b c).1.toNat]?).getD ug).name],0) else noD d (xE d.xs d.f a b c).2
def atD (d:Dk) (nm:ByteArray):Last:=(d.xs[(yv d.xs nm).1.toNat]?).getD ug
def vP (d:Dk) (nm:ByteArray):xX:=if (yv d.xs nm).2=0 then (d,[vZ (wG (atD d nm) d.f)],0) else noD d (yv d.xs nm).2
def xC (d:Dk) (nm t:ByteArray):xX:=match wn t with
 | none=>noD d 7
 | some (k,a)=>if (yv d.xs nm).2=0 then
    (if (xY (atD d nm) k a).2=0 then ({ d with xs:=d.xs.set (yv d.xs nm).1.toNat (xY (atD d nm) k a).1 },[ltB (xY (atD d nm) k a).1],0) else noD d (xY (atD d nm) k a).2)
   else noD d (yv d.xs nm).2
def wC (d:Dk) (t:ByteArray):xX:=if rdC t=0 then ({ d with s:=rdS t },[xQ (rdS t)],0) else noD d (rdC t)
def xV (d:Dk) (t:ByteArray):xX:=if wk d.s t=0 then ({ d with s:=yW d.s t },[xQ (yW d.s t)],0) else noD d (wk d.s t)
def vo (d:Dk) (a b c e:Int):xX:=if (xy a b c e).2=0 then (d,[vZ (xy a b c e).1],0) else noD d (xy a b c e).2
def vj (d:Dk) (a:Int) (w:ByteArray) (v:Int):xX:=if (xK d.lg ⟨a,w,v⟩).2=0 then ({ d with lg:=(xK d.lg ⟨a,w,v⟩).1 },[zm (uI (xK d.lg ⟨a,w,v⟩).1 w).sum],0) else noD d (xK d.lg ⟨a,w,v⟩).2
def ss (d:Dk):xX:=(d,(rdL d.lg).1.map yd ++ [okW (rdL d.lg).1.length],0)
def yj (d:Dk) (ws:List ByteArray) (ns:List Int):xX:=
 if zf ws 0=ya then vd d (yx ws)
 else if zf ws 0=yb then xt d (yx ws)
 else if zf ws 0=zQ then vK d
 else if zf ws 0=yu then uC d (yR ns 0) (yR ns 1) (yR ns 2)
 else if zf ws 0=yc then vP d (zf ws 1)
 else if zf ws 0=zI then xC d (zf ws 1) (zf ws 2 ++ ⟨#[32]⟩ ++ zf ws 3)
 else if zf ws 0=zM then wC d (yx ws)
 else if zf ws 0=zw then xV d (yx ws)
 else if zf ws 0=zL then vo d (yR ns 0) (yR ns 1) (yR ns 2) (yR ns 3)
 else if zf ws 0=zJ then vj d (yR ns 0) (zf ws 2) (yR ns 1)
 else ss d
def xI (ws:List ByteArray):List UInt8→Nat→Option (List Int)
 | [],_=>some []
 | c :: r,k=>if c=110 then (if okB (zf ws k)=true then (xI ws r (k + 1)).map (zq (zf ws k) :: ·) else none) else xI ws r (k + 1)
def wu (ws:List ByteArray) (fm:ByteArray):Bool:=decide (fm.size + 1≤ws.length) && (decide (fm=⟨#[43]⟩) || decide (ws.length≤fm.size + 1))
def wt (d:Dk) (ws:List ByteArray):xX:=match xI ws (ye (zf ws 0)).data.toList 1 with
 | none=>(d,[xw 7],0)
 | some ns=>if (yj d ws ns).2.2=0 then ((yj d ws ns).1,(yj d ws ns).2.1,0) else (d,[xw (yj d ws ns).2.2],0)
def isD (ws:List ByteArray):Bool:=xa (zf ws 0) wf && wu ws (ye (zf ws 0))
def wK (d:Dk) (line:ByteArray):xX:=
 if d.ok=true then (if isD (zi 32 line)=true then wt d (zi 32 line) else (zDk,[],7)) else (zDk,[],1)
theorem ym {d:Dk} (h:d.ok=true):yo d.f=true∧yz d.xs=true∧xb d.s=true∧cdL d.lg=0:=by
 unfold Dk.ok tL at h;simp only [Bool.and_eq_true,decide_eq_true_eq] at h;exact ⟨h.1.1.1,h.1.1.2,h.1.2,h.2⟩
theorem qF {d:Dk} (h1:yo d.f=true) (h2:yz d.xs=true) (h3:xb d.s=true) (h4:cdL d.lg=0):d.ok=true:=by
 unfold Dk.ok tL;simp only [h1,h2,h3,h4,decide_true,Bool.and_self]
theorem zcr {s:ByteArray} (h:xG s=false):rdC s=5:=by unfold rdC;rw [if_neg (by rw [h];simp)]
theorem zbY {s:ByteArray} (h:xG s=true) (ht:tro (zi 59 s)≠[]):rdC s=7:=by unfold rdC;rw [if_pos h,if_neg ht]
theorem zcs {s:ByteArray} (h:xG s=true) (ht:tro (zi 59 s)=[]):rdC s=0∧xb (rdS s)=true:=by
 refine ⟨by unfold rdC;rw [if_pos h,if_pos ht],?_⟩;unfold rdS;rw [if_pos h,if_pos ht];exact zaf ht
theorem rL (v:Int):(10:UInt8) ∉ Lib.itoa v:=by
 have h:=xr v;have hd:=(uL v.natAbs).1;have key:∀ l:List UInt8,l.all yF=true→(10:UInt8) ∉ l:=by
  intro l hl hm;have:=List.all_eq_true.1 hl _ hm
  revert this;decide
 intro hm;rw [←h.1] at hd;cases hv:Lib.itoa v with
 | nil=>rw [hv] at hm;cases hm
 | cons c r=>
   rw [hv] at hm hd;simp only [yp] at hd;split at hd
   · rename_i hc;rcases List.mem_cons.1 hm with h1 | h1
     · rw [hc] at h1;revert h1;decide
     · exact key _ hd h1
   · exact key _ hd hm
theorem jR {s:ByteArray} (h:zo s=true):(10:UInt8) ∉ s.data.toList:=by
 intro hm;simp only [zo,sG,Bool.and_eq_true] at h;have:=List.all_eq_true.1 h.2 _ hm
 revert this;decide
theorem mI {x:Entry} (h:yX x=true):zo x.what=true:=by
 simp only [yX,Bool.and_eq_true] at h;exact h.1.2
def rM (s:Int) (x:Entry):List UInt8:=[32].intercalate [Lib.itoa x.day,x.what.data.toList,Lib.itoa x.value,Lib.itoa s]
theorem nG (s:Int) (x:Entry):(yG s x).data.toList=rM s x ++ [10]:=by
 simp only [yG,yd,zm,vT];simp [rM,List.intercalate]
theorem cj {s:Int} {x:Entry} (h:yX x=true):(10:UInt8) ∉ rM s x:=by
 have hn:=jR (mI h);have h1:=rL x.day;have h2:=rL x.value;have h3:=rL s;rw [Array.mem_toList_iff] at hn;simp only [rM,List.intercalate];simp;exact ⟨h1,hn,h2,h3⟩
theorem oV:∀ (l r:List UInt8),(10:UInt8) ∉ l→zY (l ++ 10 :: r)=l.length:=by
 intro l
 induction l with
 | nil=>intro r _;rw [List.nil_append,tV,if_pos rfl];rfl
 | cons b t ih=>
   intro r h;simp only [List.mem_cons,not_or] at h;rw [List.cons_append,tV,if_neg (fun e=>h.1 e.symm),ih r h.2,List.length_cons]
theorem cm {s:Int} {x:Entry} (h:yX x=true) (h0:0≤s) (h1:s≤65518):vN (rM s x)=some (x,s):=by
 obtain ⟨d0,d1,v0,v1,_⟩:=ue h;have hs:spl 32 (rM s x)=[Lib.itoa x.day,x.what.data.toList,Lib.itoa x.value,Lib.itoa s]:=by
  refine rE _ (by simp) ?_;intro p hp;simp only [List.mem_cons,List.not_mem_nil,or_false] at hp;rcases hp with rfl | rfl | rfl | rfl
  · exact tU _
  · exact pC (mI h)
  · exact tU _
  · exact tU _
 have e1:=vX (v:=x.day) (by omega) (by omega);have e2:=vX (v:=x.value) (by omega) (by omega);have e3:=vX (v:=s) (by omega) (by omega);have hx:(⟨xi (Lib.itoa x.day),⟨x.what.data.toList.toArray⟩,xi (Lib.itoa x.value)⟩:Entry)=x:=by
  rw [(xr _).2,(xr _).2]
 unfold vN;rw [hs];simp only [e1,e2,e3,hx,h,Bool.and_self,if_true,(xr s).2]
theorem bc {es:List Entry} {st:Int} {x:Entry} (hx:yX x=true) (hd:xx es≤x.day) (r:List UInt8):xP ((yG (stp st x) x).data.toList ++ r) es st=some (x,(yG (stp st x) x).size):=by
 have hb:=ri st x;have hl:=nG (stp st x) x;have hz:(yG (stp st x) x).size=(rM (stp st x) x).length + 1:=by rw [←zv,hl];simp
 have hn:zY ((yG (stp st x) x).data.toList ++ r)=(rM (stp st x) x).length:=by
  rw [hl,List.append_assoc];exact oV _ r (cj hx)
 unfold xP;rw [hn,if_pos (by rw [hl];simp)];have ht:((yG (stp st x) x).data.toList ++ r).take (rM (stp st x) x).length=rM (stp st x) x:=by rw [hl,List.append_assoc,List.take_left]
 rw [ht,cm hx hb.1 hb.2];simp only [];rw [if_pos (by exact ⟨hd,trivial⟩),hz]
theorem ba (es:List Entry) (st:Int):xP [] es st=none:=by unfold xP;rw [if_neg (by simp)]
theorem lY (out:List ByteArray) (x:ByteArray):out.any (fun z=>z.toList == x.toList)=Lib.containsS out x:=by
 rw [Bool.eq_iff_iff,Lib.containsS_iff,List.any_eq_true];constructor
 · rintro ⟨z,hz,h⟩;rw [yJ,decide_eq_true_eq] at h;rw [←h];exact hz
 · intro h;exact ⟨x,h,by simp⟩
theorem containsS_iff (out:List ByteArray) (x:ByteArray):Lib.containsS out x=true ↔ x ∈ out:=by
 rw [←lY,List.any_eq_true];constructor
 · rintro ⟨z,hz,h⟩;rw [beq_iff_eq,ph] at h;subst h;exact hz
 · intro h;exact ⟨x,h,by simp⟩
theorem cZ {l r:List UInt8} {es:List Entry} {st:Int} {e:Entry} {m:Nat} (h:xP l es st=some (e,m)):xP (l ++ r) es st=some (e,m)∧1≤m∧m≤l.length:=by
 unfold xP at h;by_cases hn:zY l < l.length
 · rw [if_pos hn] at h;have hat:=mt l hn;obtain ⟨a,b,hab⟩:∃ a b,l=a ++ 10 :: b∧a.length=zY l∧(10:UInt8) ∉ a:=by
    refine ⟨l.take (zY l),l.drop (zY l + 1),?_,by rw [List.length_take];omega,?_⟩
    · have e1:=List.take_append_drop (zY l) l;rw [List.drop_eq_getElem_cons hn] at e1;have e2:l[zY l]=10:=by
       have:=List.getElem?_eq_getElem hn;rw [hat] at this;injection this with this;exact this.symm
      rw [e2] at e1;exact e1.symm
    · intro hm;obtain ⟨j,hj⟩:=List.getElem?_of_mem hm;rw [List.getElem?_take] at hj;split at hj
      · exact gJ l j 10 (by assumption) hj rfl
      · cases hj
   obtain ⟨hl,ha,hf⟩:=hab;have h2:zY (l ++ r)=zY l:=by
    rw [hl,List.append_assoc,List.cons_append,oV a _ hf,oV a _ hf]
   have ht:(l ++ r).take (zY l)=l.take (zY l):=List.take_append_of_le_length (by omega);have hm:m=zY l + 1:=by
    revert h
    cases vN (l.take (zY l)) with
    | none=>intro h;cases h
    | some p=>
      obtain ⟨e',s'⟩:=p;simp only [];intro h;split at h
      · injection h with h;injection h with _ h;exact h.symm
      · cases h
   refine ⟨?_,by omega,by omega⟩;unfold xP;rw [h2,if_pos (by rw [List.length_append];omega),ht];exact h
 · rw [if_neg hn] at h;cases h
theorem gU (l r:List UInt8) (k:Nat):∀ (f:Nat) (es:List Entry) (st:Int) (n:Nat) (es':List Entry) (st':Int),rdF l f es st n=(es',st',l.length)→n≤l.length→1 + l.length - n≤f→∃ g,k + 1≤g∧rdF (l ++ r) (f + k) es st n=rdF (l ++ r) g es' st' l.length
 | 0,es,st,n,es',st',h,h1,h2=>by omega
 | f + 1,es,st,n,es',st',h,h1,h2=>by
   rw [rdF] at h;cases hs:xP (l.drop n) es st with
   | none=>
     rw [hs] at h;simp only [Prod.mk.injEq] at h;obtain ⟨rfl,rfl,rfl⟩:=h;exact ⟨f + 1 + k,by omega,rfl⟩
   | some p=>
     obtain ⟨e,m⟩:=p;rw [hs] at h;simp only [] at h;obtain ⟨h3,h4,h5⟩:=cZ (r:=r) hs;rw [List.length_drop] at h5;obtain ⟨g,hg,he⟩:=gU l r k f _ _ _ _ _ h (by omega) (by omega);refine ⟨g,hg,?_⟩;rw [←he,show f + 1 + k=(f + k) + 1 by omega,rdF,List.drop_append_of_le_length h1,h3]
theorem ms {s:ByteArray} {x:Entry} (h0:cdL s=0) (h:(xK s x).2=0):cdL (xK s x).1=0∧rdL (xK s x).1=((rdL s).1 ++ [x],stp (rdL s).2.1 x,(xK s x).1.size)∧yX x=true∧(xK s x).1.size≤4000:=by
 have hz:(rdL s).2.2=s.size∧¬ 4000 < s.size:=by
  by_cases h4:4000 < s.size
  · rw [oJ h4] at h0;cases h0
  · by_cases h5:(rdL s).2.2=s.size
    · exact ⟨h5,h4⟩
    · rw [ml h4 h5] at h0;cases h0
 obtain ⟨hr,_⟩:=hz;have hR:rdL s=((rdL s).1,(rdL s).2.1,s.size):=by rw [←hr]
 rw [mg h0 hR] at h ⊢;generalize (rdL s).1=es at *;generalize (rdL s).2.1=st at *;cases he:yX x
 · rw [oH he] at h;cases h
 by_cases hd:x.day < xx es
 · rw [oG he hd] at h;cases h
 by_cases hb:4000 < (s ++ yG (stp st x) x).size
 · rw [qd he hd hb] at h;cases h
 rw [qe he hd hb];have hl:s.data.toList.length=s.size:=zv s;have hsz:(s ++ yG (stp st x) x).size=s.size + (yG (stp st x) x).size:=ByteArray.size_append' _ _;have hone:1≤(yG (stp st x) x).size:=by
  have:(yG (stp st x) x).data.toList.length=(yG (stp st x) x).size:=zv _;rw [←this,nG];simp
 have hrd:rdL (s ++ yG (stp st x) x)=(es ++ [x],stp st x,(s ++ yG (stp st x) x).size):=by
  unfold rdL at hR ⊢;rw [vT,hsz];rw [←hl] at hR;obtain ⟨g,hg,heq⟩:=gU s.data.toList (yG (stp st x) x).data.toList (yG (stp st x) x).size (s.data.toList.length + 1) [] 0 0 es st hR (by omega) (by omega);rw [←hl,show s.data.toList.length + (yG (stp st x) x).size + 1=s.data.toList.length + 1 + (yG (stp st x) x).size by omega,heq];obtain ⟨g2,rfl⟩:∃ g2,g=g2 + 1:=⟨g - 1,by omega⟩
  have hst:=bc (es:=es) (st:=st) he (by omega) [];rw [List.append_nil] at hst;rw [rdF,List.drop_append_of_le_length (Nat.le_refl _),List.drop_length,List.nil_append,hst];simp only [];obtain ⟨g3,rfl⟩:∃ g3,g2=g3 + 1:=⟨g2 - 1,by omega⟩
  rw [rdF,List.drop_eq_nil_of_le (by rw [List.length_append,zv (yG (stp st x) x)];exact Nat.le_refl _),ba]
 exact ⟨kf hb (by rw [hrd]),hrd,rfl,Nat.le_of_not_lt hb⟩
theorem aq {d:Dk} (h:d.ok=true) {t:ByteArray} (hc:(vd d t).2.2=0):(vd d t).1.ok=true∧(vd d t).2.1≠[]:=by
 obtain ⟨_,h2,h3,h4⟩:=ym h;unfold vd at hc ⊢;cases hr:xk t with
 | none=>rw [hr] at hc;cases hc
 | some f=>exact ⟨qF (se hr).2 h2 h3 h4,by simp⟩
theorem kO {d:Dk} (h:d.ok=true) {t:ByteArray} (hc:(xt d t).2.2=0):(xt d t).1.ok=true∧(xt d t).2.1≠[]:=by
 obtain ⟨h1,h2,h3,h4⟩:=ym h;unfold xt at hc ⊢;cases hr:wc t with
 | none=>rw [hr] at hc;cases hc
 | some x=>
   rw [hr] at hc;simp only [] at hc ⊢;by_cases ha:(yO d.xs x).2=0
   · rw [if_pos ha];exact ⟨qF h1 (lW ha).1 h3 h4,by simp⟩
   · rw [if_neg ha] at hc;exact absurd hc ha
theorem ci {d:Dk} (h:d.ok=true):(vK d).1.ok=true∧(vK d).2.1≠[]:=⟨h,by simp [vK]⟩
theorem za6 {d:Dk} (h:d.ok=true) {a b c:Int} (hc:(uC d a b c).2.2=0):(uC d a b c).1.ok=true∧(uC d a b c).2.1≠[]:=by
 unfold uC at hc ⊢;by_cases hb:(xE d.xs d.f a b c).2=0
 · rw [if_pos hb];exact ⟨h,by simp⟩
 · rw [if_neg hb] at hc;exact absurd hc hb
theorem aT {d:Dk} (h:d.ok=true) {nm:ByteArray} (hc:(vP d nm).2.2=0):(vP d nm).1.ok=true∧(vP d nm).2.1≠[]:=by
 unfold vP at hc ⊢;by_cases hb:(yv d.xs nm).2=0
 · rw [if_pos hb];exact ⟨h,by simp⟩
 · rw [if_neg hb] at hc;exact absurd hc hb
theorem lc {xs:List Last} {nm:ByteArray} (h:(yv xs nm).2=0):(yv xs nm).1=(lbN nm xs:Int)∧(∃ x,xs[lbN nm xs]?=some x∧x.name=nm)∧zo nm=true:=by
 unfold yv at h ⊢;split at h
 · rename_i h1;rw [if_pos h1];split at h
   · rename_i h2;rw [if_pos h2];split at h
     · rename_i h3;rw [if_pos h3];exact ⟨rfl,za8 h3,h2⟩
     · cases h
   · cases h
 · cases h
theorem ni {d:Dk} {nm:ByteArray} (h:(yv d.xs nm).2=0):d.xs[(yv d.xs nm).1.toNat]?=some (atD d nm)∧(yv d.xs nm).1=((yv d.xs nm).1.toNat:Int):=by
 obtain ⟨h1,⟨x,hx,_⟩,_⟩:=lc h;unfold atD;rw [h1,Int.toNat_natCast,hx];exact ⟨rfl,rfl⟩
theorem eN {d:Dk} (h:d.ok=true) {nm t:ByteArray} (hc:(xC d nm t).2.2=0):(xC d nm t).1.ok=true∧(xC d nm t).2.1≠[]:=by
 obtain ⟨h1,h2,h3,h4⟩:=ym h;unfold xC at hc ⊢;cases hr:wn t with
 | none=>rw [hr] at hc;cases hc
 | some p=>
   obtain ⟨k,a⟩:=p;rw [hr] at hc;simp only [] at hc ⊢;by_cases hn:(yv d.xs nm).2=0
   · rw [if_pos hn] at hc ⊢;by_cases ha:(xY (atD d nm) k a).2=0
     · rw [if_pos ha];obtain ⟨e1,e2⟩:=rk ha;refine ⟨qF h1 ?_ h3 h4,by simp⟩
       show yz (d.xs.set _ _)=true
       rw [e1];exact zbi h2 (ni hn).1 e2 (pi _ _ _)
     · rw [if_neg ha] at hc;exact absurd hc ha
   · rw [if_neg hn] at hc;exact absurd hc hn
theorem rI {d:Dk} (h:d.ok=true) {t:ByteArray} (hc:(wC d t).2.2=0):(wC d t).1.ok=true∧(wC d t).2.1≠[]:=by
 obtain ⟨h1,h2,h3,h4⟩:=ym h;unfold wC at hc ⊢;by_cases hr:rdC t=0
 · rw [if_pos hr];refine ⟨qF h1 h2 ?_ h4,by simp⟩;cases hk:xG t
   · rw [zcr hk] at hr;cases hr
   · by_cases ht:tro (zi 59 t)=[]
     · exact (zcs hk ht).2
     · rw [zbY hk ht] at hr;cases hr
 · rw [if_neg hr] at hc;exact absurd hc hr
theorem sz {d:Dk} (h:d.ok=true) {t:ByteArray} (hc:(xV d t).2.2=0):(xV d t).1.ok=true∧(xV d t).2.1≠[]:=by
 obtain ⟨h1,h2,h3,h4⟩:=ym h;unfold xV at hc ⊢;by_cases hr:wk d.s t=0
 · rw [if_pos hr];refine ⟨qF h1 h2 ?_ h4,by simp⟩
   show xb (yW d.s t)=true
   unfold wk at hr;rw [if_pos h3] at hr;split at hr
   · rename_i ho;unfold yW;rw [if_pos h3,if_pos ho];unfold uj at ho;simp only [Bool.and_eq_true,decide_eq_true_eq] at ho;exact zbv h3 ho.2
   · cases hr
 · rw [if_neg hr] at hc;exact absurd hc hr
theorem cI {d:Dk} (h:d.ok=true) {a b c e:Int} (hc:(vo d a b c e).2.2=0):(vo d a b c e).1.ok=true∧(vo d a b c e).2.1≠[]:=by
 unfold vo at hc ⊢;by_cases hr:(xy a b c e).2=0
 · rw [if_pos hr];exact ⟨h,by simp⟩
 · rw [if_neg hr] at hc;exact absurd hc hr
theorem df {d:Dk} (h:d.ok=true) {a:Int} {w:ByteArray} {v:Int} (hc:(vj d a w v).2.2=0):(vj d a w v).1.ok=true∧(vj d a w v).2.1≠[]:=by
 obtain ⟨h1,h2,h3,h4⟩:=ym h;unfold vj at hc ⊢;by_cases hr:(xK d.lg ⟨a,w,v⟩).2=0
 · rw [if_pos hr];exact ⟨qF h1 h2 h3 (ms h4 hr).1,by simp⟩
 · rw [if_neg hr] at hc;exact absurd hc hr
theorem zbl {d:Dk} (h:d.ok=true):(ss d).1.ok=true∧(ss d).2.1≠[]:=⟨h,by simp [ss]⟩
theorem za3 {d:Dk} (h:d.ok=true) (ws:List ByteArray) (ns:List Int) (hc:(yj d ws ns).2.2=0):(yj d ws ns).1.ok=true∧(yj d ws ns).2.1≠[]:=by
 unfold yj at hc ⊢;by_cases hFoot:zf ws 0=ya
 · rw [if_pos hFoot] at hc ⊢;exact aq h hc
 rw [if_neg hFoot] at hc ⊢;by_cases hLast:zf ws 0=yb
 · rw [if_pos hLast] at hc ⊢;exact kO h hc
 rw [if_neg hLast] at hc ⊢;by_cases hLasts:zf ws 0=zQ
 · rw [if_pos hLasts] at hc ⊢;exact ci h
 rw [if_neg hLasts] at hc ⊢;by_cases hFit:zf ws 0=yu
 · rw [if_pos hFit] at hc ⊢;exact za6 h hc
 rw [if_neg hFit] at hc ⊢;by_cases hNeed:zf ws 0=yc
 · rw [if_pos hNeed] at hc ⊢;exact aT h hc
 rw [if_neg hNeed] at hc ⊢;by_cases hAlter:zf ws 0=zI
 · rw [if_pos hAlter] at hc ⊢;exact eN h hc
 rw [if_neg hAlter] at hc ⊢;by_cases hStyle:zf ws 0=zM
 · rw [if_pos hStyle] at hc ⊢;exact rI h hc
 rw [if_neg hStyle] at hc ⊢;by_cases hClause:zf ws 0=zw
 · rw [if_pos hClause] at hc ⊢;exact sz h hc
 rw [if_neg hClause] at hc ⊢;by_cases hRaise:zf ws 0=zL
 · rw [if_pos hRaise] at hc ⊢;exact cI h hc
 rw [if_neg hRaise] at hc ⊢;by_cases hEnter:zf ws 0=zJ
 · rw [if_pos hEnter] at hc ⊢;exact df h hc
 rw [if_neg hEnter] at hc ⊢;exact zbl h
theorem mx {d:Dk} (h:d.ok=true) (ws:List ByteArray):(wt d ws).1.ok=true∧(wt d ws).2.1≠[]∧(wt d ws).2.2=0:=by
 unfold wt;split
 · exact ⟨h,by simp,rfl⟩
 · rename_i ns _;by_cases hc:(yj d ws ns).2.2=0
   · rw [if_pos hc];obtain ⟨e1,e2⟩:=za3 h ws ns hc;exact ⟨e1,e2,rfl⟩
   · rw [if_neg hc];exact ⟨h,by simp,rfl⟩
theorem zaY {d:Dk} (h:d.ok=true) (line:ByteArray):((wK d line).2.2=7∧isD (zi 32 line)=false)∨((wK d line).2.2=0∧isD (zi 32 line)=true∧wK d line=wt d (zi 32 line)∧(wK d line).1.ok=true∧(wK d line).2.1≠[]):=by
 unfold wK;rw [if_pos h];cases hi:isD (zi 32 line)
 · left;exact ⟨rfl,rfl⟩
 · right;obtain ⟨e1,e2,e3⟩:=mx h (zi 32 line);exact ⟨e3,rfl,rfl,e1,e2⟩
end Go.Proofs.YtpiehlfffjhoaaaGreatDoor
