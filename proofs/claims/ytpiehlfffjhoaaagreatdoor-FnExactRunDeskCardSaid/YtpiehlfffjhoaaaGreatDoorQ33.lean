/- Lemmas for the law on the console: the parts CoP,CrC. -/
import Derived.Test.YtpiehlfffjhoaaaGreatDoorQ1
import Derived.Test.YtpiehlfffjhoaaaGreatDoorQ0
import Derived.Test.YtpiehlfffjhoaaaGreatDoorQ32
import Derived.Test.YtpiehlfffjhoaaaGreatDoorQ26
import Derived.Test.YtpiehlfffjhoaaaGreatDoorQ16
import Derived.Deep.CutBlock
import Derived.Deep.DeepCutAuto
import Derived.Test.YtpiehlfffjhoaaaGreatDoorQ27
import Derived.Deep.Upon
namespace Go.Proofs.YtpiehlfffjhoaaaGreatDoor
open Go.RowKit
set_option maxRecDepth 100000
set_option maxHeartbeats 16000000
theorem zck:xw 5=⟨#[101,114,114,111,114,32,102,117,108,108]⟩:=by decide
theorem ox (L:List ByteArray) (h:0 < L.length):(L[L.length - 1]?=some ⟨#[]⟩∧ux L=L.take (L.length - 1))∨(∃ y,L[L.length - 1]?=some y∧y≠⟨#[]⟩∧ux L=L):=by
 unfold ux;rw [List.getLast?_eq_getElem?];by_cases hy:L[L.length - 1]?=some ⟨#[]⟩
 · exact .inl ⟨hy,by rw [if_pos hy,List.dropLast_eq_take]⟩
 · refine .inr ⟨L[L.length - 1]'(by omega),List.getElem?_eq_getElem (by omega),fun e=>hy ?_,by rw [if_neg hy]⟩;rw [List.getElem?_eq_getElem (by omega),e]
theorem fo {P:Program} {o:Oper} {a:Act} {K:Act→World→Prop} {Q:Exit→Act→World→Prop} (w:World) (s x:Operand) (t e:TypeId)
 (ho:o.op=.call { callee:=.builtin .append,args:=#[s,x],argTypes:=#[t,t] })
 (i:TypeInfo) (z:Value) (size bytes:Nat) (ht:P.underlying t=some (.slice e)) (hi:P.info? e=some i) (hz:i.zero=some z)
 (hsize:i.size=size) (hby:i.bytes=bytes) (hzs:z.cells.size=size) (hsz:0 < size)
 (base:Nat) (A:Option Addr) (n cp:Nat) (cs:List Value) (hs:a.eval s=.slice A n cp) (hown:w.ownsRow base e size (.slice A n cp) n cs)
 (ad:Addr) (m c:Nat) (C:List Value) (hm:0 < m) (hx:a.eval x=.slice (some ad) m c) (hA:Arr w (some ad) C)
 (hl:C.length=m * size) (h1:∀ u ∈ C,u.oneCell'=true) (h63:n + m≤maxLen) (hbytes:(n + m) * bytes≤140737488355328) (hbase:base≤w.heap.size)
 (h:∀ g c' w',w'.ownsRow base e size (.slice (some ⟨g,0,none⟩) (n + m) c') (n + m) (cs ++ C)→w.grownBy w' (A.map (·.block))→(A=some ⟨g,0,none⟩∨g=w.heap.size)→K (a.put o.dst (.slice (some ⟨g,0,none⟩) (n + m) c')) w') :
 o.wp P a w K Q:=by
 obtain ⟨g,c',w',hr,h2,h3,h4⟩:=uG (P:=P) w base t o.type e i z size bytes ht hi hz hsize hby hzs hsz A n cp cs hown ad m c C hm hl (fun j u hu=>by
  obtain ⟨ad',e',_,hc⟩:=hA (by have:=(List.getElem?_eq_some_iff.1 hu).1;omega);injection e' with e';subst e';exact hc j u hu) h1 h63 hbytes hbase
 unfold Oper.wp execOp;simp only [ho,resolve,invoke,builtin,Sem.run_bind,Sem.run_pure,Result.andThen_ok,List.map_toArray,List.map_cons,List.map_nil,hs,hx,hr];exact h g c' w' h2 h3 h4
theorem nQ (L:List ByteArray):∀ u ∈ zd zn L,u.oneCell'=true:=by
 intro u hu;rw [yH] at hu;obtain ⟨y,_,rfl⟩:=List.mem_map.1 hu;rfl
theorem eJ (t:ByteArray) (hz:t.size≤1048576) (w:World) (hT:Tabs w) (hC:ChgN w) (hE:CdN w):Calls Tryz.prog 12 #[.string t] w (Ret (.string (rf t)) w):=by
 obtain ⟨i0,hi0,hz0,hz1,hz2⟩:=info_parts (P:=Tryz.prog) (e:=9) (z:=.string ByteArray.empty) (size:=1) (bytes:=16) vq;have HT:=qH hT;have HC:=qH hC;have HE:=qH hE;have HSP:=fun w h=>sP 10 t (by omega) w h;have hm0:=qN 10 t;have hm1:=Nat.le_trans (tK 10 t) (Nat.succ_le_succ hz);have hls:=fun y (h:y ∈ zi 10 t)=>Nat.le_trans (wj h) hz;have hdc:=ox (zi 10 t) hm0;have hrt:rf t=lnT (xN 60 newDk (ux (zi 10 t))):=rfl;obtain ⟨L,hL⟩:=zN (zi 10 t);rw [←hL] at HSP hm0 hm1 hls hdc hrt;obtain ⟨m,hm⟩:=zN L.length;rw [←hm] at HSP hm0 hm1 hdc;have HML:Hid (L.length=m):=qH hm.symm;replace HSP:=qH HSP;have HLS:=qH hls;have HDC:=qH hdc;have HRT:=qH hrt;clear hT hC hE hL hm hls hdc hrt;go_enter Tryz.func12,Tryz.ntmps12;go_wp2_with fail;refine qS (HSP.out _ HT.out) fun W1 hW1=>?_;obtain ⟨g1,hg1⟩:=zN w.heap.size;have HAL:Hid (Arr W1 (some ⟨g1,0,none⟩) (zd zn L)):=qH (by rw [hW1,hg1,yH];exact vf _ _ _);have hv:Below w.heap.size w W1:=by rw [hW1];exact zc (Below.refl _ _) _
 have hg1w:w.heap.size≤g1:=by omega
 have hg1l:g1 < W1.heap.size:=by rw [hW1,hg1,World.size_alloc];omega
 rw [←hg1];clear hW1 hg1 HSP;obtain ⟨mp,hmp⟩:=zN (m - 1);have hmp1:(m:Int) - 1=(mp:Int):=by omega
 have hmp2:(mp:Int) < (m:Int):=by omega
 have hmp3:(0:Int)≤(mp:Int):=by omega
 have hmp4:(mp:Int)≤(m:Int):=by omega
 have hmp5:mp≤m:=by omega
 have HMP:=qH hmp;have HDC2:=HDC.out;rw [←hmp] at HDC2;have HDC3:=qH HDC2;clear HDC HDC2 hmp;obtain ⟨yl,hyl⟩:=zx (xs:=L) (k:=mp) (by rw [HML.out];omega);have x0:=zW HAL.out hyl;have HYL:=qH hyl;clear hyl
 go_upto_if 24 with fail
 go_cut [3] (fun v wx=>∃ (m2:Nat) (M:List ByteArray),v=.slice (some ⟨g1,0,none⟩) m2 m∧M.length=m2∧m2≤m∧Hid (M=ux L)∧Hid (∀ y ∈ M,y ∈ L)∧Hid (Arr wx (some ⟨g1,0,none⟩) (zd zn M))∧wx=W1)
 case first=>
  have HYE:yl.toList.isEmpty=decide (yl.size=0):=xH yl;rcases HDC3.out with ⟨h1,h2⟩ | ⟨y,h1,h2,h3⟩
  · rw [HYL.out] at h1;injection h1 with h1;subst h1;have HM:Hid (ux L=L.take mp):=qH h2;have hye:(⟨#[]⟩:ByteArray).toList.isEmpty=true:=HYE.trans (by decide);clear HYL HYE h2;(try rw [hye]);go_wp2_with fail
    go_meet
    exact ⟨mp,L.take mp,rfl,by rw [List.length_take,HML.out];omega,hmp5,qH HM.out.symm,qH (fun y hy=>List.mem_of_mem_take hy),qH (by rw [yH,List.map_take,←yH];exact HAL.out.take mp),rfl⟩
  · rw [HYL.out] at h1;injection h1 with h1;subst h1;rw [decide_eq_false (fun e=>h2 (tl e))] at HYE;have HM:Hid (ux L=L):=qH h3;clear HYL h2 h3;(try rw [HYE]);go_wp2_with fail
    go_meet
    exact ⟨m,L,rfl,HML.out,Nat.le_refl _,qH HM.out.symm,qH (fun y hy=>hy),HAL,rfl⟩
 case rest=>
 obtain ⟨m2,M,rfl,hM2,hm2,HM,HMS,HAM,hw⟩:=hcut;rw [hw] at HAM ⊢;clear hw x0 HYL HDC3 HAL;have HM2:=qH hM2;clear hM2;go_wp2_with fail;refine qS (eG _) fun W2 hb=>?_;replace HAM:=qH (HAM.out.below hb);have hg1l2:=Nat.lt_of_lt_of_le hg1l hb.size;replace hv:=za hv hb;clear hb;obtain ⟨b0,hb0⟩:=zN W2.heap.size;obtain ⟨gD,hgD⟩:=zN (W2.heap.size + 1);obtain ⟨W3,hW3⟩:=zN ((W2.alloc (Obj.cells #[] 9)).alloc (Obj.cells cE 32));have HR3:Hid (W3.ownsRow b0 9 1 (.slice (some ⟨b0,0,none⟩) 0 0) 0 (zd zn [])):=qH (by rw [hW3,hb0];exact (zG W2 W2.heap.size 9 1 (Nat.le_refl _)).alloc _);have HK3:Hid (Blk W3 gD 32 cE):=qH (by
  have h:=Blk.new (W2.alloc (Obj.cells #[] 9)) 32 cE;rw [World.size_alloc] at h;rw [hW3,hgD];exact h)
 have hb:Below W2.heap.size W2 W3:=by rw [hW3];exact zc (zc (Below.refl _ _) _) _
 have hgDb:b0≠gD:=by omega
 have hgDw:w.heap.size≤gD:=by have:=hv.size;omega
 have hg1D:g1 < gD:=by omega
 have hg1b:g1 < b0:=by omega
 have hb0w:w.heap.size≤b0:=by have:=hv.size;omega
 have hb03:b0≤W3.heap.size:=by have:=hb.size;omega
 replace HAM:=qH (HAM.out.below hb);replace hv:=za hv hb;have HE1:=qH hb0;have HE2:=qH hgD;have HE3:=qH hW3;clear hb0 hgD hW3 hb hg1l hg1l2;go_upto_region 6 with (rw [←HE3.out,←HE2.out,←HE1.out];refine yS gD #[.int .i64 2500,.int .i64 2400,.int .i64 2500,.int .i64 3200,.slice none 0 0,.string ⟨#[99,97,108,102]⟩,.string ⟨#[98,108,97,99,107]⟩,.string ⟨#[]⟩,.string ⟨#[108,101,97,116,104,101,114]⟩,.int .i64 40,.int .i64 0,.int .i64 0,.int .i64 0,.bool false,.string ⟨#[]⟩] HK3.out ?_)
 have HK4:Hid (Blk (World.setRow W3 gD #[Value.int .i64 2500,Value.int .i64 2400,Value.int .i64 2500,Value.int .i64 3200,Value.slice none 0 0,Value.string ⟨#[99,97,108,102]⟩,Value.string ⟨#[98,108,97,99,107]⟩,Value.string ⟨#[]⟩,Value.string ⟨#[108,101,97,116,104,101,114]⟩,Value.int .i64 40,Value.int .i64 0,Value.int .i64 0,Value.int .i64 0,Value.bool false,Value.string ⟨#[]⟩]) gD 32 #[.int .i64 2500,.int .i64 2400,.int .i64 2500,.int .i64 3200,.slice none 0 0,.string ⟨#[99,97,108,102]⟩,.string ⟨#[98,108,97,99,107]⟩,.string ⟨#[]⟩,.string ⟨#[108,101,97,116,104,101,114]⟩,.int .i64 40,.int .i64 0,.int .i64 0,.int .i64 0,.bool false,.string ⟨#[]⟩]):=qH (setRow_heap _ _ _ _ _ _ HK3.out);have hg4:=yh W3 gD #[Value.int .i64 2500,Value.int .i64 2400,Value.int .i64 2500,Value.int .i64 3200,Value.slice none 0 0,Value.string ⟨#[99,97,108,102]⟩,Value.string ⟨#[98,108,97,99,107]⟩,Value.string ⟨#[]⟩,Value.string ⟨#[108,101,97,116,104,101,114]⟩,Value.int .i64 40,Value.int .i64 0,Value.int .i64 0,Value.int .i64 0,Value.bool false,Value.string ⟨#[]⟩];have HR4:=qH (wS (g:=gD) HR3.out (fun k e=>by have e2:b0=k:=(by simpa [Value.ownBlock] using e);omega) #[Value.int .i64 2500,Value.int .i64 2400,Value.int .i64 2500,Value.int .i64 3200,Value.slice none 0 0,Value.string ⟨#[99,97,108,102]⟩,Value.string ⟨#[98,108,97,99,107]⟩,Value.string ⟨#[]⟩,Value.string ⟨#[108,101,97,116,104,101,114]⟩,Value.int .i64 40,Value.int .i64 0,Value.int .i64 0,Value.int .i64 0,Value.bool false,Value.string ⟨#[]⟩]);have HA4:=qH (HAM.out.grown hg4 (fun ad e=>by injection e with e;subst e;intro e2;injection e2 with e2;dsimp only at e2;omega));have hv4:=zg hv hgDw #[Value.int .i64 2500,Value.int .i64 2400,Value.int .i64 2500,Value.int .i64 3200,Value.slice none 0 0,Value.string ⟨#[99,97,108,102]⟩,Value.string ⟨#[98,108,97,99,107]⟩,Value.string ⟨#[]⟩,Value.string ⟨#[108,101,97,116,104,101,114]⟩,Value.int .i64 40,Value.int .i64 0,Value.int .i64 0,Value.int .i64 0,Value.bool false,Value.string ⟨#[]⟩];have hb04:b0≤(World.setRow W3 gD #[Value.int .i64 2500,Value.int .i64 2400,Value.int .i64 2500,Value.int .i64 3200,Value.slice none 0 0,Value.string ⟨#[99,97,108,102]⟩,Value.string ⟨#[98,108,97,99,107]⟩,Value.string ⟨#[]⟩,Value.string ⟨#[108,101,97,116,104,101,114]⟩,Value.int .i64 40,Value.int .i64 0,Value.int .i64 0,Value.int .i64 0,Value.bool false,Value.string ⟨#[]⟩]).heap.size:=by have:=hg4.size;omega
 obtain ⟨W4,hW4⟩:=zN (World.setRow W3 gD #[Value.int .i64 2500,Value.int .i64 2400,Value.int .i64 2500,Value.int .i64 3200,Value.slice none 0 0,Value.string ⟨#[99,97,108,102]⟩,Value.string ⟨#[98,108,97,99,107]⟩,Value.string ⟨#[]⟩,Value.string ⟨#[108,101,97,116,104,101,114]⟩,Value.int .i64 40,Value.int .i64 0,Value.int .i64 0,Value.int .i64 0,Value.bool false,Value.string ⟨#[]⟩]);rw [←hW4] at HK4 HR4 HA4 hv4 hb04 ⊢;clear hW4 HK3 HR3 HAM hv hg4 HE1 HE2 HE3 hb03;have HG0:Hid (xN 60 newDk M=[] ++ xN (60 - 0) newDk (M.drop 0)):=qH rfl;have HRT2:Hid (rf t=lnT (xN 60 newDk M)):=qH (by rw [HRT.out,HM.out]);clear HRT HM;go_wp2_with fail
 go_loopw [6,32] (fun v i wr=>∃ (j k gr c' n c:Nat) (f:Foot) (xs:List Last) (s:Style) (lg:ByteArray) (A:Option Addr) (O:List ByteArray),i=.int .i64 j∧v=.slice (some ⟨gr,0,none⟩) k c'∧j≤m2∧j≤60∧k≤5000 * j∧gr≠gD∧Hid (O.length=k)∧Hid (∀ y ∈ O,y.size≤2000000)∧Hid (xN 60 newDk M=O ++ xN (60 - j) ⟨f,xs,s,lg⟩ (M.drop j))∧Hid ((⟨f,xs,s,lg⟩:Dk).ok=true)∧Hid (xs.length=n)∧Hid (Blk wr gD 32 (cD f A n c s lg))∧Hid (Arr wr A (zd Last.cells xs))∧Hid (∀ ad,A=some ad→ad.block≠gr∧ad.block≠gD∧ad.block < wr.heap.size)∧Hid (Arr wr (some ⟨g1,0,none⟩) (zd zn M))∧Hid (wr.ownsRow b0 9 1 (.slice (some ⟨gr,0,none⟩) k c') k (zd zn O))∧b0≤wr.heap.size∧Hid (Below w.heap.size w wr)) (fun _ i _=>m2 - (intOf i).toNat)
 case atStart=>exact ⟨0,0,b0,0,0,0,⟨2500,2400,2500,3200⟩,[],newDk.s,⟨#[]⟩,none,[],rfl,rfl,by omega,by omega,by omega,hgDb,qH rfl,qH (fun y hy=>by cases hy),HG0,qH kX,qH rfl,HK4,qH (Arr.nil _ _),qH (fun ad e=>by cases e),HA4,HR4,hb04,qH hv4⟩
 case round=>
 clear HG0 HK4 HR4 HA4 hv4 hb04 hgDb;obtain ⟨j,k,gr,c',n,c,f,xs,s,lg,A,O,rfl,rfl,hj,hj60,hk,hgr,HKL,HSM,HRG,HOK,hn,HK,HA,HAN,HAM,HR,hbw,HV⟩:=hrel;have hi0':(0:Int)≤(j:Int):=by omega
 by_cases hlt:j < m2
 case neg=>
  have hi1:¬ (j:Int) < (m2:Int):=by omega
  have HRES:=qH (show rf t=lnT O by
   rw [HRT2.out,HRG.out,List.drop_eq_nil_of_le (by rw [HM2.out];omega),jl,List.append_nil])
  have HVV:=HV.out;clear HRG HOK HK HA HAN HAM HV;have hlz:=HKL.out;go_wp2_with fail
  rename World=>wz
  go_loopw [12,61] (fun v i wq=>∃ (q:Nat) (a:ByteArray),i=.int .i64 q∧v=.string a∧q≤k∧a.size≤2000001 * q∧Hid (a=lnT (O.take q))∧wq=wz) (fun _ i _=>k - (intOf i).toNat)
  case atStart=>exact ⟨0,⟨#[]⟩,rfl,rfl,by omega,by decide,qH rfl,rfl⟩
  case round=>
  obtain ⟨q,a,rfl,rfl,hq,haz,HAQ,rfl⟩:=hrel;have hq0:(0:Int)≤(q:Int):=by omega
  by_cases hlq:q < k
  case neg=>
   have hq1:¬ (q:Int) < (k:Int):=by omega
   obtain rfl:q=k:=by omega
   have HF:=HAQ.out;rw [List.take_of_length_le (by rw [hlz];exact Nat.le_refl _)] at HF;have HFF:=qH HF;clear HF;go_wp2_with fail;go_returns;exact Ret.mk (vs (by rw [HFF.out,HRES.out])) HVV
  have hq1:(q:Int) < (k:Int):=by omega
  obtain ⟨y,hy⟩:=zx (xs:=O) (k:=q) (by rw [hlz];exact hlq);have hyz:=HSM.out y (List.mem_of_getElem? hy);have y0:=zW (Arr.own HR.out) hy;have l1:(⟨#[10]⟩:ByteArray).size=1:=rfl;have z2:(y ++ ⟨#[10]⟩:ByteArray).size=y.size + 1:=by rw [zu,l1]
  have a0:=fun (w:World)=>run_string_add_sum (P:=Tryz.prog) w y ⟨#[10]⟩ (by omega);have a1:=fun (w:World)=>run_string_add_sum (P:=Tryz.prog) w a (y ++ ⟨#[10]⟩) (by omega);have HA2:=qH (show a ++ (y ++ ⟨#[10]⟩)=lnT (O.take (q + 1)) by rw [yD hy,oT,HAQ.out]);clear hy HAQ;go_wp2_with fail;exact ⟨⟨q + 1,_,by go_num,rfl,by omega,by rw [zu,z2];omega,HA2,trivial⟩,by simp [intOf];omega⟩
 have hi1:(j:Int) < (m2:Int):=by omega
 obtain ⟨line,hline⟩:=zx (xs:=M) (k:=j) (by rw [HM2.out];exact hlt);have hlz:=HLS.out line (HMS.out line (List.mem_of_getElem? hline));have x1:=zW HAM.out hline;have HDR:=qH (yY hline);clear hline;by_cases h60:j=60
 case pos=>
  subst h60;have hat:=zl HR.out;have HG2:=qH (show xN 60 newDk M=O ++ [xw 5] by rw [HRG.out,HDR.out];rfl);clear HRG HDR HOK HK HA HAN HAM;have hbz:=HV.out.size;go_upto_region 16 with (at_builtin;refine xp wr #[.string ⟨#[101,114,114,111,114,32,102,117,108,108]⟩] rfl _ _ 24 9 rfl i0 _ 1 16 Tryz.underlying24 hi0 hz0 hz1 hz2 rfl (by omega) b0 (.slice (some ⟨gr,0,none⟩) k c') k _ rfl rfl HR.out rfl (by simp [Value.oneCell']) (by unfold maxLen;omega) (by omega) hbw ?_;intro A5 c5 w5 hown5 hg5)
  have HVV:=zh HV.out hg5 (fun k e=>Nat.le_trans hb0w (hat k e));have e9:zd zn (O ++ [xw 5])=zd zn O ++ #[Value.string ⟨#[101,114,114,111,114,32,102,117,108,108]⟩].toList:=by rw [zck];simp [zd,zn]
  rw [←e9] at hown5;obtain ⟨g5,rfl⟩:=xj hown5 (by omega);obtain ⟨k5,hk5⟩:=zN (k + 1);rw [←hk5] at hown5 ⊢;obtain ⟨O5,hO5⟩:=zN (O ++ [xw 5]);rw [←hO5] at hown5;have HR5:=qH hown5;have HKL5:Hid (O5.length=k5):=qH (by rw [hO5,hk5,List.length_append,HKL.out];rfl);have HSM5:Hid (∀ y ∈ O5,y.size≤2000000):=qH (fun y hy=>by
   rw [hO5] at hy;rcases List.mem_append.1 hy with hy | hy
   · exact HSM.out y hy
   · obtain rfl:y=xw 5:=by simpa using hy
     decide)
  have HRES:=qH (show rf t=lnT O5 by rw [HRT2.out,HG2.out,hO5]);have hk6:k5≤300001:=by omega
  clear hown5 hg5 hO5 hk5 e9 HG2 HR HKL HSM x1 hk hat HV;have hlz:=HKL5.out;go_wp2_with fail
  rename World=>wz
  go_loopw [12,61] (fun v i wq=>∃ (q:Nat) (a:ByteArray),i=.int .i64 q∧v=.string a∧q≤k5∧a.size≤2000001 * q∧Hid (a=lnT (O5.take q))∧wq=wz) (fun _ i _=>k5 - (intOf i).toNat)
  case atStart=>exact ⟨0,⟨#[]⟩,rfl,rfl,by omega,by decide,qH rfl,rfl⟩
  case round=>
  obtain ⟨q,a,rfl,rfl,hq,haz,HAQ,rfl⟩:=hrel;have hq0:(0:Int)≤(q:Int):=by omega
  by_cases hlq:q < k5
  case neg=>
   have hq1:¬ (q:Int) < (k5:Int):=by omega
   obtain rfl:q=k5:=by omega
   have HF:=HAQ.out;rw [List.take_of_length_le (by rw [hlz];exact Nat.le_refl _)] at HF;have HFF:=qH HF;clear HF;go_wp2_with fail;go_returns;exact Ret.mk (vs (by rw [HFF.out,HRES.out])) HVV
  have hq1:(q:Int) < (k5:Int):=by omega
  obtain ⟨y,hy⟩:=zx (xs:=O5) (k:=q) (by rw [hlz];exact hlq);have hyz:=HSM5.out y (List.mem_of_getElem? hy);have y0:=zW (Arr.own HR5.out) hy;have l1:(⟨#[10]⟩:ByteArray).size=1:=rfl;have z2:(y ++ ⟨#[10]⟩:ByteArray).size=y.size + 1:=by rw [zu,l1]
  have a0:=fun (w:World)=>run_string_add_sum (P:=Tryz.prog) w y ⟨#[10]⟩ (by omega);have a1:=fun (w:World)=>run_string_add_sum (P:=Tryz.prog) w a (y ++ ⟨#[10]⟩) (by omega);have HA2:=qH (show a ++ (y ++ ⟨#[10]⟩)=lnT (O5.take (q + 1)) by rw [yD hy,oT,HAQ.out]);clear hy HAQ;go_wp2_with fail;exact ⟨⟨q + 1,_,by go_num,rfl,by omega,by rw [zu,z2];omega,HA2,trivial⟩,by simp [intOf];omega⟩
 have hn60:¬ (j:Int)=60:=by omega
 obtain ⟨hfB,hlB,hsB,hcB⟩:=ym HOK.out;dsimp only at hfB hlB hsB hcB;have hn30:n≤30:=by
  have h:=wg hlB;rw [hn.out] at h;exact h
 have hlg:=wP hcB;have HDCm:=lB f s lg A xs n c hn (by omega) (qH (fun x hx=>Nat.le_trans (yB (yV hlB x hx)) (by omega))) (qH (rj hsB)) (by omega) line hlz wr HA.out (HT.out.below HV.out) (HC.out.below HV.out) (HE.out.below HV.out);have HCO:(wK ⟨f,xs,s,lg⟩ line).2.2=0→(wK ⟨f,xs,s,lg⟩ line).1.ok=true∧(wK ⟨f,xs,s,lg⟩ line).2.1≠[]:=fun h=>by
  rcases zaY HOK.out line with ⟨h7,_⟩ | ⟨_,_,_,h1,h2⟩
  · rw [h7] at h;cases h
  · exact ⟨h1,h2⟩
 have HSL:=eY HOK.out line;have HYE:=fun (h:(wK ⟨f,xs,s,lg⟩ line).2.2=0)=>qT (k:=59 - j) (r:=M.drop (j + 1)) h;have HNN:=fun (h:¬ (wK ⟨f,xs,s,lg⟩ line).2.2=0)=>pI (k:=59 - j) (r:=M.drop (j + 1)) h;have e60:60 - j=(59 - j) + 1:=by omega
 have e61:60 - (j + 1)=59 - j:=by omega
 have HRG2:=HRG.out;rw [HDR.out,e60] at HRG2;obtain ⟨r,hr⟩:=zN (wK ⟨f,xs,s,lg⟩ line);rw [←hr] at HDCm HCO HSL HYE HNN;clear hr;obtain ⟨⟨f2,xs2,s2,lg2⟩,Lb,co⟩:=r;dsimp only at HCO HSL HYE HNN;have HC2:=qH HCO;have HS2:=qH HSL;have HY2:=qH HYE;have HN2:=qH HNN;have HG2:=qH HRG2;have HDM:=qH HDCm;have HE61:=qH e61;clear HCO HSL HYE HNN HRG2 HDCm hfB hlB hsB hcB e60 e61 HRG HDR;go_wp2_with (refine yL gD HK.out Tryz.underlying32 ?_)
 refine HDM.out.mono ?_;rintro e W5 ⟨A2,n2,c2,B,kb,cb,rfl,hb,hn2,hkb,lo,mid,hlo,hO2,hB2⟩;dsimp only at hn2 hkb hO2 hB2;have hgrl:=yw HR.out gr rfl;have hgDl:=HK.out.lt;clear HDM x1;have hz5:=hb.size;obtain ⟨g9,hg9⟩:=zN W5.heap.size;obtain ⟨W6,hW6⟩:=zN (W5.alloc (Obj.cells cE 32));have HK0:Hid (Blk W6 g9 32 cE):=qH (by rw [hW6,hg9];exact Blk.new _ _ _);have hb6:Below W5.heap.size W5 W6:=by rw [hW6];exact zc (Below.refl _ _) _
 have hg95:W5.heap.size≤g9:=by omega
 have HE1:=qH hg9;have HE2:=qH hW6;clear hg9 hW6;go_upto_region 12 with (rw [←HE2.out,←HE1.out];refine yS g9 (cD f2 A2 n2 c2 s2 lg2) HK0.out ?_)
 have HK9:Hid (Blk (World.setRow W6 g9 (cD f2 A2 n2 c2 s2 lg2)) g9 32 (cD f2 A2 n2 c2 s2 lg2)):=qH (setRow_heap _ _ _ _ _ _ HK0.out);have hb57:=zg hb6 hg95 (cD f2 A2 n2 c2 s2 lg2);obtain ⟨W7,hW7⟩:=zN (World.setRow W6 g9 (cD f2 A2 n2 c2 s2 lg2));rw [←hW7] at HK9 hb57 ⊢;clear hW7 HK0 hb6 HE1 HE2;have hbb:=za hb hb57;have hz7:=hb57.size;replace HK:=qH (HK.out.below hbb);replace HA:=qH (HA.out.below hbb);replace HAM:=qH (HAM.out.below hbb);replace HR:=qH (ze HR.out hbb);replace HV:=qH (za HV.out hbb);have HO2:=qH (hO2.below hb57);have HB2:=qH (ze hB2 hb57);have HN3:=qH hn2;have HKB:=qH hkb;have hlm:=hO2.2.1;clear hb hb57 hbb hO2 hB2 hn2 hkb;have hat:=zl HR.out;have hrow:∀ p:Nat,p≠gr→some p≠Option.map (·.block) (some (⟨gr,0,none⟩:Addr)):=fun p h e=>by
  injection e with e;exact h e
 by_cases hc:co=0
 case neg=>
  have hGN:xN 60 newDk M=(O ++ [sS]) ++ xN (60 - (j + 1)) ⟨f,xs,s,lg⟩ (M.drop (j + 1)):=by
   rw [HG2.out,HN2.out hc,HE61.out,List.append_assoc]
  have HGN:=qH hGN;clear hGN HG2 HN2 HY2 HC2 HS2 HB2 HO2;go_wp2_with (at_builtin;refine yq W7 #[.string ⟨#[63]⟩] rfl _ _ 24 9 rfl i0 _ 1 16 Tryz.underlying24 hi0 hz0 hz1 hz2 rfl (by omega) b0 (some ⟨gr,0,none⟩) k c' _ rfl _ rfl rfl HR.out rfl (by simp [Value.oneCell']) (by unfold maxLen;omega) (by omega) (by omega) ?_;intro g7 c7 w7 hown7 hg7 hfr7)
  have e9:zd zn (O ++ [sS])=zd zn O ++ #[Value.string ⟨#[63]⟩].toList:=by simp [zd,zn,sS]
  rw [←e9] at hown7;have hr7:∀ p,p < W7.heap.size→p≠gr→p≠g7:=fun p h1 h2=>by
   rcases hfr7 with e7 | e7
   · injection e7 with e7;injection e7 with e7;omega
   · omega
  have hz8:=hg7.size;refine ⟨⟨j + 1,k + 1,g7,c7,n,c,f,xs,s,lg,A,O ++ [sS],by go_num,rfl,by omega,by omega,by omega,fun e=>hr7 gD HK.out.lt (fun e2=>hgr e2.symm) e.symm,qH (by rw [List.length_append,HKL.out];rfl),qH (fun y hy=>?_),HGN,HOK,hn,qH (HK.out.grown hg7 (hrow gD (fun e2=>hgr e2.symm))),qH (HA.out.grown hg7 (fun ad e=>hrow _ (HAN.out ad e).1)),qH (fun ad e=>⟨hr7 _ (by have:=(HAN.out ad e).2.2;omega) (HAN.out ad e).1,(HAN.out ad e).2.1,by have:=(HAN.out ad e).2.2;omega⟩),qH (HAM.out.grown hg7 (fun ad e=>by injection e with e;subst e;exact hrow _ (by dsimp only;have:=hat gr rfl;omega))),qH hown7,by omega,qH (zh HV.out hg7 (fun p e=>Nat.le_trans hb0w (hat p e)))⟩,by simp [intOf];omega⟩
  · rcases List.mem_append.1 hy with hy | hy
    · exact HSM.out y hy
    · obtain rfl:y=sS:=by simpa using hy
      decide
 subst hc;obtain ⟨hok2,hne2⟩:=HC2.out rfl;have HGY:=qH (show xN 60 newDk M=(O ++ Lb) ++ xN (60 - (j + 1)) ⟨f2,xs2,s2,lg2⟩ (M.drop (j + 1)) by
  rw [HG2.out,HY2.out rfl,HE61.out,List.append_assoc])
 obtain ⟨hs1,hs2⟩:=HS2.out;have HSB:=qH hs2;have HOK2:=qH hok2;have hkb5:kb≤5000:=by rw [←HKB.out];exact hs1
 have hkb0:0 < kb:=by rw [←HKB.out];exact List.length_pos_iff.2 hne2
 clear HG2 HY2 HN2 HC2 HS2 hs1 hs2 hok2 hne2 HOK HA HAN;obtain ⟨gb,rfl⟩:=xj HB2.out hkb0;have hgb:=zl HB2.out gb rfl;have HLB:Hid ((zd zn Lb).length=kb * 1):=qH (by rw [yH,List.length_map,HKB.out];omega);have HAB:=qH (Arr.own HB2.out);have HL2:Hid (∀ ad,A2=some ad→lo≤ad.block∧ad.block < W7.heap.size):=qH (fun ad e=>by
  have h:=HO2.out.row ad.block (by rw [e];rfl);have h3:=HO2.out.2.2.1;omega)
 have HA2:=qH (HO2.out.arr);have hgr9:gr≠g9:=by omega
 have hD9:gD≠g9:=by omega
 have hgbr:gb≠gr:=by omega
 have hgbD:gb≠gD:=by omega
 have hg1r:g1≠gr:=by have:=hat gr rfl;omega
 have hg1D':g1≠gD:=by omega
 have hd0:Below W7.heap.size W7 W7.drew:=(Below.refl _ _).drew;obtain ⟨k0,k1,k2,k3,k4,k5,k6,k7,k8,k9,k10,k11,k12,k13,k14⟩:=vG HK9.out;go_upto_region 14 with fail;refine zH (fun w'=>w'.cell? ⟨g9,0,none⟩=some (.int .i64 f2.length)∧w'.cell? ⟨g9,1,none⟩=some (.int .i64 f2.b)∧w'.cell? ⟨g9,2,none⟩=some (.int .i64 f2.i)∧w'.cell? ⟨g9,3,none⟩=some (.int .i64 f2.h)∧w'.cell? ⟨g9,4,none⟩=some (.slice A2 n2 c2)∧w'.cell? ⟨g9,5,none⟩=some (.string s2.u)∧w'.cell? ⟨g9,6,none⟩=some (.string s2.c)∧w'.cell? ⟨g9,7,none⟩=some (.string s2.l)∧w'.cell? ⟨g9,8,none⟩=some (.string s2.s)∧w'.cell? ⟨g9,9,none⟩=some (.int .i64 s2.t)∧w'.cell? ⟨g9,10,none⟩=some (.int .i64 s2.h)∧w'.cell? ⟨g9,11,none⟩=some (.int .i64 s2.e)∧w'.cell? ⟨g9,12,none⟩=some (.int .i64 s2.d)∧w'.cell? ⟨g9,13,none⟩=some (.bool s2.q)∧w'.cell? ⟨g9,14,none⟩=some (.string lg2)) ?_ (fun hHeld=>?_)
 · exact ⟨zb hd0 k0,zb hd0 k1,zb hd0 k2,zb hd0 k3,zb hd0 k4,zb hd0 k5,zb hd0 k6,zb hd0 k7,zb hd0 k8,zb hd0 k9,zb hd0 k10,zb hd0 k11,zb hd0 k12,zb hd0 k13,zb hd0 k14⟩
 have HKd:=HK.out.below hd0;have HA2d:=HA2.out.below hd0;have HAMd:=HAM.out.below hd0;have HK9d:=HK9.out.below hd0;have HRd:=ze HR.out hd0;have HABd:=HAB.out.below hd0;have HVd:=HV.out.drew;have hzd:W7.drew.heap.size=W7.heap.size:=rfl;refine zT 0 54 rfl (fun w hSw=>by
  obtain ⟨s0,s1,s2,s3,s4,s5,s6,s7,s8,s9,s10,s11,s12,s13,s14⟩:=hSw;go_simp;try with_reducible rfl) ?_
 refine zT 1 55 rfl (fun w hSw=>by
  clear hSw;go_simp;try with_reducible rfl) ?_
 refine zT 2 56 rfl (fun w hSw=>by
  clear hSw;go_simp;try with_reducible rfl) ?_
 refine zR 3 (some 57) rfl (fun K hK=>?_);go_split_ands;refine fo W7.drew _ _ 24 9 rfl i0 _ 1 16 Tryz.underlying24 hi0 hz0 hz1 hz2 rfl (by omega) b0 (some ⟨gr,0,none⟩) k c' (zd zn O) rfl HRd ⟨gb,0,none⟩ kb cb (zd zn Lb) hkb0 rfl HABd HLB.out (nQ Lb) (by unfold maxLen;omega) (by omega) (by omega) ?_;intro g7 c7 V1 hown7 hg7 hfr7;have hf7:g7=gr∨W7.drew.heap.size≤g7:=hfr7.elim (fun e=>.inl (by injection e with e;injection e with e;exact e.symm)) (fun e=>.inr (by omega));have hz1':=hg7.size;have HKa:=HKd.grown hg7 (hrow gD (by omega));have HA2a:=HA2d.grown hg7 (fun ad e=>by have h9:=HL2.out ad e;exact hrow ad.block (by omega));have HAMa:=HAMd.grown hg7 (fun ad e=>by injection e with e;subst e;exact hrow g1 (by omega));have HK9a:=HK9d.grown hg7 (hrow g9 (by omega));have HVa:=zh HVd hg7 (fun p e=>Nat.le_trans hb0w (zl HRd p e));refine zK hK ⟨HK9a.cell 0,HK9a.cell 1,HK9a.cell 2,HK9a.cell 3,HK9a.cell 4,HK9a.cell 5,HK9a.cell 6,HK9a.cell 7,HK9a.cell 8,HK9a.cell 9,HK9a.cell 10,HK9a.cell 11,HK9a.cell 12,HK9a.cell 13,HK9a.cell 14⟩ (fun hHeld=>?_);clear hK K;refine zR 4 none rfl (fun K hK=>?_);go_split_ands;refine wp_store_row 32 _ _ rfl gD (cD f2 A2 n2 c2 s2 lg2) rfl rfl 32 (cD f A n c s lg) HKa (by kernel_rfl) rfl (by simp [Value.oneCell']) ?_;have hgs:=yh V1 gD (cD f2 A2 n2 c2 s2 lg2);have hzs:=hgs.size;have HKb:Blk (World.setRow V1 gD (cD f2 A2 n2 c2 s2 lg2)) gD 32 (cD f2 A2 n2 c2 s2 lg2):=setRow_heap _ _ _ _ _ _ HKa;have HA2b:=HA2a.grown hgs (fun ad e=>by have h9:=HL2.out ad e;exact (fun e9=>by injection e9 with e9;(try dsimp only at e9);omega));have HAMb:=HAMa.grown hgs (fun ad e=>by injection e with e;subst e;exact (fun e9=>by injection e9 with e9;(try dsimp only at e9);omega));have HK9b:=HK9a.grown hgs ((fun e9=>by injection e9 with e9;(try dsimp only at e9);omega));have HRb:=wS (g:=gD) hown7 (fun p e=>by have e2:g7=p:=(by simpa [Value.ownBlock] using e);omega) (cD f2 A2 n2 c2 s2 lg2);have HVb:=zg HVa hgDw (cD f2 A2 n2 c2 s2 lg2);obtain ⟨V2,hV2⟩:=zN (World.setRow V1 gD (cD f2 A2 n2 c2 s2 lg2));rw [←hV2] at HKb HA2b HAMb HK9b HRb HVb hzs ⊢;clear hV2;refine hK.out _ _ ?_ (fun hHeld=>?_)
 · (try dsimp only);exact ⟨HK9b.cell 0,HK9b.cell 1,HK9b.cell 2,HK9b.cell 3,HK9b.cell 4,HK9b.cell 5,HK9b.cell 6,HK9b.cell 7,HK9b.cell 8,HK9b.cell 9,HK9b.cell 10,HK9b.cell 11,HK9b.cell 12,HK9b.cell 13,HK9b.cell 14⟩
 clear hK K;try simp only [Act.put]
 refine zT 5 6 rfl (fun w hSw=>by
  clear hSw;go_simp;try with_reducible rfl) ?_
 refine zD ?_;clear hHeld;have e9:zd zn (O ++ Lb)=zd zn O ++ zd zn Lb:=zX _ _ _;have HRf:=qH HRb;rw [←e9] at HRf;have HKf:=qH HKb;have HAf:=qH HA2b;have HAMf:=qH HAMb;have HVf:=qH HVb;clear HKd HA2d HAMd HK9d HRd HABd HVd HKb HA2b HAMb HK9b HVb hg7 hgs e9 k0 k1 k2 k3 k4 k5 k6 k7 k8 k9 k10 k11 k12 k13 k14;go_wp2_with fail;exact ⟨⟨j + 1,k + kb,g7,c7,n2,c2,f2,xs2,s2,lg2,A2,O ++ Lb,by go_num,rfl,by omega,by omega,by omega,by omega,qH (by rw [List.length_append,HKL.out,HKB.out]),qH (fun y hy=>(List.mem_append.1 hy).elim (HSM.out y) (HSB.out y)),HGY,HOK2,HN3,HKf,HAf,qH (fun ad e=>by have:=HL2.out ad e;omega),HAMf,HRf,by omega,HVf⟩,by simp [intOf];omega⟩
theorem SR.put {w0 w w7:World} {g:Nat} {d:Dk} {O L:List ByteArray} {ns:List Int} {ts:List ByteArray} {A Ao An At A7:Option Addr} {n c no co kn cn kt ct k c7:Nat} (hh:SR w0 w g d O ns ts A Ao An At n c no co kn cn kt ct) (hk:L.length=k)
 (hown7:w7.ownsRow w0.heap.size 9 1 (.slice A7 (no + k) c7) (no + k) (zd zn (O ++ L))) (hg7:w.grownBy w7 (Ao.map (·.block))) (hfr7:A7=Ao∨∃ g7,A7=some ⟨g7,0,none⟩∧w.heap.size≤g7) :
 SR w0 (w7.setCell ⟨g,15,none⟩ (.slice A7 (no + k) c7)) g d (O ++ L) ns ts A A7 An At n c (no + k) c7 kn cn kt ct:=by
 have hs7:=hg7.size;have hgl:=hh.blk.lt;have hfr:∀ p:Nat,p < w.heap.size→(∀ ao,Ao=some ao→p≠ao.block)→∀ a7,A7=some a7→p≠a7.block:=fun p h1 h2 a7 e=>by
  rcases hfr7 with e7 | ⟨g7,e7,h7⟩
  · exact h2 _ (e7 ▸ e)
  · rw [e7] at e;injection e with e;subst e;dsimp only;omega
 have hrow:∀ p:Nat,(∀ ao,Ao=some ao→p≠ao.block)→some p≠Option.map (·.block) Ao:=fun p h1 e=>by
  cases Ao with
  | none=>cases e
  | some ao=>injection e with e;exact h1 ao rfl e
 have hgo:∀ ao,Ao=some ao→g≠ao.block:=fun ao e e2=>(hh.og ao e).1 e2.symm;have hsz:(w7.setCell ⟨g,15,none⟩ (.slice A7 (no + k) c7)).heap.size=w7.heap.size:=World.size_setCell _ _ _;have hB7:=hh.blk.grown hg7 (hrow g hgo);have kept:∀ {E size m:Nat} {B:Option Addr} {q:Nat} {cs:List Value},w.ownsRow w0.heap.size E size (.slice B m q) m cs→(∀ ad,B=some ad→ad.block≠g)→(∀ a o,B=some a→Ao=some o→a.block≠o.block)→(w7.setCell ⟨g,15,none⟩ (.slice A7 (no + k) c7)).ownsRow w0.heap.size E size (.slice B m q) m cs:=fun {E size m B q cs} hb h1 h2=>by
  refine xm (hb.kept hg7 ?_) (p:=⟨g,15,none⟩) (fun p e=>?_) _
  · cases B with
    | none=>exact .inl rfl
    | some ad=>exact .inr (hrow _ (fun ao e=>h2 ad ao rfl e))
  · cases B with
    | none=>cases e
    | some ad=>injection e with e;subst e;exact h1 ad rfl
 have keptA:∀ {B:Option Addr} {cs:List Value},Arr w B cs→(∀ ad,B=some ad→ad.block≠g)→(∀ a o,B=some a→Ao=some o→a.block≠o.block)→Arr (w7.setCell ⟨g,15,none⟩ (.slice A7 (no + k) c7)) B cs:=fun {B cs} hb h1 h2=>
  (hb.grown hg7 (fun ad e=>hrow _ (fun ao e2=>h2 ad ao e e2))).grown (xh w7 g 15 _) (fun ad e e2=>by injection e2 with e2;exact h1 ad e e2)
 have h7g:∀ a7,A7=some a7→a7.block≠g:=fun a7 e e2=>hfr g hgl hgo a7 e e2.symm;refine ⟨hB7.set_ 15 _,hh.hn,by rw [List.length_append,hh.ho,hk],hh.hk,hh.ht,kept hh.own (fun ad e=>(hh.ag ad e).1) hh.ao,xm hown7 (p:=⟨g,15,none⟩) (fun p e=>?_) _,keptA hh.nums (fun ad e=>(hh.ng ad e).1) hh.no_,keptA hh.texts (fun ad e=>(hh.tg ad e).1) hh.to_,fun ad e=>⟨(hh.ag ad e).1,by rw [hsz];have:=(hh.ag ad e).2;omega⟩,fun ad e=>⟨h7g ad e,by rw [hsz];exact yw hown7 _ (rN hown7 ad e)⟩,
  fun ad e=>⟨(hh.ng ad e).1,by rw [hsz];have:=(hh.ng ad e).2;omega⟩,fun ad e=>⟨(hh.tg ad e).1,by rw [hsz];have:=(hh.tg ad e).2;omega⟩,fun a o e1 e2=>hfr _ (hh.ag a e1).2 (fun ao e=>hh.ao a ao e1 e) o e2,fun a o e1 e2=>hfr _ (hh.ng a e1).2 (fun ao e=>hh.no_ a ao e1 e) o e2,fun a o e1 e2=>hfr _ (hh.tg a e1).2 (fun ao e=>hh.to_ a ao e1 e) o e2,?_,hh.an_,hh.at_⟩
 · cases A7 with
   | none=>cases e
   | some a7=>injection e with e;subst e;exact h7g a7 rfl
 · exact zZ (uZ hh.bel hg7 (fun p e=>by
    cases Ao with
    | none=>cases e
    | some ao=>injection e with e;rw [←e];exact zl hh.out _ rfl)) (p:=⟨g,15,none⟩) (.inl rfl) _
theorem bG {P:Program} {ops:Array Oper} {rest:List Oper} {o:Oper} {a:Act} {Q:Exit→Act→World→Prop} (w:World) (hgd:o.guard=none) (s x:Operand) (t e:TypeId)
 (ho:o.op=.call { callee:=.builtin .append,args:=#[s,x],argTypes:=#[t,t] })
 (i:TypeInfo) (z:Value) (bytes:Nat) (ht:P.underlying t=some (.slice e)) (hi:P.info? e=some i) (hz:i.zero=some z)
 (hsize:i.size=1) (hby:i.bytes=bytes) (hzs:z.cells.size=1)
 (base:Nat) (A:Option Addr) (n cp:Nat) (cs:List Value) (hs:a.eval s=.slice A n cp) (hown:w.ownsRow base e 1 (.slice A n cp) n cs)
 (B:Option Addr) (m c:Nat) (L:List ByteArray) (hx:a.eval x=.slice B m c) (hA:Arr w B (zd zn L))
 (hl:L.length=m) (h63:n + m≤maxLen) (hbytes:(n + m) * bytes≤140737488355328) (hbase:base≤w.heap.size)
 (h:∀ A7 c7 w7,w7.ownsRow base e 1 (.slice A7 (n + m) c7) (n + m) (cs ++ zd zn L)→w.grownBy w7 (A.map (·.block))→(A7=A∨∃ g7,A7=some ⟨g7,0,none⟩∧w.heap.size≤g7)→wpList P ops Q rest (a.put o.dst (.slice A7 (n + m) c7)) w7) :
 wpList P ops Q (o :: rest) a w:=by
 have hlf:(zd zn L).length=m * 1:=by rw [yH,List.length_map,hl];omega
 by_cases hm:0 < m
 · obtain ⟨ad,hB,_,_⟩:=hA.at_ (j:=0) (by omega);subst hB;refine mE w hgd s x t e ho i z 1 bytes ht hi hz hsize hby hzs (by omega) base A n cp cs hs hown ad m c (zd zn L) hm hx hA hlf (nQ L) h63 hbytes hbase ?_;intro g c' w' h2 h3 h4;refine h _ _ _ h2 h3 ?_;rcases h4 with h4 | h4
   · exact .inl h4.symm
   · exact .inr ⟨g,rfl,by omega⟩
 · obtain rfl:m=0:=by omega
   obtain rfl:L=[]:=List.eq_nil_of_length_eq_zero hl;have hnc:n≤cp:=by obtain ⟨_,_,e1,h1,_⟩:=xT hown;injection e1 with _ _ e3;omega
   have hsrc:Go.Src P i.size t (.slice B 0 c) 0 [] w:=by
    cases B with
    | none=>exact Go.Src.ofNil w ht c
    | some ad=>exact Go.Src.ofSlice w ht ad 0 c [] (by simp) (fun j u hu=>by cases hu) (fun u hu=>by cases hu)
   have hr:=run_append_nothing (P:=P) w t t o.type e i ht hi A n cp hnc (.slice B 0 c) hsrc;refine wpList_plain hgd fun K hK=>?_;unfold Oper.wp execOp;simp only [ho,resolve,invoke,builtin,Sem.run_bind,Sem.run_pure,Result.andThen_ok,List.map_toArray,List.map_cons,List.map_nil,hs,hx,hr];exact hK _ _ (h A cp w (by rw [show zd zn ([]:List ByteArray)=[] from rfl,List.append_nil];exact hown) (World.grownBy.refl w _) (.inl rfl))
theorem cr (w0 w:World) (g:Nat) (d:Dk) (O L:List ByteArray) (ns:List Int) (ts:List ByteArray) (A Ao An At B:Option Addr) (n c no co kn cn kt ct m cb:Nat) (h:SR w0 w g d O ns ts A Ao An At n c no co kn cn kt ct) (hno:no≤900000) (hL:Hid (L.length=m)) (hm:m≤10000) (hB:Arr w B (zd zn L)) :
 Calls Tryz.prog 173 #[.pointer (some ⟨g,0,none⟩),.slice B m cb] w (vg w0 g d (O ++ L ++ [okW m]) ns ts w (.tuple #[])):=by
 obtain ⟨i0,hi0,hz0,hz1,hz2⟩:=info_parts (P:=Tryz.prog) (e:=9) (z:=.string ByteArray.empty) (size:=1) (bytes:=16) vq;have HR:=qH h.out;have HBK:=qH h.blk;have hbw:=h.bel.size;have H:=qH h;have HB:=qH hB;have c15:w.cell? ⟨g,15,none⟩=some (.slice Ao no co):=h.blk.cell 15;have HDC:=qH (fun w=>xf (m:Int) (by omega) (by omega) w);have dz:=xd (v:=(m:Int)) (by omega) (by omega);have l3:(⟨#[111,107,32]⟩:ByteArray).size=3:=rfl;have HEW:okW m=(⟨#[111,107,32]⟩:ByteArray) ++ zm m:=rfl;obtain ⟨dm,hdm⟩:=zN (zm (m:Int));rw [←hdm] at HDC dz HEW;have a0:=fun (w:World)=>run_string_add_sum (P:=Tryz.prog) w ⟨#[111,107,32]⟩ dm (by omega);rw [←HEW] at a0;obtain ⟨tE,htE⟩:=zN (okW m);rw [←htE] at a0;rw [←htE];clear h hB hdm dz HEW htE;go_enter Tryz.func173,Tryz.ntmps173;go_upto_region 1 with (at_builtin;refine bG w rfl _ _ 24 9 rfl i0 _ 16 Tryz.underlying24 hi0 hz0 hz1 hz2 rfl w0.heap.size Ao no co _ rfl HR.out B m cb L rfl HB.out hL.out (by unfold maxLen;omega) (by omega) hbw ?_;intro A7 c7 w7 hown7 hg7 hfr7;have hBK7:=HBK.out.grown hg7 (fun e=>by cases Ao with | none=>cases e | some ao=>injection e with e;exact (H.out.og ao rfl).1 e.symm);have c15':w7.cell? ⟨g,15,none⟩=some (.slice Ao no co):=hBK7.cell 15;have f15:w7.frozen? ⟨g,15,none⟩=false:=hBK7.frozen 15)
 have e9:zd zn (O ++ L)=zd zn O ++ zd zn L:=zX _ _ _;rw [←e9] at hown7;have HS:=qH (H.out.put hL.out hown7 hg7 hfr7);have hz7:=hg7.size;obtain ⟨W8,hW8⟩:=zN (w7.setCell ⟨g,15,none⟩ (.slice A7 (no + m) c7));have hz8:W8.heap.size=w7.heap.size:=by rw [hW8];exact World.size_setCell _ _ _
 rw [←hW8] at HS ⊢;clear hW8 f15 c15' c15 hBK7 hown7 hg7 hfr7 e9 H HR HBK HB;have HZ8:=qH hz8;clear hz8;go_wp2_with fail;refine qS (HDC.out _) fun W9 hb=>?_;have HS9:=qH (tQ w0 W9 g d (O ++ L) ns ts A A7 An At n c (no + m) c7 kn cn kt ct (HS.out.below hb) (by omega) tE);have hz9:=hb.size;clear hb HS;go_wp2_with fail;refine HS9.out.mono ?_;rintro e W10 ⟨rfl,hz,hr⟩;have HRR:=qH hr;have hzz:=HZ8.out;clear hr HS9;go_wp2_with fail;go_returns;exact ⟨rfl,by omega,HRR.out⟩
end Go.Proofs.YtpiehlfffjhoaaaGreatDoor
