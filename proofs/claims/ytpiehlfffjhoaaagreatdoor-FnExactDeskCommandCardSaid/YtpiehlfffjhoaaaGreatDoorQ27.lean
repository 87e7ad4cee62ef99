/- Lemmas for the law on the console: the parts CnK,CnL,CoC. -/
import Derived.Test.YtpiehlfffjhoaaaGreatDoorQ26
import Derived.Lib.Overlaps
namespace Go.Proofs.YtpiehlfffjhoaaaGreatDoor
open Go.RowKit Go.Proofs.Tryz
set_option maxRecDepth 100000
set_option maxHeartbeats 4000000
theorem sP:(prog.info? 100).map (fun i=>(i.zero,i.size,i.bytes))=some (some (.agg #[.string ByteArray.empty,.int .i64 0,.int .i64 0,.int .i64 0,.int .i64 0,.int .i64 0]),6,56):=by kernel_rfl
theorem js(xs:List Last)(n:Nat)(x:Last)(hn:xs.length=n):zd Last.cells xs ++ x.cells=zd Last.cells (uR xs n x):=by
 unfold uR;rw [List.take_of_length_le (by omega),List.drop_eq_nil_of_le (by omega),zY];simp [zd]
theorem xX(xs:List Last):∀ u ∈ zd Last.cells xs,u.oneCell'=true:=by
 intro u hu;simp only [zd,List.mem_flatMap] at hu;obtain ⟨x,_,hx⟩:=hu;simp [Last.cells] at hx;rcases hx with h | h | h | h | h | h <;> subst h <;> rfl
theorem ud(xs:List Last)(i:Nat)(x:Last):zd Last.cells (uR xs i x)=zd Last.cells (xs.take i) ++ (x.cells ++ zd Last.cells (xs.drop i)):=by
 unfold uR;rw [zY];rfl
theorem sN{xs:List Last}{i:Nat}(hi:i<=xs.length):zd Last.cells (xs.drop i)=(zd Last.cells xs).drop (i * 6):=by
 have h:zd Last.cells xs=zd Last.cells (xs.take i) ++ zd Last.cells (xs.drop i):=by rw [<-zY,List.take_append_drop]
 rw [h,List.drop_left' (by rw [yK Last.cells_length,List.length_take];omega)]
theorem qI{xs:List Last}{i:Nat}(hi:i<=xs.length):zd Last.cells (xs.take i)=(zd Last.cells xs).take (i * 6):=by
 have h:zd Last.cells xs=zd Last.cells (xs.take i) ++ zd Last.cells (xs.drop i):=by rw [<-zY,List.take_append_drop]
 rw [h,List.take_left' (by rw [yK Last.cells_length,List.length_take];omega)]
theorem fu{α:Type}(C F X:List α)(a d m:Nat)(hF:C.take m=F)(hm:m<=C.length)(ha:a<=m)(hX:X.length=d)(hr:m + d<=C.length) :
 let L1:=C.take (a + d) ++ F.drop a ++ C.drop (a + d + (F.drop a).length)
 let L2:=L1.take a ++ X ++ L1.drop (a + X.length)
 L2.length=C.length/\L2.take (m + d)=F.take a ++ (X ++ F.drop a):=by
 intro L1 L2;have hFl:F.length=m:=by rw [<-hF,List.length_take];omega
 have hDl:(F.drop a).length=m - a:=by rw [List.length_drop,hFl]
 have h1:L1.take a=F.take a:=by
  have e:L1=C.take (a + d) ++ (F.drop a ++ C.drop (a + d + (F.drop a).length)):=by simp only [L1,List.append_assoc]
  rw [e,List.take_append_of_le_length (by rw [List.length_take];omega),List.take_take,<-hF,List.take_take]
  congr 1
  omega
 have h2:L1.drop (a + X.length)=F.drop a ++ C.drop (m + d):=by
  have e:L1=C.take (a + d) ++ (F.drop a ++ C.drop (a + d + (F.drop a).length)):=by simp only [L1,List.append_assoc]
  rw [e,hX,List.drop_left' (by rw [List.length_take];omega),hDl]
  congr 2
  omega
 have h3:L2=(F.take a ++ (X ++ F.drop a)) ++ C.drop (m + d):=by
  simp only [L2];rw [h1,h2];simp only [List.append_assoc]
 rw [h3];constructor
 ·simp only [List.length_append,List.length_take,List.length_drop,hFl,hX];omega
 ·rw [List.take_left'];simp only [List.length_append,List.length_take,List.length_drop,hFl,hX];omega
theorem mE{α:Type}(C F X:List α)(a d m:Nat)(hF:F.length=m)(hC:C.take a=F.take a)(ha:a<=m)(hX:X.length=d)(hr:m + d<=C.length) :
 let L1:=C.take a ++ X ++ C.drop (a + X.length)
 let L2:=L1.take (a + d) ++ F.drop a ++ L1.drop (a + d + (F.drop a).length)
 L1.length=C.length/\L2.length=C.length/\L2.take (m + d)=F.take a ++ (X ++ F.drop a):=by
 intro L1 L2;have hDl:(F.drop a).length=m - a:=by rw [List.length_drop,hF]
 have hL1:L1.length=C.length:=by
  simp only [L1,List.length_append,List.length_take,List.length_drop,hX];omega
 have h1:L1.take (a + d)=F.take a ++ X:=by
  simp only [L1];rw [hC,List.take_left'];rw [List.length_append,List.length_take,hX];omega
 have h3:L2=(F.take a ++ (X ++ F.drop a)) ++ L1.drop (a + d + (F.drop a).length):=by
  simp only [L2];rw [h1];simp only [List.append_assoc]
 refine ⟨hL1,?_,?_⟩
 ·rw [h3];simp only [List.length_append,List.length_take,List.length_drop,hX,hF,hL1];omega
 ·rw [h3,List.take_left'];simp only [List.length_append,List.length_take,List.length_drop,hX,hF];omega
theorem bA{P:Program}(w:World)(t tn e:TypeId)(i:TypeInfo)(z:Value)(k kn:IntKind)(ht:P.underlying t=some (.slice e))(htn:P.underlying tn=some (.int kn))(hi:P.info? e=some i)(hz:i.zero=some z)(hzs:z.cells.size=i.size)(hs:0 < i.size)(g c n:Nat)(F:List Value)(hF:F.length=c * i.size)(hcell:∀ j v,F[j]?=some v->w.cell? ⟨g,j,none⟩=some v)(hn:n<=c)(hc:(c + 1) * i.bytes<=140737488355328)(hm:c + 1<=maxLen) :
 ∃ G w1 CUR,(∀ ty,(Builtin.append_ #[t,tn] ty #[.slice (some ⟨g,0,none⟩) n c,.int k ((c:Int) + 1 - (n:Int))]).run P w=.ok (.slice (some ⟨w.heap.size,0,none⟩) (c + 1) G) w1)/\c + 1<=G/\G<=maxLen /\
  w1.heap[w.heap.size]?=some (.cells CUR e (0,0))/\CUR.size=G * i.size/\CUR.toList.take (n * i.size)=F.take (n * i.size)/\∀ row,w.grownBy w1 row:=by
 have hns:n * i.size<=c * i.size:=Nat.mul_le_mul_right _ hn;have hl:(F.take (n * i.size)).length=n * i.size:=by rw [List.length_take];omega
 have e1:n + (c + 1 - n)=c + 1:=by omega
 have e2:(((c + 1 - n:Nat)):Int)=(c:Int) + 1 - (n:Int):=by omega
 have hby:(c + 1 - n) * i.bytes<=(c + 1) * i.bytes:=Nat.mul_le_mul_right _ (by omega);have hr:=fun ty=>ql (P:=P) w t tn ty e i z k kn ht htn hi hz ⟨g,0,none⟩ n c (F.take (n * i.size)) hl
  (fun j v hj=>by
    rw [Addr.add_lit,Nat.zero_add];rw [List.getElem?_take] at hj;split at hj
    ·exact hcell j v hj
    ·cases hj)
  (c + 1 - n) (by omega) hs (by omega) (by rw [e1];unfold maxLen at hm;omega) (by omega) (growslice_fits (by omega) (by rw [e1];exact hc))
 simp only [e1,e2] at hr;have hge:=grownCap_ge w (c + 1) c e;refine ⟨_,_,_,hr,hge,grownCap_le_maxLen w (c + 1) c e hm,heap_alloc_new w.drew _,?_,?_,fun row=>⟨rfl,rfl,rfl,by simp,fun j hj _=>heap_alloc_old w.drew _ hj⟩⟩
 · simp only [Array.size_append,List.size_toArray,size_zeroCells,hzs,hl,<-Nat.add_mul]
   congr 1
   omega
 ·simp only [Array.toList_append,List.append_assoc];rw [List.take_left' hl]
def eo(base n:Nat)(v0:Value)(cs:List Value)(w:World)(e:Ending)(w':World):Prop:=∃ v,e=.returned v/\w'.ownsRow base 100 6 v (n + 1) cs/\w.grownBy w' v0.ownBlock
theorem lA(A:Option Addr)(xs:List Last)(n c i:Nat)(x:Last)(hn:Hid (xs.length=n))(hm:n<=1000)(hi:i<=n)(base vb:Nat)(w:World)(hown:w.ownsRow base 100 6 (.slice A n c) n (zd Last.cells xs))(hV:Blk w vb 100 (cL x))(hvb:∀ g,(Value.slice A n c).ownBlock=some g->g≠vb)(hbase:base<=w.heap.size) :
 Calls prog 128 #[.slice A n c,.int .i64 i,.slice (some ⟨vb,0,none⟩) 1 1] w (eo base n (.slice A n c) (zd Last.cells (uR xs i x)) w):=by
 obtain ⟨i0,hi0,hz0,hz1,hz2⟩:=info_parts (P:=prog) (e:=100) (z:=.agg #[.string ByteArray.empty,.int .i64 0,.int .i64 0,.int .i64 0,.int .i64 0,.int .i64 0]) (size:=6) (bytes:=56) sP;obtain ⟨A0,c0,e0,hnc,hcm⟩:=wc hown;injection e0 with e1 _ e2;subst e1 e2;have hnc':(n:Int)<=(c:Int):=by omega
 have hi':(i:Int)<=(n:Int):=by omega
 have hcm':(c:Int)<=9223372036854775807:=by unfold maxLen at hcm;omega
 have hlen:(zd Last.cells xs).length=n * 6:=by rw [yK Last.cells_length,hn.out]
 have hVA:Arr w (some ⟨vb,0,none⟩) x.cells:=zb9 hV;have hones:∀ u ∈ x.cells,u.oneCell'=true:=by simp [Last.cells,Value.oneCell']
 by_cases hin:i=n
 · subst hin;by_cases hci:c=i
   · subst hci;go_in;go_wp2_with (at_builtin;refine vX _ rfl _ _ 28 100 rfl i0 _ 6 56 underlying28 hi0 hz0 hz1 hz2 rfl (by omega) base (.slice A c c) c (zd Last.cells xs) rfl hown ⟨vb,0,none⟩ 1 1 x.cells rfl hVA rfl hones (by unfold maxLen;omega) (by omega) hbase ?_;intro A2 c2 w2 hown2 hg2)
     go_returns;rw [js xs c x hn.out] at hown2;exact ⟨_,rfl,hown2,hg2⟩
   · have hci2:¬ (c=i):=hci;go_in;go_wp2_with (at_builtin;refine vX _ rfl _ _ 28 100 rfl i0 _ 6 56 underlying28 hi0 hz0 hz1 hz2 rfl (by omega) base (.slice A i c) i (zd Last.cells xs) rfl hown ⟨vb,0,none⟩ 1 1 x.cells rfl hVA rfl hones (by unfold maxLen;omega) (by omega) hbase ?_;intro A2 c2 w2 hown2 hg2)
     go_returns;rw [js xs i x hn.out] at hown2;exact ⟨_,rfl,hown2,hg2⟩
 obtain ⟨g,rfl⟩:=xu hown (by omega);have hgvb:=hvb g rfl;have hni:¬ (i:Int)=(n:Int):=by omega
 by_cases hroom:n + 1<=c
 · have hr1:¬ (c:Int) < (n:Int) + 1:=by omega
   have hb2:¬ (c=i + 1):=by omega
   have hb4:¬ (c=i):=by omega
   rcases hown.2 with ⟨h9,_⟩ | ⟨g',cap,cur,hv,hbg,hgg,hnc2,hcm2,hcs,htake⟩
   ·cases h9
   simp only [Value.slice.injEq,Option.some.injEq,Addr.mk.injEq,and_true] at hv;obtain ⟨rfl,_,rfl⟩:=hv;have hsz6:(prog.info? 100).map (·.size)=some 6:=by rw [hi0];simp [hz1]
   have hfe:∀ k,w.frozen? ⟨vb,k,none⟩=false:=fun k=>hV.frozen k;have hsa:w.shape? vb=some (100,6):=by
    have h:=hV;unfold Blk at h;simp [World.shape?,h]
   have hsb:w.shape? g=some (100,c * 6):=by simp [World.shape?,hgg,hcs]
   have hov:∀ lb cb,(callFunc 197 #[.slice (some ⟨vb,0,none⟩) 1 1,.slice (some ⟨g,(i + 1) * 6,none⟩) lb cb]).run prog w=.ok (.value (.bool false)) w:=fun lb cb=>by
    rw [run_callFunc_extern func197 (by kernel_rfl) (by kernel_rfl) (by kernel_rfl) (e:=Extern.SlicesOverlaps.overlaps #[28,28] #[4]) (by kernel_rfl),
     Lib.run_overlaps_apart w 28 4 100 underlying28 6 Tryz.sizeOf100 ⟨vb,0,none⟩ ⟨g,(i + 1) * 6,none⟩ 1 1 lb cb (by simpa using fun h=>hgvb h.symm) 100 100 6 (c * 6) hsa hsb (by omega) (hfe 0) (hfe 6)]
    rfl
   have hfl:(zd Last.cells xs).length=n * 6:=hlen;have hcurl:cur.toList.length=c * 6:=by simpa using hcs
   have hxl:x.cells.length=6:=Last.cells_length x;obtain ⟨L1,hL1⟩:=zN (cur.toList.take (i * 6 + 6) ++ (zd Last.cells xs).drop (i * 6) ++ cur.toList.drop (i * 6 + 6 + ((zd Last.cells xs).drop (i * 6)).length));obtain ⟨L2,hLL2⟩:=zN (L1.take (i * 6) ++ x.cells ++ L1.drop (i * 6 + x.cells.length));have h2c:=fu cur.toList (zd Last.cells xs) x.cells (i * 6) 6 (n * 6) htake (by omega) (by omega) hxl (by omega);dsimp only at h2c;rw [<-hL1,<-hLL2] at h2c;obtain ⟨hL2,hT2⟩:=h2c;have hcell:∀ k v,(zd Last.cells xs)[k]?=some v->w.cell? ⟨g,k,none⟩=some v:=fun k v hk=>by
    have hlt:=(List.getElem?_eq_some_iff.1 hk).1;rw [<-htake,List.getElem?_take] at hk;simp only [World.cell?,hgg];split at hk
    ·simpa using hk
    ·cases hk
   have hD:(zd Last.cells xs).drop (i * 6)=zd Last.cells (xs.drop i):=(sN (by rw [hn.out];exact hi)).symm;have hDl:((zd Last.cells xs).drop (i * 6)).length=n * 6 - i * 6:=by rw [List.length_drop,hfl]
   obtain ⟨W1,hW1⟩:=zN (w.drew.setRow g L1.toArray);have hg1:W1.heap[g]?=some (.cells L1.toArray 100 (0,0)):=by rw [hW1];exact setRow_heap w.drew g _ _ 100 _ hgg
   have hcp1:∀ ty dc sc,(Builtin.copy_ #[28,28] ty #[.slice (some ⟨g,(i + 1) * 6,none⟩) (n - i) dc,.slice (some ⟨g,i * 6,none⟩) (n + 1 - i) sc]).run prog w.drew=.ok (goInt (Nat.min (n + 1 - i) (n - i))) W1:=fun ty dc sc=>by
    rw [hW1];have h:=uN w.drew 28 28 ty 100 6 g ((i + 1) * 6) (n - i) dc ⟨g,i * 6,none⟩ (n + 1 - i) sc cur 100 ((zd Last.cells xs).drop (i * 6)) underlying28 hsz6 hgg
     (by rw [hDl];show _=min _ _ * 6;omega)
     (fun j v hj=>by rw [Addr.add_lit];exact hcell (i * 6 + j) v (by rwa [List.getElem?_drop] at hj))
     (by rw [hDl,hcs];omega)
     (fun v hv=>xX xs v (List.mem_of_mem_drop hv))
    rw [h,hL1,show (i + 1) * 6=i * 6 + 6 by omega]
   have hcp2:∀ ty dc sc,(Builtin.copy_ #[28,28] ty #[.slice (some ⟨g,i * 6,none⟩) (n + 1 - i) dc,.slice (some ⟨vb,0,none⟩) 1 sc]).run prog W1=.ok (goInt (Nat.min 1 (n + 1 - i))) (W1.setRow g L2.toArray):=fun ty dc sc=>by
    have h:=uN W1 28 28 ty 100 6 g (i * 6) (n + 1 - i) dc ⟨vb,0,none⟩ 1 sc L1.toArray 100 x.cells underlying28 hsz6 hg1
     (by rw [hxl];show _=min _ _ * 6;omega)
     (fun j v hj=>by
       rw [Addr.add_lit,Nat.zero_add,hW1,cell_setRow_other _ _ _ _ (fun h=>hgvb h.symm)];rw [World.cell?_drew,hV.cell j];simpa [Last.cells] using hj)
     (by rw [List.size_toArray,hxl,hL1];simp only [List.length_append,List.length_take,List.length_drop,hcurl,hfl];omega)
     (fun v hv=>hones v hv)
    rw [h,hLL2]
   have hw1:IntKind.i64.wrap ((i:Int) + 1)=(i:Int) + 1:=by rw [IntKind.wrap_i64];omega
   have hb1:(0:Int)<=(i:Int) + 1:=by omega
   have htn:((i:Int) + 1).toNat=i + 1:=by omega
   have hb5:(i:Int) + 1<=(n:Int) + 1:=by omega
   have hb3:(i:Int)<=(n:Int) + 1:=by omega
   have hfin:eo base n (.slice (some ⟨g,0,none⟩) n c) (zd Last.cells (uR xs i x)) w (.returned (.slice (some ⟨g,0,none⟩) (n + 1) c)) (W1.setRow g L2.toArray):=by
    refine ⟨_,rfl,⟨?_,.inr ⟨g,c,_,rfl,hbg,setRow_heap _ g _ _ 100 _ hg1,hroom,hcm2,?_,?_⟩⟩,?_⟩
    ·rw [yK Last.cells_length,vc _ _ _ (by rw [hn.out];exact hi),hn.out]
    ·simpa [hcs] using hL2
    ·rw [ud,qI (by rw [hn.out];exact hi),sN (by rw [hn.out];exact hi)];simpa [Nat.succ_mul] using hT2
    · rw [hW1];exact ⟨rfl,rfl,rfl,by rw [setRow_size,setRow_size];exact Nat.le_refl _,fun k _ hk=>by
       rw [setRow_other _ g k _ (fun e=>hk (by simp [Value.ownBlock,e])),setRow_other _ g k _ (fun e=>hk (by simp [Value.ownBlock,e]))];rfl⟩
   clear hW1 hL1 hLL2 hD hDl hL2 hT2 hcell hcs htake hcurl hfl;go_in;go_wp2_with (simp only [hov])
   go_region_law (refine qp rfl _ _ 28 28 rfl _ _ (by simp [Act.eval,Act.put];rfl) (by simp [Act.eval,Act.put];rfl) (hcp1 _ _ _) ?_)
   go_wp2_with (at_builtin;refine rX _ rfl _ _ 28 28 rfl _ _ rfl rfl (hcp2 _ _ _) ?_)
   go_returns;exact hfin
 · have hr1:(c:Int) < (n:Int) + 1:=by omega
   have hcn:c=n:=by omega
   subst hcn;rcases hown.2 with ⟨h9,_⟩ | ⟨g',cap,cur,hv,hbg,hgg,hnc2,hcm2,hcs,htake⟩
   ·cases h9
   simp only [Value.slice.injEq,Option.some.injEq,Addr.mk.injEq,and_true] at hv;obtain ⟨rfl,_,rfl⟩:=hv;have hgw:g < w.heap.size:=(hown.lt g rfl).2;have hvw:vb < w.heap.size:=hV.lt;have hsz6:(prog.info? 100).map (·.size)=some 6:=by rw [hi0];simp [hz1]
   have hxl:x.cells.length=6:=Last.cells_length x;have hcell:∀ k v,(zd Last.cells xs)[k]?=some v->w.cell? ⟨g,k,none⟩=some v:=fun k v hk=>by
    rw [<-htake,List.getElem?_take] at hk;simp only [World.cell?,hgg];split at hk
    ·simpa using hk
    ·cases hk
   obtain ⟨G,w1,CUR,hap,hG1,hG2,hg1,hCs,hCt,hgr1⟩:=bA (P:=prog) w 28 3 100 i0 _ .i64 .i64 underlying28 underlying3 hi0 hz0 (by rw [hz1];rfl) (by rw [hz1];omega) g c i (zd Last.cells xs) (by rw [hz1];exact hlen) hcell (by omega) (by rw [hz2];omega) (by unfold maxLen;omega);rw [hz1] at hCs hCt;obtain ⟨H,hH⟩:=zN w.heap.size;have hDl:((zd Last.cells xs).drop (i * 6)).length=c * 6 - i * 6:=by rw [List.length_drop,hlen]
   obtain ⟨L1,hL1⟩:=zN (CUR.toList.take (i * 6) ++ x.cells ++ CUR.toList.drop (i * 6 + x.cells.length));obtain ⟨L2,hLL2⟩:=zN (L1.take (i * 6 + 6) ++ (zd Last.cells xs).drop (i * 6) ++ L1.drop (i * 6 + 6 + ((zd Last.cells xs).drop (i * 6)).length));have hCl:CUR.toList.length=G * 6:=by simpa using hCs
   have h2c:=mE CUR.toList (zd Last.cells xs) x.cells (i * 6) 6 (c * 6) hlen hCt (by omega) hxl (by omega);dsimp only at h2c;rw [<-hL1,<-hLL2] at h2c;obtain ⟨hL1l,hL2,hT2⟩:=h2c;rw [<-hH] at hap hg1;obtain ⟨W1,hW1⟩:=zN (w1.setRow H L1.toArray);have hgW1:W1.heap[H]?=some (.cells L1.toArray 100 (0,0)):=by rw [hW1];exact setRow_heap w1 H _ _ 100 _ hg1
   have hcp1:∀ ty dc sc,(Builtin.copy_ #[28,28] ty #[.slice (some ⟨H,i * 6,none⟩) (c + 1 - i) dc,.slice (some ⟨vb,0,none⟩) 1 sc]).run prog w1=.ok (goInt (Nat.min 1 (c + 1 - i))) W1:=fun ty dc sc=>by
    have h:=uN w1 28 28 ty 100 6 H (i * 6) (c + 1 - i) dc ⟨vb,0,none⟩ 1 sc CUR 100 x.cells underlying28 hsz6 hg1
     (by rw [hxl];show _=min _ _ * 6;omega)
     (fun j v hj=>by
       rw [Addr.add_lit,Nat.zero_add];refine (hgr1 none).cell ?_ (by simp);rw [hV.cell j];simpa [Last.cells] using hj)
     (by rw [hCs,hxl];omega)
     (fun v hv=>hones v hv)
    rw [h,hW1,hL1]
   have hcp2:∀ ty dc sc,(Builtin.copy_ #[28,28] ty #[.slice (some ⟨H,(i + 1) * 6,none⟩) (c - i) dc,.slice (some ⟨g,i * 6,none⟩) (c - i) sc]).run prog W1.drew=.ok (goInt (Nat.min (c - i) (c - i))) (W1.drew.setRow H L2.toArray):=fun ty dc sc=>by
    have h:=uN W1.drew 28 28 ty 100 6 H ((i + 1) * 6) (c - i) dc ⟨g,i * 6,none⟩ (c - i) sc L1.toArray 100 ((zd Last.cells xs).drop (i * 6)) underlying28 hsz6 hgW1
     (by rw [hDl];show _=min _ _ * 6;omega)
     (fun j v hj=>by
       rw [Addr.add_lit,World.cell?_drew,hW1,cell_setRow_other _ _ _ _ (by show g≠H;omega)];refine (hgr1 none).cell ?_ (by simp);exact hcell (i * 6 + j) v (by rwa [List.getElem?_drop] at hj))
     (by rw [hDl,List.size_toArray,hL1l,hCl];omega)
     (fun v hv=>xX xs v (List.mem_of_mem_drop hv))
    rw [h,hLL2,show (i + 1) * 6=i * 6 + 6 by omega]
   have hfin:eo base c (.slice (some ⟨g,0,none⟩) c c) (zd Last.cells (uR xs i x)) w (.returned (.slice (some ⟨H,0,none⟩) (c + 1) G)) (W1.drew.setRow H L2.toArray):=by
    refine ⟨_,rfl,⟨?_,.inr ⟨H,G,_,rfl,by omega,setRow_heap _ H _ _ 100 _ hgW1,hG1,hG2,?_,?_⟩⟩,?_⟩
    ·rw [yK Last.cells_length,vc _ _ _ (by rw [hn.out];exact hi),hn.out]
    ·rw [List.size_toArray,hL2,hCl]
    ·rw [ud,qI (by rw [hn.out];exact hi),sN (by rw [hn.out];exact hi)];simpa [Nat.succ_mul] using hT2
    · refine ⟨?_,?_,?_,?_,?_⟩
      ·rw [hW1];exact (hgr1 none).os
      ·rw [hW1];exact (hgr1 none).tape
      ·rw [hW1];exact (hgr1 none).output
      · rw [hW1,setRow_size]
        show _<=(w1.setRow H L1.toArray).heap.size
        rw [setRow_size];exact (hgr1 none).size
      · intro k hk hk2;rw [setRow_other _ H k _ (by omega)]
        show W1.heap[k]?=_
        rw [hW1,setRow_other _ H k _ (by omega)];exact (hgr1 none).block k hk (by simp)
   clear hW1 hL1 hLL2 hDl hL2 hT2 hcell hcs htake hCs hCt hCl hL1l hH;have hw1:IntKind.i64.wrap ((i:Int) + 1)=(i:Int) + 1:=by rw [IntKind.wrap_i64];omega
   have hw2:IntKind.i64.wrap ((c:Int) + 1)=(c:Int) + 1:=by rw [IntKind.wrap_i64];omega
   have hw3:IntKind.i64.wrap ((c:Int) + 1 - (i:Int))=(c:Int) + 1 - (i:Int):=by rw [IntKind.wrap_i64];omega
   have hb1:(0:Int)<=(i:Int) + 1:=by omega
   have htn:((i:Int) + 1).toNat=i + 1:=by omega
   have hb5:(i:Int) + 1<=(c:Int) + 1:=by omega
   have hb3:(i:Int)<=(c:Int) + 1:=by omega
   have hb6:¬ (G=i + 1):=by omega
   have hb7:¬ (G=i):=by omega
   have hb8:¬ (c=i):=by omega
   go_in;go_wp2_with (at_builtin;first | refine Lib.wpList_append_run _ rfl _ _ _ _ rfl _ _ rfl rfl _ _ (hap _) ?_ | refine rX _ rfl _ _ 28 28 rfl _ _ rfl rfl (hcp1 _ _ _) ?_)
   go_region_law (refine qp rfl _ _ 28 28 rfl _ _ (by simp [Act.eval,Act.put];rfl) (by simp [Act.eval,Act.put];rfl) (hcp2 _ _ _) ?_)
   go_wp2_with (fail)
   go_returns;exact hfin
theorem OutL.ofN{l:List Last}{p:List Last × Int}{m c:Nat}{A:Option Addr}{co:Int}{w w':World}(hp:p=(l,co))(hm:l.length=m)(h:w'.ownsRow w.heap.size 100 6 (.slice A m c) m (zd Last.cells l))(hb:Below w.heap.size w w') :
 OutL 100 6 p.1.length (zd Last.cells p.1) p.2 w (.returned (.tuple #[.slice A m c,.int .i64 co])) w':=by
 subst hp;exact OutL.mk h hm.symm rfl rfl hb
theorem OutL.noN{p:List Last × Int}{co:Int}{w w':World}(hp:p=([],co))(hb:Below w.heap.size w w') :
 OutL 100 6 p.1.length (zd Last.cells p.1) p.2 w (.returned (.tuple #[.slice none 0 0,.int .i64 co])) w':=by
 subst hp;exact OutL.nil hb
theorem rl(A:Option Addr)(xs:List Last)(n c:Nat)(hn:Hid (xs.length=n))(hm:(n:Int)<=1048576)(w:World)(hA:Arr w A (zd Last.cells xs)) :
 Calls prog 65 #[.slice A n c] w (rf 100 6 n (zd Last.cells xs) w):=by
 cases A with
 | some ad=>exact gU ad xs n c hn hm w hA
 | none=>
   have hx:xs=[]:=by
    cases xs with
    | nil=>rfl
    | cons x r=>
      obtain ⟨ad,h,_⟩:=hA (by simp [zd,Last.cells]);cases h
   subst hx;obtain rfl:n=0:=hn.out.symm;have q22:∀ (w:World) (a:Option Addr) (n c n' c':Nat),(binOp .eql 28 (.slice a n c) (.slice none n' c')).run prog w=.ok (.bool a.isNone) w:=fun w a n c n' c'=>Lib.run_eql_slice_nil w _ _ a n c n' c' underlying28;go_in;go_wp2;go_returns;exact ⟨none,0,rfl,World.ownsRow_nil _ _ _ _,Below.refl _ _⟩
theorem cd(A:Option Addr)(xs:List Last)(n c:Nat)(x:Last)(hn:Hid (xs.length=n))(hm:(n:Int)<=1048576)(hs:Hid (∀ x ∈ xs,x.name.size<=9223372036854775807))(hsx:x.name.size<=9223372036854775807)(w:World)(hA:Arr w A (zd Last.cells xs)) :
 Calls prog 72 #[.slice A n c,.agg #[.string x.name,.int .i64 x.length,.int .i64 x.b,.int .i64 x.i,.int .i64 x.h,.int .i64 x.p]] w (OutL 100 6 (yT xs x).1.length (zd Last.cells (yT xs x).1) (yT xs x).2 w):=by
 have hlen:(zd Last.cells xs).length=n * 6:=by rw [yK Last.cells_length,hn.out]
 go_in;go_wp2_with fail;have hv0:=zc (Below.refl w.heap.size w) (Obj.cells #[.string x.name,.int .i64 x.length,.int .i64 x.b,.int .i64 x.i,.int .i64 x.h,.int .i64 x.p] 100);have hX0:Blk (w.alloc (Obj.cells #[.string x.name,.int .i64 x.length,.int .i64 x.b,.int .i64 x.i,.int .i64 x.h,.int .i64 x.p] 100)) w.heap.size 100 #[Value.string x.name,Value.int .i64 x.length,Value.int .i64 x.b,Value.int .i64 x.i,Value.int .i64 x.h,Value.int .i64 x.p]:=Blk.new _ _ _;refine qS (ti A xs n c hn hm hs _ (hA.below hv0)) fun W hb1=>?_;have hv1:Below w.heap.size w W:=za hv0 hb1;have hX1:=hX0.below hb1;have x0:=hX1.cell 0;have x1:=hX1.cell 1;have x2:=hX1.cell 2;have x3:=hX1.cell 3;have x4:=hX1.cell 4;have x5:=hX1.cell 5;dsimp at x0 x1 x2 x3 x4 x5;clear hX0 hb1;cases ho:yx xs
 ·have HO:=qH ho;clear ho;go_wp2;go_returns;exact OutL.noN (qx HO.out) hv1
 have HO:=qH ho;clear ho;go_wp2_with fail;refine qS (uJ x hsx _) fun W2 hb2=>?_;have hv2:Below w.heap.size w W2:=za hv1 hb2;have hX2:=hX1.below hb2;clear x0 x1 x2 x3 x4 x5;have x0:=hX2.cell 0;dsimp at x0;clear hX1 hb2;cases hq:zy x
 ·have HQ:=qH hq;clear hq;go_wp2;go_returns;exact OutL.noN (qy HO.out HQ.out) hv2
 have HQ:=qH hq;clear hq;go_wp2_with fail;refine qS (oW A xs n c x.name hn hm (qH (tU HO.out)) _ (hA.below hv2)) fun W3 hb3=>?_;have hv3:Below w.heap.size w W3:=za hv2 hb3;have hX3:=hX2.below hb3;clear hX2 hb3 x0;cases hh:xN x.name xs
 case true=>
  have HH:=qH hh;clear hh;go_wp2;go_returns;exact OutL.noN (qw HO.out HQ.out HH.out) hv3
 have HH:=qH hh;clear hh;by_cases hf:n=30
 ·subst hf;go_wp2;go_returns;exact OutL.noN (pD HO.out HQ.out HH.out hn.out) hv3
 have hni:¬ (n:Int)=30:=by omega
 go_wp2_with fail;have hi:lbN x.name xs<=n:=by rw [<-hn.out];exact ve _ _
 have hn30:n<=30:=by rw [<-hn.out];exact wj HO.out
 have hgw:w.heap.size < W3.heap.size:=hX3.lt;obtain ⟨w0,hw0⟩:=zN w;obtain ⟨w3,hw3⟩:=zN W3;subst hw0;subst hw3;refine zH (fun w'=>Below w0.heap.size w0 w'/\Blk w' w0.heap.size 100 #[Value.string x.name,Value.int .i64 x.length,Value.int .i64 x.b,Value.int .i64 x.i,Value.int .i64 x.h,Value.int .i64 x.p]) ?_ (fun hHeld=>?_)
 ·exact ⟨hv3.drew,hX3.below (Below.refl _ _).drew⟩
 clear hv3 hX3 hv0 hv1 hv2;refine zU 0 29 ?_;refine zU 2 31 ?_;refine zT 3 32 rfl (fun w hSw=>by
  have y0:=yc0 hSw.2;have y1:=yc1 hSw.2;have y2:=yc2 hSw.2;have y3:=yc3 hSw.2;have y4:=yc4 hSw.2;have y5:=yc5 hSw.2;go_simp;try with_reducible rfl) ?_
 refine wpAnyH_ready (rs:=[1,4]) (by kernel_rfl) (by simp) ?_;refine AllReadyH.cons (o:={ dst:=some 30,op:=_,type:=_,pos:=_,after:=_,guard:=_ }) rfl (fun K hK=>?_) (AllReadyH.cons (o:={ dst:=some 33,op:=_,type:=_,pos:=_,after:=_,guard:=_ }) rfl (fun K hK=>?_) AllReadyH.nil)
 · go_simp;go_split_ands;refine (rl A xs n c hn hm _ (hA.below (by assumption))).mono ?_;rintro e W ⟨A2,c2,rfl,hown,hb⟩;replace hown:W.ownsRow w3.heap.size 100 6 (.slice A2 n c2) n (zd Last.cells xs):=hown;have hbs:w3.heap.size<=W.heap.size:=hb.size;go_wp2_with fail;refine hK.out _ _ ?_ (fun hHeld=>?_)
   ·(try dsimp only);go_split_ands;exact ⟨za (by assumption) hb,Blk.below (by assumption) hb⟩
   clear hK K;(try simp only [Act.put,zA,zB,zC]);refine zR 4 (some 33) rfl (fun K hK=>?_);go_simp;go_split_ands;obtain ⟨W2,hW2⟩:=zN (World.alloc W (Obj.cells #[.string x.name,.int .i64 x.length,.int .i64 x.b,.int .i64 x.i,.int .i64 x.h,.int .i64 x.p] 100));obtain ⟨gy,hgy⟩:=zN ((W).heap.size);have hb:Below (W).heap.size (W) W2:=by rw [hW2];exact zc (Below.refl _ _) _
   have hY:Blk W2 gy 100 #[.string x.name,.int .i64 x.length,.int .i64 x.b,.int .i64 x.i,.int .i64 x.h,.int .i64 x.p]:=by rw [hW2,hgy];exact Blk.new _ _ _
   have hgne:∀ k,(Value.slice A2 n c2).ownBlock=some k->k≠gy:=fun k hk=>by have:=(hown.lt k hk).2;omega
   replace hown:=ze hown hb;replace hbs:w3.heap.size<=W2.heap.size:=Nat.le_trans hbs hb.size;rw [<-hW2,<-hgy];clear hW2 hgy;refine hK.out _ _ ?_ (fun hHeld=>?_)
   ·(try dsimp only);go_split_ands;exact ⟨za (by assumption) hb,Blk.below (by assumption) hb⟩
   clear hK K;(try simp only [Act.put,zA,zB,zC]);refine zR 5 (some 34) rfl (fun K hK=>?_);go_simp;go_split_ands;refine (lA A2 xs n c2 (lbN x.name xs) x hn (by omega) hi w3.heap.size gy _ hown hY hgne (by assumption)).mono ?_;rintro e W4 ⟨v,rfl,hownF,hg2⟩;go_wp2_with fail;refine hK.out _ _ ?_ (fun hHeld=>?_)
   ·(try dsimp only);go_split_ands;exact ⟨zi (by assumption) hg2 (fun k e=>by have h1:=zn hown k e;omega),Blk.grown (by assumption) hg2 (fun e=>by have h1:=zn hown _ e.symm;omega)⟩
   clear hK K;(try simp only [Act.put,zA,zB,zC]);refine zU 6 4 ?_;refine zU 7 5 ?_;refine zD ?_;go_split_ands;have hv:=(by assumption:Below w0.heap.size w0 _)
   go_wp2_with fail;obtain ⟨A9,c9,rfl,_,_⟩:=wc hownF;go_returns;exact OutL.ofN (uW HO.out HQ.out HH.out (by rw [hn.out];exact hf)) (by rw [vc _ _ _ (ve _ _),hn.out]) (yF hownF (by omega)) hv
 · go_simp;go_split_ands;obtain ⟨W2,hW2⟩:=zN ((World.alloc w3 (Obj.cells #[.string x.name,.int .i64 x.length,.int .i64 x.b,.int .i64 x.i,.int .i64 x.h,.int .i64 x.p] 100)).drew);obtain ⟨gy,hgy⟩:=zN w3.heap.size;have hb:Below (w3.drew).heap.size (w3.drew) W2:=by rw [hW2];exact zc (Below.refl w3.drew.heap.size w3.drew) _
   have hY:Blk W2 gy 100 #[.string x.name,.int .i64 x.length,.int .i64 x.b,.int .i64 x.i,.int .i64 x.h,.int .i64 x.p]:=by rw [hW2,hgy];exact Blk.new w3.drew _ _
   have hbs:w3.heap.size<=W2.heap.size:=hb.size;have hgy1:gy < W2.heap.size:=hY.lt;rw [<-hW2,<-hgy];clear hW2 hgy;refine hK.out _ _ ?_ (fun hHeld=>?_)
   ·(try dsimp only);go_split_ands;exact ⟨za (by assumption) hb,Blk.below (by assumption) hb⟩
   clear hK K;(try simp only [Act.put,zA,zB,zC]);refine zR 1 (some 30) rfl (fun K hK=>?_);go_simp;go_split_ands;refine (rl A xs n c hn hm _ (hA.below (by assumption))).mono ?_;rintro e W ⟨A2,c2,rfl,hown,hb⟩;have hgne:∀ k,(Value.slice A2 n c2).ownBlock=some k->k≠gy:=fun k hk=>by have:=zn hown k hk;omega
   replace hown:=yF hown hbs;replace hbs:w3.heap.size<=W.heap.size:=Nat.le_trans hbs hb.size;replace hY:=hY.below hb;go_wp2_with fail;refine hK.out _ _ ?_ (fun hHeld=>?_)
   ·(try dsimp only);go_split_ands;exact ⟨za (by assumption) hb,Blk.below (by assumption) hb⟩
   clear hK K;(try simp only [Act.put,zA,zB,zC]);refine zR 5 (some 34) rfl (fun K hK=>?_);go_simp;go_split_ands;refine (lA A2 xs n c2 (lbN x.name xs) x hn (by omega) hi w3.heap.size gy _ hown hY hgne (by assumption)).mono ?_;rintro e W4 ⟨v,rfl,hownF,hg2⟩;go_wp2_with fail;refine hK.out _ _ ?_ (fun hHeld=>?_)
   ·(try dsimp only);go_split_ands;exact ⟨zi (by assumption) hg2 (fun k e=>by have h1:=zn hown k e;omega),Blk.grown (by assumption) hg2 (fun e=>by have h1:=zn hown _ e.symm;omega)⟩
   clear hK K;(try simp only [Act.put,zA,zB,zC]);refine zU 6 4 ?_;refine zU 7 5 ?_;refine zD ?_;go_split_ands;have hv:=(by assumption:Below w0.heap.size w0 _)
   go_wp2_with fail;obtain ⟨A9,c9,rfl,_,_⟩:=wc hownF;go_returns;exact OutL.ofN (uW HO.out HQ.out HH.out (by rw [hn.out];exact hf)) (by rw [vc _ _ _ (ve _ _),hn.out]) (yF hownF (by omega)) hv
def nmV(xs:List Last)(nm:ByteArray):Last × Int × Int:=if (yw xs nm).2=0 then ((xs[(yw xs nm).1.toNat]?).getD ut,(yw xs nm).1,0) else (ut,0,(yw xs nm).2)
theorem jK{xs:List Last}{nm:ByteArray}(h:¬ (yw xs nm).2=0):nmV xs nm=(ut,0,(yw xs nm).2):=by unfold nmV;rw [if_neg h]
theorem mS{xs:List Last}{nm:ByteArray}(h:(yw xs nm).2=0):∃ (k:Nat) (x:Last),(yw xs nm).1=(k:Int)/\xs[k]?=some x/\nmV xs nm=(x,(k:Int),0):=by
 obtain ⟨h1,⟨x,hx,_⟩,_⟩:=lL h;refine ⟨lbN nm xs,x,h1,hx,?_⟩;unfold nmV;rw [if_pos h,h1,Int.toNat_natCast,hx];rfl
def mo(p:Last × Int × Int):Array Value:=#[.agg #[.string p.1.name,.int .i64 p.1.length,.int .i64 p.1.b,.int .i64 p.1.i,.int .i64 p.1.h,.int .i64 p.1.p],.int .i64 p.2.1,.int .i64 p.2.2]
theorem oV(gd:Nat)(A:Option Addr)(xs:List Last)(n c:Nat)(nm:ByteArray)(hn:Hid (xs.length=n))(hm:(n:Int)<=1048576)(hs:Hid (∀ x ∈ xs,x.name.size<=9223372036854775807))(hz:nm.size<=9223372036854775807)(w:World)(hA:Arr w A (zd Last.cells xs))(h4:w.cell? ⟨gd,4,none⟩=some (.slice A n c)) :
 Calls prog 76 #[.pointer (some ⟨gd,0,none⟩),.string nm] w (RetT (mo (nmV xs nm)) w):=by
 obtain ⟨W,hW⟩:=zN (w.alloc (Obj.cells cM 100));obtain ⟨g,hg⟩:=zN w.heap.size;have hv:Below w.heap.size w W:=by rw [hW];exact zc (Below.refl _ _) _
 have HB:Hid (Blk W g 100 cM):=qH (by rw [hW,hg];exact Blk.new _ _ _);have hgw:w.heap.size<=g:=by omega
 have HA:=qH (hA.below hv);have k4:=zb hv h4;have H4:=qH k4;have HP:=fun w h=>gu A xs n c nm hn hm hs hz w h;have HNO:=qH (@jK xs nm);have HYES:=qH (@mS xs nm);obtain ⟨co,hco⟩:=zN ((yw xs nm).2);obtain ⟨pl,hpl⟩:=zN ((yw xs nm).1);rw [<-hco] at HNO HYES;rw [<-hpl] at HYES;rw [<-hco,<-hpl] at HP;replace HP:=qH HP;have HW:=qH hW;have HG:=qH hg;clear hW hg hA h4 hco hpl;go_in;go_upto_region 1 with fail;rw [<-HW.out,<-HG.out];clear HW HG;go_wp2_with fail;refine qS (HP.out _ HA.out) fun W1 hb=>?_;replace HA:=qH (HA.out.below hb);replace HB:=qH (HB.out.below hb);replace H4:=qH (zb hb H4.out);replace hv:=za hv hb;clear hb HP k4;by_cases hc:co=0
 case neg=>
  have HR:=qH (HNO.out hc);clear HNO HYES HA H4;go_wp2_with (refine yS g cM HB.out ?_)
  have hF:Blk (World.setRow W1 g cM) g 100 cM:=setRow_heap _ _ _ _ _ _ HB.out;have hbF:=zG hv hgw cM;obtain ⟨WF,hWF⟩:=zN (World.setRow W1 g cM);rw [<-hWF] at hF hbF |-;clear hWF;obtain ⟨m0,m1,m2,m3,m4,m5⟩:=qC6 hF;go_wp2_with fail;try simp only [Exit.inBlock,Exit.then]
  refine bodyPost_ret (v:=.tuple #[.agg #[.string ⟨#[]⟩,.int .i64 0,.int .i64 0,.int .i64 0,.int .i64 0,.int .i64 0],.int .i64 0,.int .i64 co]) (by simp [results,results76,go_sem,m0,m1,m2,m3,m4,m5]) rfl ?_;exact RetT.mk (by rw [HR.out];rfl) hbF
 case pos=>
 subst hc;obtain ⟨k,x,hk,hx,hR⟩:=HYES.out rfl;subst hk;obtain ⟨ad,had,hab,c0,c1,c2,c3,c4,c5⟩:=Last.at_ HA.out hx;subst had;have k4:=H4.out;have HR:=qH hR;have hkn:k < n:=by rw [<-hn.out];exact (List.getElem?_eq_some_iff.1 hx).1
 have hk0:(0:Int)<=(k:Int):=by omega
 have hk1:(k:Int) < (n:Int):=by omega
 clear HNO HYES HA H4 hx hR hkn;go_wp2_with (refine yS g (cL x) HB.out ?_)
 have hF:Blk (World.setRow W1 g (cL x)) g 100 (cL x):=setRow_heap _ _ _ _ _ _ HB.out;have hbF:=zG hv hgw (cL x);obtain ⟨WF,hWF⟩:=zN (World.setRow W1 g (cL x));rw [<-hWF] at hF hbF |-;clear hWF;obtain ⟨m0,m1,m2,m3,m4,m5⟩:=qC6 hF;go_wp2_with fail;try simp only [Exit.inBlock,Exit.then]
 refine bodyPost_ret (v:=.tuple #[.agg #[.string x.name,.int .i64 x.length,.int .i64 x.b,.int .i64 x.i,.int .i64 x.h,.int .i64 x.p],.int .i64 (k:Int),.int .i64 0]) (by simp [results,results76,go_sem,m0,m1,m2,m3,m4,m5]) rfl ?_;exact RetT.mk (by rw [HR.out];rfl) hbF
def zbN(f:Foot)(xs:List Last)(n:Nat)(s:Style)(lg:ByteArray)(w:World)(e:Ending)(w':World):Prop:=∃ (A2:Option Addr) (c2:Nat),e=.returned (.agg #[.int .i64 f.length,.int .i64 f.b,.int .i64 f.i,.int .i64 f.h,.slice A2 n c2,.string s.u,.string s.c,.string s.l,.string s.s,.int .i64 s.t,.int .i64 s.h,.int .i64 s.e,.int .i64 s.d,.bool s.q,.string lg])/\w'.ownsRow w.heap.size 100 6 (.slice A2 n c2) n (zd Last.cells xs)/\Below w.heap.size w w'
theorem nO(f:Foot)(s:Style)(lg:ByteArray)(A:Option Addr)(xs:List Last)(n c:Nat)(hn:Hid (xs.length=n))(hm:(n:Int)<=1048576)(w:World)(hA:Arr w A (zd Last.cells xs)) :
 Calls prog 32 #[.agg #[.int .i64 f.length,.int .i64 f.b,.int .i64 f.i,.int .i64 f.h,.slice A n c,.string s.u,.string s.c,.string s.l,.string s.s,.int .i64 s.t,.int .i64 s.h,.int .i64 s.e,.int .i64 s.d,.bool s.q,.string lg]] w (zbN f xs n s lg w):=by
 obtain ⟨W,hW⟩:=zN ((w.alloc (Obj.cells (cD f A n c s lg) 32)).alloc (Obj.cells cE 32));obtain ⟨g0,hg0⟩:=zN w.heap.size;obtain ⟨g1,hg1⟩:=zN (w.heap.size + 1);have hv:Below w.heap.size w W:=by rw [hW];exact zc (zc (Below.refl _ _) _) _
 have H0:Hid (Blk W g0 32 (cD f A n c s lg)):=qH (by rw [hW,hg0];exact (Blk.new _ _ _).alloc _);have H1:Hid (Blk W g1 32 cE):=qH (by rw [hW,hg1];have h:=Blk.new (w.alloc (Obj.cells (cD f A n c s lg) 32)) 32 cE;rw [World.size_alloc] at h;exact h);have HCL:=qH (rl A xs n c hn hm W (hA.below hv));have hge0:w.heap.size<=g0:=by omega
 have hge:w.heap.size<=g1:=by omega
 have hne:g0≠g1:=by omega
 have hgW:Hid (g0 < W.heap.size/\g1 < W.heap.size/\w.heap.size<=W.heap.size):=qH ⟨H0.out.lt,H1.out.lt,hv.size⟩;have k4:=yc4 H0.out;have HW:=qH hW;have G0:=qH hg0;have G1:=qH hg1;clear hW hg0 hg1 hA;go_in;go_upto_region 1 with fail;rw [<-HW.out,<-G1.out,<-G0.out];clear HW G0 G1;go_wp2_with fail;refine HCL.out.mono ?_;rintro e W2 ⟨A2,c2,rfl,hown,hb⟩;replace H0:=qH (H0.out.below hb);replace H1:=qH (H1.out.below hb);have HOW:=qH hown;have hsz:=hv.size;replace hv:=za hv hb;clear hb HCL k4 hown;have hl0:=H0.out.lt;have fz:W2.frozen? ⟨g0,4,none⟩=false:=H0.out.frozen 4;have k4:=yc4 H0.out;have z1:W2.frozen? ⟨g1,0,none⟩=false:=H1.out.frozen 0;have hcp:=HOW.out;go_upto_region 2 with fail;clear fz k4 z1 hcp;have h0:Blk (W2.setCell ⟨g0,4,none⟩ (.slice A2 n c2)) g0 32 (cD f A2 n c2 s lg):=H0.out.set_ 4 _;have h1:Blk (W2.setCell ⟨g0,4,none⟩ (.slice A2 n c2)) g1 32 cE:=H1.out.far (fun e=>hne e.symm) _;have ho:=yy HOW.out (p:=⟨g0,4,none⟩) (fun k e=>by have:=zn HOW.out k e;have:=hgW.out;dsimp only;omega) (.slice A2 n c2);have hv3:=zk hv (p:=⟨g0,4,none⟩) hge0 (.slice A2 n c2);obtain ⟨W3,hW3⟩:=zN (W2.setCell ⟨g0,4,none⟩ (.slice A2 n c2));rw [<-hW3] at h0 h1 ho hv3 |-;clear hW3 H0 H1 HOW hv;have H0:=qH h0;have H1:=qH h1;have HOW:=qH ho;clear h0 h1 ho;go_wp2_with (first | (refine yL g0 H0.out underlying32 ?_) | (refine yS g1 (cD f A2 n c2 s lg) H1.out ?_))
 refine bodyPost_ret (results_cell_row (P:=prog) rfl _ _ g1 32 (cD f A2 n c2 s lg) (0,0) _ rfl ?_ underlying32 rfl (by kernel_rfl)) rfl ?_
 ·exact setRow_heap _ _ _ _ _ _ H1.out
 ·exact ⟨A2,c2,rfl,yF (wD HOW.out (fun k e=>by have:=zn HOW.out k e;have:=hgW.out;omega) _) (by have:=hgW.out;omega),zg hv3 hge _⟩
end Go.Proofs.YtpiehlfffjhoaaaGreatDoor
