/- What the laws' own helpers do to structs and slices of structs: weights,copies,equality,marks. -/
import Derived.Test.YtpiehlfffjhoaaaGreatDoorQ0
namespace Go.Proofs.YtpiehlfffjhoaaaGreatDoor
open Go.RowKit Go.Proofs.Tryz
set_option maxRecDepth 100000
set_option maxHeartbeats 1000000
theorem dy(k:Nat)(h1:(k:Int)<=1000000000)(w:World) :
 Calls prog 55 #[.int .i64 k] w (Ret (.string (uM k)) w):=by
 have hcv:=aD (P:=prog) 22 9 5 underlying22 underlying5 underlying9;go_in;go_wp2_with fail
 · have hk0:k=0:=by omega
   go_returns;refine Ret.mk (vs ?_) (by go_grown);rw [uM,if_pos hk0]
 · have HT:=qH (show pa k k []=pa k k [] from rfl)
   go_loopw [0,3] (fun kv o wr=>∃ f m:Nat,∃ acc:List UInt8,m<=f/\(m:Int)<=1000000000/\kv=.int .i64 m/\o=.string ⟨acc.toArray⟩/\acc.length + f<=k/\Hid (pa k k []=pa f m acc)/\Below w.heap.size w wr) (fun kv _ _=>(intOf kv).toNat)
   case atStart=>exact ⟨k,k,[],by omega,h1,rfl,rfl,by simp,HT,Below.refl _ _⟩
   case round=>
    clear HT;obtain ⟨f,m,acc,hf,hm,rfl,rfl,hl,HT,hbel⟩:=hrel;by_cases hm0:0 < m
    · go_wp2_with fail;obtain ⟨f',rfl⟩:∃ f',f=f' + 1:=⟨f - 1,by omega⟩
      refine ⟨⟨f',m / 10,(48 + UInt8.ofNat (m % 10)) :: acc,by omega,by omega,by go_num,?_,by simp;omega,?_,zc hbel _⟩,by simp [intOf];omega⟩
      ·rfl
      ·refine qH (HT.out.trans ?_);rw [pa,if_neg (by omega)]
    · go_wp2;go_returns;refine Ret.mk (vs ?_) hbel;have hm1:m=0:=by omega
      have h3:pa f m acc=acc:=by cases f <;> simp [pa,hm1]
      rw [uM,if_neg (by assumption),HT.out,h3];rfl
theorem sS(q:Int)(h0:0<=q)(h1:q<=1000000000)(w:World):Calls prog 55 #[.int .i64 q] w (Ret (.string (uM q.toNat)) w):=by
 obtain ⟨k,rfl⟩:=Int.eq_ofNat_of_zero_le h0;exact dy k h1 w
structure Entry where
 day:Int
 what:ByteArray
 value:Int
def Entry.cells(x:Entry):List Value:=[.int .i64 x.day,.string x.what,.int .i64 x.value]
def Entry.sizes(x:Entry):List Nat:=[x.what.size]
theorem Entry.cells_length(x:Entry):x.cells.length=3:=rfl
theorem Entry.at_{w:World}{A:Option Addr}{xs:List Entry}{k:Nat}{x:Entry}(h:Arr w A (zd Entry.cells xs))(hk:xs[k]?=some x) :
 ∃ ad,A=some ad/\ad.block < w.heap.size/\w.cell? (ad.add (k * 3))=some (.int .i64 x.day) /\
  w.cell? ⟨(ad.add (k * 3)).block,(ad.add (k * 3)).off + 1,none⟩=some (.string x.what) /\
  w.cell? ⟨(ad.add (k * 3)).block,(ad.add (k * 3)).off + 2,none⟩=some (.int .i64 x.value):=by
 obtain ⟨ad,e,hb,h0,hj⟩:=h.elem Entry.cells_length hk (by omega);exact ⟨ad,e,hb,h0,hj 1 (by omega) (by omega),hj 2 (by omega) (by omega)⟩
def Entry.beq(x y:Entry):Bool:=decide (x.day=y.day) && decide (x.what=y.what) && decide (x.value=y.value)
theorem Entry.beq_iff(x y:Entry):x.beq y=true ↔ x=y:=by
 cases x;cases y;simp [Entry.beq,and_assoc]
theorem Entry.beq_self(x:Entry):x.beq x=true:=(Entry.beq_iff x x).2 rfl
structure Last where
 name:ByteArray
 length:Int
 b:Int
 i:Int
 h:Int
 p:Int
def Last.cells(x:Last):List Value:=[.string x.name,.int .i64 x.length,.int .i64 x.b,.int .i64 x.i,.int .i64 x.h,.int .i64 x.p]
def Last.sizes(x:Last):List Nat:=[x.name.size]
theorem Last.cells_length(x:Last):x.cells.length=6:=rfl
theorem Last.at_{w:World}{A:Option Addr}{xs:List Last}{k:Nat}{x:Last}(h:Arr w A (zd Last.cells xs))(hk:xs[k]?=some x) :
 ∃ ad,A=some ad/\ad.block < w.heap.size/\w.cell? (ad.add (k * 6))=some (.string x.name) /\
  w.cell? ⟨(ad.add (k * 6)).block,(ad.add (k * 6)).off + 1,none⟩=some (.int .i64 x.length) /\
  w.cell? ⟨(ad.add (k * 6)).block,(ad.add (k * 6)).off + 2,none⟩=some (.int .i64 x.b) /\
  w.cell? ⟨(ad.add (k * 6)).block,(ad.add (k * 6)).off + 3,none⟩=some (.int .i64 x.i) /\
  w.cell? ⟨(ad.add (k * 6)).block,(ad.add (k * 6)).off + 4,none⟩=some (.int .i64 x.h) /\
  w.cell? ⟨(ad.add (k * 6)).block,(ad.add (k * 6)).off + 5,none⟩=some (.int .i64 x.p):=by
 obtain ⟨ad,e,hb,h0,hj⟩:=h.elem Last.cells_length hk (by omega);exact ⟨ad,e,hb,h0,hj 1 (by omega) (by omega),hj 2 (by omega) (by omega),hj 3 (by omega) (by omega),hj 4 (by omega) (by omega),hj 5 (by omega) (by omega)⟩
def Last.beq(x y:Last):Bool:=decide (x.name=y.name) && decide (x.length=y.length) && decide (x.b=y.b) && decide (x.i=y.i) && decide (x.h=y.h) && decide (x.p=y.p)
theorem Last.beq_iff(x y:Last):x.beq y=true ↔ x=y:=by
 cases x;cases y;simp [Last.beq,and_assoc]
theorem Last.beq_self(x:Last):x.beq x=true:=(Last.beq_iff x x).2 rfl
theorem zbD(x:Last)(left:Int)(hs0:x.name.size<=9223372036854775807)(h0:0<=left)(h1:left<=1048576)(w:World) :
 Calls prog 110 #[.agg #[.string x.name,.int .i64 x.length,.int .i64 x.b,.int .i64 x.i,.int .i64 x.h,.int .i64 x.p],.int .i64 left] w (Ret (.int .i64 (xf x.sizes left)) w):=by
 go_in
 go_wp2
 ·go_returns;refine Ret.mk (vi ?_) (by go_grown);simp only [Last.sizes,xf];rw [if_pos (by omega)]
 ·go_returns;refine Ret.mk (vi ?_) (by go_grown);simp only [Last.sizes,xf];rw [if_neg (by omega)]
theorem aP(A:Option Addr)(xs:List Last)(n c:Nat)(left:Int)(hn:Hid (xs.length=n))(hm:n<=9223372036854775807)(hs:Hid (∀ x ∈ xs,x.name.size<=9223372036854775807))(h0:0<=left)(h1:left<=1048576)(w:World)(hA:Arr w A (zd Last.cells xs)) :
 Calls prog 45 #[.slice A n c,.int .i64 left] w (Ret (.int .i64 (szS Last.sizes xs left)) w):=by
 go_in;go_wp2_with fail
 ·go_returns;refine Ret.mk (vi ?_) (by go_grown);rw [szS,hn.out];exact (oy (by assumption)).symm
 have hR:=qH (show szS Last.sizes xs left=xf ((xs.drop 0).flatMap Last.sizes) (left - n) by rw [szS,hn.out,ox (by assumption)];rfl)
 go_loopw [1,5] (fun l i wr=>∃ k:Nat,∃ lf:Int,k<=n/\i=.int .i64 k/\l=.int .i64 lf/\0<=lf/\lf<=1048576/\Hid (szS Last.sizes xs left=xf ((xs.drop k).flatMap Last.sizes) lf)/\Below w.heap.size w wr) (fun _ i _=>n - (intOf i).toNat)
 case atStart=>exact ⟨0,_,by omega,rfl,rfl,by omega,by omega,hR,Below.refl _ _⟩
 case round=>
  clear hR;obtain ⟨k,lf,hk,rfl,rfl,hl0,hl1,hR,hbel⟩:=hrel;by_cases hlt:k < n
  · obtain ⟨x,hx⟩:=zx (xs:=xs) (k:=k) (by rw [hn.out];exact hlt);obtain ⟨ad,rfl,hab,c0,c1,c2,c3,c4,c5⟩:=Last.at_ (hA.below hbel) hx;have hR2:=qH (hR.out.trans (by rw [yM hx,List.flatMap_cons]:_=xf (x.sizes ++ (xs.drop (k + 1)).flatMap Last.sizes) lf));have hx0:=hs.out x (List.mem_of_getElem? hx);clear hR hx;go_wp2_with fail;refine (zbD x lf hx0 hl0 hl1 _).mono ?_;rintro e w1 ⟨rfl,hb1⟩;have hle:=mV x.sizes lf hl0;by_cases hneg:xf x.sizes lf < 0
    ·go_wp2;go_returns;refine Ret.mk (vi ?_) (za hbel hb1);rw [hR2.out,mU _ _ _ hl0 hneg]
    · go_wp2_with fail
      go_roundw
      case rel=>
       refine ⟨k + 1,xf x.sizes lf,by omega,by go_num,rfl,by omega,by omega,?_,za hbel hb1⟩;exact qH (hR2.out.trans (fq _ _ _ (by omega)))
      case measure=>simp [intOf];omega
  ·have hR2:=qH (hR.out.trans (by rw [List.drop_eq_nil_of_le (by rw [hn.out];omega)];rfl:_=lf));clear hR;go_wp2;go_returns;refine Ret.mk (vi ?_) hbel;rw [hR2.out]
theorem zbK(x:Last)(w:World) :
 Calls prog 111 #[.agg #[.string x.name,.int .i64 x.length,.int .i64 x.b,.int .i64 x.i,.int .i64 x.h,.int .i64 x.p]] w (Ret (.agg #[.string x.name,.int .i64 x.length,.int .i64 x.b,.int .i64 x.i,.int .i64 x.h,.int .i64 x.p]) w):=by
 go_in
 go_wp2
 go_returns;exact Ret.mk rfl (by go_grown)
theorem lz:(prog.info? 100).map (fun i=>(i.zero,i.size,i.bytes))=some (some (.agg #[.string ByteArray.empty,.int .i64 0,.int .i64 0,.int .i64 0,.int .i64 0,.int .i64 0]),6,56):=by kernel_rfl
theorem aS(A:Option Addr)(xs:List Last)(n c:Nat)(hn:Hid (xs.length=n))(hm:(n:Int)<=1048576)(w:World)(hA:Arr w A (zd Last.cells xs)) :
 Calls prog 49 #[.slice A n c] w (zcU 100 6 n (zd Last.cells xs) w):=by
 obtain ⟨i0,hi0,hz0,hz1,hz2⟩:=info_parts (P:=prog) (e:=100) (z:=.agg #[.string ByteArray.empty,.int .i64 0,.int .i64 0,.int .i64 0,.int .i64 0,.int .i64 0]) (size:=6) (bytes:=56) lz;go_in;go_wp2_with (at_make;refine wpList_make_full _ rfl _ _ 28 rfl w.heap.size 100 i0 _ 6 underlying28 hi0 hz0 hz1 _ _ _ _ n rfl rfl rfl rfl (by rw [hz2];omega) (by unfold maxLen;omega) (Nat.le_refl _) ?_;intro w1 hown hg1)
 have hL:=hown.1;generalize (madeCells (Value.agg #[.string ByteArray.empty,.int .i64 0,.int .i64 0,.int .i64 0,.int .i64 0,.int .i64 0]).cells (n * 6)).toList=L at hown hL;obtain ⟨g,hg⟩:∃ g,g=w.heap.size:=⟨_,rfl⟩
 have hbel0:Below w.heap.size w w1:=zi (Below.refl _ _) hg1 (by simp);rw [<-hg] at hown |-;have hgB:w.heap.size<=g:=by omega
 have HG:=qH hg;clear hg;have HL:=qH hL;clear hL
 go_loopw [4] (fun i wr=>∃ k:Nat,k<=n/\i=.int .i64 k/\wr.ownsRow g 100 6 (.slice (some ⟨g,0,none⟩) n n) n (zd Last.cells (xs.take k) ++ L.drop (k * 6))/\Below w.heap.size w wr) (fun i _=>n - (intOf i).toNat)
 case atStart=>exact ⟨0,by omega,rfl,by simpa [zd] using hown,hbel0⟩
 case round=>
  clear hown hg1 hbel0;obtain ⟨k,hk,rfl,hown,hbel⟩:=hrel;by_cases hlt:k < n
  · obtain ⟨x,hx⟩:=zx (xs:=xs) (k:=k) (by rw [hn.out];exact hlt);obtain ⟨ad,rfl,hab,c0,c1,c2,c3,c4,c5⟩:=Last.at_ (hA.below hbel) hx;have HX:=qH hx;clear hx;go_wp2_with fail;refine (zbK x _).mono ?_;rintro e w2 ⟨rfl,hb1⟩;have hown2:=ze hown hb1;have hlen:=hown2.1;obtain ⟨u0',d0⟩:=wC hown2 (j:=k * 6) (by omega);obtain ⟨u1',d1⟩:=wC hown2 (j:=k * 6 + 1) (by omega);obtain ⟨u2',d2⟩:=wC hown2 (j:=k * 6 + 2) (by omega);obtain ⟨u3',d3⟩:=wC hown2 (j:=k * 6 + 3) (by omega);obtain ⟨u4',d4⟩:=wC hown2 (j:=k * 6 + 4) (by omega);obtain ⟨u5',d5⟩:=wC hown2 (j:=k * 6 + 5) (by omega);have f0:=hown2.frozenAt (k * 6);have f1:=hown2.frozenAt (k * 6 + 1);have f2:=hown2.frozenAt (k * 6 + 2);have f3:=hown2.frozenAt (k * 6 + 3);have f4:=hown2.frozenAt (k * 6 + 4);have f5:=hown2.frozenAt (k * 6 + 5);clear hlen;go_wp2_with fail;refine ⟨⟨k + 1,by omega,by go_num,?_,?_⟩,by simp [intOf];omega⟩
    ·have h3:=((((((hown2.stored (k * 6) (.string x.name)).1.stored (k * 6 + 1) (.int .i64 x.length)).1.stored (k * 6 + 2) (.int .i64 x.b)).1.stored (k * 6 + 3) (.int .i64 x.i)).1.stored (k * 6 + 4) (.int .i64 x.h)).1.stored (k * 6 + 5) (.int .i64 x.p)).1;rw [<-pK Last.cells_length HX.out hn.out L HL.out];exact h3
    ·refine zk (zk (zk (zk (zk (zk (za hbel hb1) ?_ _) ?_ _) ?_ _) ?_ _) ?_ _) ?_ _ <;> exact hgB
  · have hkn:k=n:=by omega
    go_wp2;go_returns;subst hkn;rw [nr hn.out L HL.out] at hown;exact ⟨g,rfl,by rw [<-HG.out];exact hown,hbel⟩
theorem zaG(x y:Last)(w:World) :
 Calls prog 112 #[.agg #[.string x.name,.int .i64 x.length,.int .i64 x.b,.int .i64 x.i,.int .i64 x.h,.int .i64 x.p],.agg #[.string y.name,.int .i64 y.length,.int .i64 y.b,.int .i64 y.i,.int .i64 y.h,.int .i64 y.p]] w (Ret (.bool (x.beq y)) w):=by
 go_in
 go_wp2
 all_goals
  go_returns;refine Ret.mk (vb ?_) (by go_grown)
  simp_all [Last.beq,tl]
theorem cK(A B:Option Addr)(xs ys:List Last)(n m c d:Nat)(hn:Hid (xs.length=n))(hm:Hid (ys.length=m))(hz:(n:Int)<=1048576)(w:World)(hA:Arr w A (zd Last.cells xs))(hB:Arr w B (zd Last.cells ys)) :
 Calls prog 52 #[.slice A n c,.slice B m d] w (Ret (.bool (wI Last.beq xs ys)) w):=by
 by_cases hnm:n=m
 case neg=>
  have hne:((n:Int) != (m:Int))=true:=by rw [bne_iff_ne];omega
  go_in
  go_wp2
  go_returns;refine Ret.mk (vb ?_) (by go_grown);rw [fl _ _ _ (by rw [hn.out,hm.out];exact hnm)]
 subst hnm;have hne:((n:Int) != (n:Int))=false:=by simp
 go_in;go_wp2_with fail;have hR:=qH (show wI Last.beq xs ys=wI Last.beq (xs.drop 0) (ys.drop 0) from rfl)
 go_loopw [5] (fun i wr=>∃ k:Nat,k<=n/\i=.int .i64 k/\Hid (wI Last.beq xs ys=wI Last.beq (xs.drop k) (ys.drop k))/\Below w.heap.size w wr) (fun i _=>n - (intOf i).toNat)
 case atStart=>exact ⟨0,by omega,rfl,hR,Below.refl _ _⟩
 case round=>
  clear hR;obtain ⟨k,hk,rfl,hR,hbel⟩:=hrel;by_cases hlt:k < n
  · obtain ⟨x,hx⟩:=zx (xs:=xs) (k:=k) (by rw [hn.out];exact hlt);obtain ⟨y,hy⟩:=zx (xs:=ys) (k:=k) (by rw [hm.out];exact hlt);obtain ⟨ad,rfl,hab,c0,c1,c2,c3,c4,c5⟩:=Last.at_ (hA.below hbel) hx;obtain ⟨bd,rfl,hbb,d0,d1,d2,d3,d4,d5⟩:=Last.at_ (hB.below hbel) hy;have hR2:=qH (hR.out.trans (by rw [yM hx,yM hy];rfl:_=(x.beq y && wI Last.beq (xs.drop (k + 1)) (ys.drop (k + 1)))));clear hR hx hy;go_wp2_with fail
    go_still_tail 8,(by kernel_rfl)
    go_wp2_with fail;refine (zaG x y _).mono ?_;rintro e w1 ⟨rfl,hb1'⟩;have hb1:Below wr.heap.size wr w1:=pE (Below.refl _ _) hb1';cases hq:x.beq y
    ·have HQ:=qH hq;clear hq;go_wp2;go_returns;refine Ret.mk (vb ?_) (za hbel hb1);rw [hR2.out,HQ.out];rfl
    · have HQ:=qH hq;clear hq;go_wp2_with fail
      go_roundw
      case rel=>exact ⟨k + 1,by omega,by go_num,qH (hR2.out.trans (by rw [HQ.out];rfl)),za hbel hb1⟩
      case measure=>simp [intOf];omega
  ·have hR2:=qH (hR.out.trans (by rw [List.drop_eq_nil_of_le (by rw [hn.out];omega),List.drop_eq_nil_of_le (by rw [hm.out];omega)];rfl:_=true));clear hR;go_wp2;go_returns;refine Ret.mk (vb ?_) hbel;rw [hR2.out]
def Last.mkc(q:Int):List Value:=[.string (uM (q).toNat),.int .i64 (q + 1),.int .i64 (q + 1 + 1),.int .i64 (q + 1 + 1 + 1),.int .i64 (q + 1 + 1 + 1 + 1),.int .i64 (q + 1 + 1 + 1 + 1 + 1)]
theorem Last.mkc_length(q:Int):(Last.mkc q).length=6:=rfl
theorem fo(A:Option Addr)(n c base:Nat)(cs:List Value)(q:Int)(h0:0<=q)(h1:q + n * 6<=100000000)(hz:(n:Int)<=10000000)(w:World)(hO:w.ownsRow base 100 6 (.slice A n c) n cs) :
 Calls prog 54 #[.slice A n c,.int .i64 q] w (nI base 100 6 A n c (zd (fun i:Nat=>Last.mkc (q + i * 6)) (List.range n)) (q + n * 6) w):=by
 have hL:=qH hO.1;go_in;go_wp2_with fail
 go_loopw [1,5] (fun kv i wr=>∃ k:Nat,k<=n/\i=.int .i64 k/\kv=.int .i64 (q + k * 6)/\wr.ownsRow base 100 6 (.slice A n c) n (zd (fun i:Nat=>Last.mkc (q + i * 6)) ((List.range n).take k) ++ cs.drop (k * 6))/\w.grownBy wr (A.map (·.block))) (fun _ i _=>n - (intOf i).toNat)
 case atStart=>exact ⟨0,by omega,rfl,by simp,by simpa [zd] using hO,World.grownBy.refl _ _⟩
 case round=>
  clear hO;obtain ⟨k,hk,rfl,rfl,hO,hg⟩:=hrel;by_cases hlt:k < n
  · obtain ⟨g,hA⟩:=xu hO (by omega);subst hA;have hlen:=hO.1;obtain ⟨qq,hqq⟩:∃ qq:Int,qq=q + (k:Int) * 6:=⟨_,rfl⟩
    have hq0:0<=qq:=by omega
    have hq1:qq + 6<=100000000:=by omega
    rw [<-hqq];have HQ:=qH hqq;clear hqq;go_wp2_with fail;refine (sS (qq) (by omega) (by omega) _).mono ?_;rintro e w2 ⟨rfl,hb2⟩;have hO2:=ze hO hb2;have hlen1:=hO2.1;obtain ⟨u0',d0⟩:=wC hO2 (j:=k * 6) (by omega);obtain ⟨u1',d1⟩:=wC hO2 (j:=k * 6 + 1) (by omega);obtain ⟨u2',d2⟩:=wC hO2 (j:=k * 6 + 2) (by omega);obtain ⟨u3',d3⟩:=wC hO2 (j:=k * 6 + 3) (by omega);obtain ⟨u4',d4⟩:=wC hO2 (j:=k * 6 + 4) (by omega);obtain ⟨u5',d5⟩:=wC hO2 (j:=k * 6 + 5) (by omega);have f0:=hO2.frozenAt (k * 6);have f1:=hO2.frozenAt (k * 6 + 1);have f2:=hO2.frozenAt (k * 6 + 2);have f3:=hO2.frozenAt (k * 6 + 3);have f4:=hO2.frozenAt (k * 6 + 4);have f5:=hO2.frozenAt (k * 6 + 5);clear hlen1;clear hlen;go_wp2_with fail;refine ⟨⟨k + 1,by omega,by go_num,?_,?_,?_⟩,by simp [intOf];omega⟩
    · have hq:=HQ.out
      congr 1;simp only [Int.natCast_add];omega
    ·have h3:=((((((hO2.stored (k * 6) (.string (uM (qq).toNat))).1.stored (k * 6 + 1) (.int .i64 (qq + 1))).1.stored (k * 6 + 2) (.int .i64 (qq + 1 + 1))).1.stored (k * 6 + 3) (.int .i64 (qq + 1 + 1 + 1))).1.stored (k * 6 + 4) (.int .i64 (qq + 1 + 1 + 1 + 1))).1.stored (k * 6 + 5) (.int .i64 (qq + 1 + 1 + 1 + 1 + 1))).1;have h4:=pK (f:=fun i:Nat=>Last.mkc (q + i * 6)) (fun i=>Last.mkc_length _) (xs:=List.range n) (k:=k) (x:=k) (by simp [hlt]) (by simp) cs hL.out;rw [<-h4,<-HQ.out];exact h3
    ·exact zF (zF (zF (zF (zF (zF (xM (hg) hb2) (p:=⟨g,k * 6,none⟩) (.inl rfl) _) (p:=⟨g,k * 6 + 1,none⟩) (.inl rfl) _) (p:=⟨g,k * 6 + 2,none⟩) (.inl rfl) _) (p:=⟨g,k * 6 + 3,none⟩) (.inl rfl) _) (p:=⟨g,k * 6 + 4,none⟩) (.inl rfl) _) (p:=⟨g,k * 6 + 5,none⟩) (.inl rfl) _
  · have hkn:k=n:=by omega
    go_wp2;go_returns;subst hkn;rw [nr (by simp) cs hL.out] at hO;exact ⟨rfl,hO,hg⟩
theorem fj(A:Option Addr)(n c:Nat)(q:Int)(h0:0<=q)(h1:q + n * 6<=100000000)(hz:(n:Int)<=10000000)(w:World)(hA:Arr w A (zd (fun i:Nat=>Last.mkc (q + i * 6)) (List.range n))) :
 Calls prog 56 #[.slice A n c,.int .i64 q] w (Ret (.int .i64 (q + n * 6)) w):=by
 go_in;go_wp2_with fail
 go_loopw [1,5] (fun kv i wr=>∃ k:Nat,k<=n/\i=.int .i64 k/\kv=.int .i64 (q + k * 6)/\Below w.heap.size w wr) (fun _ i _=>n - (intOf i).toNat)
 case atStart=>exact ⟨0,by omega,rfl,by simp,Below.refl _ _⟩
 case round=>
  obtain ⟨k,hk,rfl,rfl,hbel⟩:=hrel;by_cases hlt:k < n
  · obtain ⟨ad,rfl,hab,c0',cj'⟩:=(hA.below hbel).elem (f:=fun i:Nat=>Last.mkc (q + i * 6)) (fun i=>Last.mkc_length _) (k:=k) (x:=k) (by simp [hlt]) (by omega);obtain ⟨qq,hqq⟩:∃ qq:Int,qq=q + (k:Int) * 6:=⟨_,rfl⟩
    have hq0:0<=qq:=by omega
    have hq1:qq + 6<=100000000:=by omega
    rw [<-hqq] at c0' |-;have c0:wr.cell? (ad.add (k * 6))=some (.string (uM (qq).toNat)):=c0';have c1:wr.cell? ⟨(ad.add (k * 6)).block,(ad.add (k * 6)).off + 1,none⟩=some (.int .i64 (qq + 1)):=by rw [cj' 1 (by omega) (by omega),<-hqq];rfl
    have c2:wr.cell? ⟨(ad.add (k * 6)).block,(ad.add (k * 6)).off + 2,none⟩=some (.int .i64 (qq + 1 + 1)):=by rw [cj' 2 (by omega) (by omega),<-hqq];rfl
    have c3:wr.cell? ⟨(ad.add (k * 6)).block,(ad.add (k * 6)).off + 3,none⟩=some (.int .i64 (qq + 1 + 1 + 1)):=by rw [cj' 3 (by omega) (by omega),<-hqq];rfl
    have c4:wr.cell? ⟨(ad.add (k * 6)).block,(ad.add (k * 6)).off + 4,none⟩=some (.int .i64 (qq + 1 + 1 + 1 + 1)):=by rw [cj' 4 (by omega) (by omega),<-hqq];rfl
    have c5:wr.cell? ⟨(ad.add (k * 6)).block,(ad.add (k * 6)).off + 5,none⟩=some (.int .i64 (qq + 1 + 1 + 1 + 1 + 1)):=by rw [cj' 5 (by omega) (by omega),<-hqq];rfl
    have HQ:=qH hqq;clear hqq c0' cj';go_wp2_with fail
    go_region_held3 (fun w'=>w'.cell? (ad.add (k * 6))=some (.string (uM (qq).toNat))) (first | go_keep | exact zb hb2 (by assumption)) (first | (go_at_call 55;refine (sS (qq) (by omega) (by omega) _).mono ?_;rintro e w2 ⟨rfl,hb2⟩))
    replace c0:=zb hb2 c0;replace c1:=zb hb2 c1;replace c2:=zb hb2 c2;replace c3:=zb hb2 c3;replace c4:=zb hb2 c4;replace c5:=zb hb2 c5;go_wp2_with fail;refine ⟨⟨k + 1,by omega,by go_num,?_,pE (hbel) hb2⟩,by simp [intOf];omega⟩;have hq:=HQ.out
    congr 1;simp only [Int.natCast_add];omega
  · have hkn:k=n:=by omega
    go_wp2;go_returns;subst hkn;exact Ret.mk rfl hbel
structure Foot where
 length:Int
 b:Int
 i:Int
 h:Int
def Foot.cells(x:Foot):List Value:=[.int .i64 x.length,.int .i64 x.b,.int .i64 x.i,.int .i64 x.h]
def Foot.sizes(_:Foot):List Nat:=[]
theorem Foot.cells_length(x:Foot):x.cells.length=4:=rfl
theorem Foot.at_{w:World}{A:Option Addr}{xs:List Foot}{k:Nat}{x:Foot}(h:Arr w A (zd Foot.cells xs))(hk:xs[k]?=some x) :
 ∃ ad,A=some ad/\ad.block < w.heap.size/\w.cell? (ad.add (k * 4))=some (.int .i64 x.length) /\
  w.cell? ⟨(ad.add (k * 4)).block,(ad.add (k * 4)).off + 1,none⟩=some (.int .i64 x.b) /\
  w.cell? ⟨(ad.add (k * 4)).block,(ad.add (k * 4)).off + 2,none⟩=some (.int .i64 x.i) /\
  w.cell? ⟨(ad.add (k * 4)).block,(ad.add (k * 4)).off + 3,none⟩=some (.int .i64 x.h):=by
 obtain ⟨ad,e,hb,h0,hj⟩:=h.elem Foot.cells_length hk (by omega);exact ⟨ad,e,hb,h0,hj 1 (by omega) (by omega),hj 2 (by omega) (by omega),hj 3 (by omega) (by omega)⟩
def Foot.beq(x y:Foot):Bool:=decide (x.length=y.length) && decide (x.b=y.b) && decide (x.i=y.i) && decide (x.h=y.h)
theorem Foot.beq_iff(x y:Foot):x.beq y=true ↔ x=y:=by
 cases x;cases y;simp [Foot.beq,and_assoc]
theorem Foot.beq_self(x:Foot):x.beq x=true:=(Foot.beq_iff x x).2 rfl
theorem zbJ(x:Foot)(w:World) :
 Calls prog 48 #[.agg #[.int .i64 x.length,.int .i64 x.b,.int .i64 x.i,.int .i64 x.h]] w (Ret (.agg #[.int .i64 x.length,.int .i64 x.b,.int .i64 x.i,.int .i64 x.h]) w):=by
 go_in
 go_wp2
 go_returns;exact Ret.mk rfl (by go_grown)
theorem zaF(x y:Foot)(w:World) :
 Calls prog 51 #[.agg #[.int .i64 x.length,.int .i64 x.b,.int .i64 x.i,.int .i64 x.h],.agg #[.int .i64 y.length,.int .i64 y.b,.int .i64 y.i,.int .i64 y.h]] w (Ret (.bool (x.beq y)) w):=by
 go_in
 go_wp2
 all_goals
  go_returns;refine Ret.mk (vb ?_) (by go_grown)
  simp_all [Foot.beq]
structure Style where
 u:ByteArray
 c:ByteArray
 l:ByteArray
 s:ByteArray
 t:Int
 h:Int
 e:Int
 d:Int
 q:Bool
def Style.cells(x:Style):List Value:=[.string x.u,.string x.c,.string x.l,.string x.s,.int .i64 x.t,.int .i64 x.h,.int .i64 x.e,.int .i64 x.d,.bool x.q]
def Style.sizes(x:Style):List Nat:=[x.u.size,x.c.size,x.l.size,x.s.size]
theorem Style.cells_length(x:Style):x.cells.length=9:=rfl
theorem Style.at_{w:World}{A:Option Addr}{xs:List Style}{k:Nat}{x:Style}(h:Arr w A (zd Style.cells xs))(hk:xs[k]?=some x) :
 ∃ ad,A=some ad/\ad.block < w.heap.size/\w.cell? (ad.add (k * 9))=some (.string x.u) /\
  w.cell? ⟨(ad.add (k * 9)).block,(ad.add (k * 9)).off + 1,none⟩=some (.string x.c) /\
  w.cell? ⟨(ad.add (k * 9)).block,(ad.add (k * 9)).off + 2,none⟩=some (.string x.l) /\
  w.cell? ⟨(ad.add (k * 9)).block,(ad.add (k * 9)).off + 3,none⟩=some (.string x.s) /\
  w.cell? ⟨(ad.add (k * 9)).block,(ad.add (k * 9)).off + 4,none⟩=some (.int .i64 x.t) /\
  w.cell? ⟨(ad.add (k * 9)).block,(ad.add (k * 9)).off + 5,none⟩=some (.int .i64 x.h) /\
  w.cell? ⟨(ad.add (k * 9)).block,(ad.add (k * 9)).off + 6,none⟩=some (.int .i64 x.e) /\
  w.cell? ⟨(ad.add (k * 9)).block,(ad.add (k * 9)).off + 7,none⟩=some (.int .i64 x.d) /\
  w.cell? ⟨(ad.add (k * 9)).block,(ad.add (k * 9)).off + 8,none⟩=some (.bool x.q):=by
 obtain ⟨ad,e,hb,h0,hj⟩:=h.elem Style.cells_length hk (by omega);exact ⟨ad,e,hb,h0,hj 1 (by omega) (by omega),hj 2 (by omega) (by omega),hj 3 (by omega) (by omega),hj 4 (by omega) (by omega),hj 5 (by omega) (by omega),hj 6 (by omega) (by omega),hj 7 (by omega) (by omega),hj 8 (by omega) (by omega)⟩
def Style.beq(x y:Style):Bool:=decide (x.u=y.u) && decide (x.c=y.c) && decide (x.l=y.l) && decide (x.s=y.s) && decide (x.t=y.t) && decide (x.h=y.h) && decide (x.e=y.e) && decide (x.d=y.d) && decide (x.q=y.q)
theorem Style.beq_iff(x y:Style):x.beq y=true ↔ x=y:=by
 cases x;cases y;simp [Style.beq,and_assoc]
theorem Style.beq_self(x:Style):x.beq x=true:=(Style.beq_iff x x).2 rfl
theorem aQ(x:Style)(left:Int)(hs0:x.u.size<=9223372036854775807)(hs1:x.c.size<=9223372036854775807)(hs2:x.l.size<=9223372036854775807)(hs3:x.s.size<=9223372036854775807)(h0:0<=left)(h1:left<=1048576)(w:World) :
 Calls prog 46 #[.agg #[.string x.u,.string x.c,.string x.l,.string x.s,.int .i64 x.t,.int .i64 x.h,.int .i64 x.e,.int .i64 x.d,.bool x.q],.int .i64 left] w (Ret (.int .i64 (xf x.sizes left)) w):=by
 go_in
 go_wp2
 ·go_returns;refine Ret.mk (vi ?_) (by go_grown);simp only [Style.sizes,xf];rw [if_pos (by omega)]
 ·go_returns;refine Ret.mk (vi ?_) (by go_grown);simp only [Style.sizes,xf];rw [if_neg (by omega),if_pos (by omega)]
 ·go_returns;refine Ret.mk (vi ?_) (by go_grown);simp only [Style.sizes,xf];rw [if_neg (by omega),if_neg (by omega),if_pos (by omega)]
 ·go_returns;refine Ret.mk (vi ?_) (by go_grown);simp only [Style.sizes,xf];rw [if_neg (by omega),if_neg (by omega),if_neg (by omega),if_pos (by omega)]
 ·go_returns;refine Ret.mk (vi ?_) (by go_grown);simp only [Style.sizes,xf];rw [if_neg (by omega),if_neg (by omega),if_neg (by omega),if_neg (by omega)]
theorem aT(x:Style)(w:World) :
 Calls prog 50 #[.agg #[.string x.u,.string x.c,.string x.l,.string x.s,.int .i64 x.t,.int .i64 x.h,.int .i64 x.e,.int .i64 x.d,.bool x.q]] w (Ret (.agg #[.string x.u,.string x.c,.string x.l,.string x.s,.int .i64 x.t,.int .i64 x.h,.int .i64 x.e,.int .i64 x.d,.bool x.q]) w):=by
 go_in
 go_wp2
 go_returns;exact Ret.mk rfl (by go_grown)
theorem cN(x y:Style)(w:World) :
 Calls prog 53 #[.agg #[.string x.u,.string x.c,.string x.l,.string x.s,.int .i64 x.t,.int .i64 x.h,.int .i64 x.e,.int .i64 x.d,.bool x.q],.agg #[.string y.u,.string y.c,.string y.l,.string y.s,.int .i64 y.t,.int .i64 y.h,.int .i64 y.e,.int .i64 y.d,.bool y.q]] w (Ret (.bool (x.beq y)) w):=by
 go_in
 go_wp2
 all_goals
  go_returns;refine Ret.mk (vb ?_) (by go_grown)
  simp_all [Style.beq,tl]
structure Trouble where
 clause:Int
 code:Int
def Trouble.cells(x:Trouble):List Value:=[.int .i64 x.clause,.int .i64 x.code]
def Trouble.sizes(_:Trouble):List Nat:=[]
theorem Trouble.cells_length(x:Trouble):x.cells.length=2:=rfl
theorem Trouble.at_{w:World}{A:Option Addr}{xs:List Trouble}{k:Nat}{x:Trouble}(h:Arr w A (zd Trouble.cells xs))(hk:xs[k]?=some x) :
 ∃ ad,A=some ad/\ad.block < w.heap.size/\w.cell? (ad.add (k * 2))=some (.int .i64 x.clause) /\
  w.cell? ⟨(ad.add (k * 2)).block,(ad.add (k * 2)).off + 1,none⟩=some (.int .i64 x.code):=by
 obtain ⟨ad,e,hb,h0,hj⟩:=h.elem Trouble.cells_length hk (by omega);exact ⟨ad,e,hb,h0,hj 1 (by omega) (by omega)⟩
def Trouble.beq(x y:Trouble):Bool:=decide (x.clause=y.clause) && decide (x.code=y.code)
theorem Trouble.beq_iff(x y:Trouble):x.beq y=true ↔ x=y:=by
 cases x;cases y;simp [Trouble.beq]
theorem Trouble.beq_self(x:Trouble):x.beq x=true:=(Trouble.beq_iff x x).2 rfl
theorem gY(A B:Option Addr)(xs ys:List ByteArray)(n m c d:Nat)(hn:Hid (xs.length=n))(hm:Hid (ys.length=m))(hz:(n:Int)<=9223372036854775807)(w:World)(hA:Arr w A (zd zt xs))(hB:Arr w B (zd zt ys)) :
 Calls prog 18 #[.slice A n c,.slice B m d] w (Ret (.bool (decide (xs=ys))) w):=by
 by_cases hnm:n=m
 case neg=>
  have hne:((n:Int) != (m:Int))=true:=by rw [bne_iff_ne];omega
  go_in
  go_wp2
  go_returns;refine Ret.mk (vb ?_) (by go_grown);symm;rw [decide_eq_false_iff_not];intro e;subst e;have h1:=hn.out;have h2:=hm.out;omega
 subst hnm;have hne:((n:Int) != (n:Int))=false:=by simp
 go_in;go_wp2_with fail;have hR:=qH (show decide (xs=ys)=decide (xs.drop 0=ys.drop 0) from rfl)
 go_loopw [5] (fun i wr=>∃ k:Nat,k<=n/\i=.int .i64 k/\Hid (decide (xs=ys)=decide (xs.drop k=ys.drop k))/\Below w.heap.size w wr) (fun i _=>n - (intOf i).toNat)
 case atStart=>exact ⟨0,by omega,rfl,hR,Below.refl _ _⟩
 case round=>
  clear hR;obtain ⟨k,hk,rfl,hR,hbel⟩:=hrel;by_cases hlt:k < n
  · obtain ⟨x,hx⟩:=zx (xs:=xs) (k:=k) (by rw [hn.out];exact hlt);obtain ⟨y,hy⟩:=zx (xs:=ys) (k:=k) (by rw [hm.out];exact hlt);obtain ⟨ad,rfl,hab,c0⟩:=zh (hA.below hbel) hx;obtain ⟨bd,rfl,hbb,d0⟩:=zh (hB.below hbel) hy;have hR2:=qH (hR.out.trans (by rw [yM hx,yM hy]:_=decide (x :: xs.drop (k + 1)=y :: ys.drop (k + 1))));clear hR hx hy;by_cases hq:x=y
    · subst hq;have hne2:(!x.toList == x.toList)=false:=by simp
      go_wp2_with fail
      go_quiet (fail)
      go_wp2_with fail
      go_roundw
      case rel=>exact ⟨k + 1,by omega,by go_num,qH (hR2.out.trans (by simp)),below_drewN hbel _⟩
      case measure=>simp [intOf];omega
    · have hne2:(!x.toList == y.toList)=true:=by rw [yD];simp [hq]
      go_wp2_with fail
      go_quiet (fail)
      go_wp2;go_returns;refine Ret.mk (vb ?_) (below_drewN hbel _);rw [hR2.out];simp [hq]
  ·have hR2:=qH (hR.out.trans (by rw [List.drop_eq_nil_of_le (by rw [hn.out];omega),List.drop_eq_nil_of_le (by rw [hm.out];omega)];simp:_=true));clear hR;go_wp2;go_returns;refine Ret.mk (vb ?_) hbel;rw [hR2.out]
def qj(q:Int):List Value:=[.string (uM (q).toNat)]
theorem ky(A:Option Addr)(n c base:Nat)(cs:List Value)(q:Int)(h0:0<=q)(h1:q + n<=100000000)(hz:(n:Int)<=10000000)(w:World)(hO:w.ownsRow base 9 1 (.slice A n c) n cs) :
 Calls prog 20 #[.slice A n c,.int .i64 q] w (nI base 9 1 A n c (zd (fun i:Nat=>qj (q + i)) (List.range n)) (q + n) w):=by
 have hL:=qH hO.1;go_in;go_wp2_with fail
 go_loopw [1,5] (fun kv i wr=>∃ k:Nat,k<=n/\i=.int .i64 k/\kv=.int .i64 (q + k)/\wr.ownsRow base 9 1 (.slice A n c) n (zd (fun i:Nat=>qj (q + i)) ((List.range n).take k) ++ cs.drop (k * 1))/\w.grownBy wr (A.map (·.block))) (fun _ i _=>n - (intOf i).toNat)
 case atStart=>exact ⟨0,by omega,rfl,by simp,by simpa [zd] using hO,World.grownBy.refl _ _⟩
 case round=>
  clear hO;obtain ⟨k,hk,rfl,rfl,hO,hg⟩:=hrel;by_cases hlt:k < n
  · obtain ⟨g,hA⟩:=xu hO (by omega);subst hA;go_wp2_with fail;refine (sS (q + k) (by omega) (by omega) _).mono ?_;rintro e w2 ⟨rfl,hb2⟩;have hO2:=ze hO hb2;have hlen:=hO2.1;obtain ⟨u0',d0⟩:=wC hO2 (j:=k) (by omega);have f0:=hO2.frozenAt k;clear hlen;go_wp2_with fail;refine ⟨⟨k + 1,by omega,by go_num,by go_num,?_,?_⟩,by simp [intOf];omega⟩
    ·have h3:=(hO2.stored (k * 1) (.string (uM (q + k).toNat))).1;have h4:=pK (f:=fun i:Nat=>qj (q + i)) (s:=1) (fun i=>rfl) (xs:=List.range n) (k:=k) (x:=k) (by simp [hlt]) (by simp) cs hL.out;rw [<-h4];rw [Nat.mul_one] at h3 |-;exact h3
    ·exact zF (xM hg hb2) (p:=⟨g,k,none⟩) (.inl rfl) _
  · have hkn:k=n:=by omega
    go_wp2;go_returns;subst hkn;rw [nr (by simp) cs hL.out] at hO;exact ⟨rfl,hO,hg⟩
theorem pw(A:Option Addr)(n c:Nat)(q:Int)(h0:0<=q)(h1:q + n<=100000000)(hz:(n:Int)<=10000000)(w:World)(hA:Arr w A (zd (fun i:Nat=>qj (q + i)) (List.range n))) :
 Calls prog 22 #[.slice A n c,.int .i64 q] w (Ret (.int .i64 (q + n)) w):=by
 go_in;go_wp2_with fail
 go_loopw [1,5] (fun kv i wr=>∃ k:Nat,k<=n/\i=.int .i64 k/\kv=.int .i64 (q + k)/\Below w.heap.size w wr) (fun _ i _=>n - (intOf i).toNat)
 case atStart=>exact ⟨0,by omega,rfl,by simp,Below.refl _ _⟩
 case round=>
  obtain ⟨k,hk,rfl,rfl,hbel⟩:=hrel;by_cases hlt:k < n
  · obtain ⟨ad,rfl,hab,c0',cj'⟩:=(hA.below hbel).elem (f:=fun i:Nat=>qj (q + i)) (s:=1) (fun i=>rfl) (k:=k) (x:=k) (by simp [hlt]) (by omega);have c0:wr.cell? (ad.add k)=some (.string (uM (q + k).toNat)):=by rw [Nat.mul_one] at c0';exact c0'
    clear c0' cj';go_wp2_with fail
    go_region_held3 (fun w'=>w'.cell? (ad.add k)=some (.string (uM (q + k).toNat))) (first | go_keep | exact zb hb2 (by assumption)) (first | (go_at_call 55;refine (sS (q + k) (by omega) (by omega) _).mono ?_;rintro e w2 ⟨rfl,hb2⟩))
    replace c0:=zb hb2 c0;go_wp2_with fail;exact ⟨⟨k + 1,by omega,by go_num,by go_num,pE hbel hb2⟩,by simp [intOf];omega⟩
  · have hkn:k=n:=by omega
    go_wp2;go_returns;subst hkn;exact Ret.mk rfl hbel
end Go.Proofs.YtpiehlfffjhoaaaGreatDoor
