/- Lemmas for the law on the console: the parts AppF,CnY,CnZ. -/
import Derived.Test.YtpiehlfffjhoaaaGreatDoorQ19
namespace Go.Proofs.YtpiehlfffjhoaaaGreatDoor
open Go.RowKit Go.Proofs.Tryz
set_option maxRecDepth 100000
set_option maxHeartbeats 8000000
theorem ry{P:Program}(w:World)(base:Nat)(t ty e:TypeId)(i:TypeInfo)(z:Value)(size bytes:Nat)(ht:P.underlying t=some (.slice e))(hi:P.info? e=some i)(hz:i.zero=some z)(hsize:i.size=size)(hby:i.bytes=bytes)(hzs:z.cells.size=size)(hsz:0 < size)(A:Option Addr)(n cp:Nat)(xs:List Value)(hown:w.ownsRow base e size (.slice A n cp) n xs)(a:Addr)(m c:Nat)(news:List Value)(hm:0 < m)(hl:news.length=m * size)(hnews:∀ j u,news[j]?=some u->w.cell? (a.add j)=some u)(h1:∀ u ∈ news,u.oneCell'=true)(h63:n + m<=maxLen)(hbytes:(n + m) * bytes<=140737488355328)(hbase:base<=w.heap.size) :
 ∃ g c' w',(Builtin.append_ #[t,t] ty #[.slice A n cp,.slice (some a) m c]).run P w=.ok (.slice (some ⟨g,0,none⟩) (n + m) c') w'/\w'.ownsRow base e size (.slice (some ⟨g,0,none⟩) (n + m) c') (n + m) (xs ++ news)/\w.grownBy w' (A.map (·.block)) /\
  (A=some ⟨g,0,none⟩\/g=w.heap.size):=by
 obtain ⟨v',w',hr,ho,hg,_⟩:=run_append_own (P:=P) w base t ty e i z size bytes ht hi hz hsize hby hzs hsz (.slice A n cp) n xs hown a m c news hl hnews h1 h63 hbytes hbase;have hsmall:n + m<=9223372036854775807:=by simp only [maxLen] at h63;omega
 subst hsize;subst hby
 have hgA:(Value.slice A n cp).ownBlock=A.map (·.block):=by
  rcases hown.2 with ⟨hv,_⟩ | ⟨g,cap,cur,hv,_⟩
  ·simp only [Value.slice.injEq] at hv;rw [hv.1];rfl
  ·simp only [Value.slice.injEq] at hv;rw [hv.1];rfl
 rw [hgA] at hg;rcases hown.2 with ⟨hv,hn0⟩ | ⟨g,cap,cur,hv,hbg,hgg,hnc,hcm,hcs,htake⟩
 ·simp only [Value.slice.injEq] at hv;obtain ⟨rfl,_,rfl⟩:=hv;subst hn0;have hx:xs=[]:=List.eq_nil_of_length_eq_zero (by simpa using hown.1);subst hx;have hr2:=run_append_nil (P:=P) w t ty e i z ht hi hz a m c news hl hnews (by omega) (by omega) (by have hb:=hbytes;simp only [Nat.zero_add] at hb;omega);rw [hr2] at hr;injection hr with e1 e2;subst e1;subst e2;simp only [Nat.zero_add] at ho |-;exact ⟨_,_,_,hr2,ho,hg,.inr rfl⟩
 · simp only [Value.slice.injEq] at hv;obtain ⟨rfl,_,rfl⟩:=hv;by_cases hroom:n + m<=cp
   · have hfit:n * i.size + news.length<=cur.size:=by rw [hl,hcs,<-Nat.add_mul];exact Nat.mul_le_mul_right _ hroom
     have hr2:=run_append_room (P:=P) w t ty e i ht hi g n cp cur hgg a m c news hl hnews h1 hroom hfit;rw [hr2] at hr;injection hr with e1 e2;subst e1;subst e2;exact ⟨_,_,_,hr2,ho,hg,.inl rfl⟩
   ·have holds:∀ j u,xs[j]?=some u->w.cell? ((⟨g,0,none⟩:Addr).add j)=some u:=hown.cells (g:=g) rfl;have hr2:=run_append_grow (P:=P) w t ty e i z ht hi hz ⟨g,0,none⟩ n cp xs hown.1 holds a m c news hl hnews (by omega) (by omega) (growslice_fits (by omega) hbytes);rw [hr2] at hr;injection hr with e1 e2;subst e1;subst e2;exact ⟨_,_,_,hr2,ho,hg,.inr rfl⟩
theorem lc{P:Program}{ops:Array Oper}{rest:List Oper}{o:Oper}{a:Act}{Q:Exit->Act->World->Prop}(w:World)(hgd:o.guard=none)(s x:Operand)(t e:TypeId)(ho:o.op=.call { callee:=.builtin .append,args:=#[s,x],argTypes:=#[t,t] })(i:TypeInfo)(z:Value)(size bytes:Nat)(ht:P.underlying t=some (.slice e))(hi:P.info? e=some i)(hz:i.zero=some z)(hsize:i.size=size)(hby:i.bytes=bytes)(hzs:z.cells.size=size)(hsz:0 < size)(base:Nat)(A:Option Addr)(n cp:Nat)(cs:List Value)(hs:a.eval s=.slice A n cp)(hown:w.ownsRow base e size (.slice A n cp) n cs)(ad:Addr)(m c:Nat)(C:List Value)(hm:0 < m)(hx:a.eval x=.slice (some ad) m c)(hA:Arr w (some ad) C)(hl:C.length=m * size)(h1:∀ u ∈ C,u.oneCell'=true)(h63:n + m<=maxLen)(hbytes:(n + m) * bytes<=140737488355328)(hbase:base<=w.heap.size)(h:∀ g c' w',w'.ownsRow base e size (.slice (some ⟨g,0,none⟩) (n + m) c') (n + m) (cs ++ C)->w.grownBy w' (A.map (·.block))->(A=some ⟨g,0,none⟩\/g=w.heap.size)->wpList P ops Q rest (a.put o.dst (.slice (some ⟨g,0,none⟩) (n + m) c')) w') :
 wpList P ops Q (o :: rest) a w:=by
 refine wpList_plain hgd fun K hK=>?_;obtain ⟨g,c',w',hr,h2,h3,h4⟩:=ry (P:=P) w base t o.type e i z size bytes ht hi hz hsize hby hzs hsz A n cp cs hown ad m c C hm hl (fun j u hu=>by
  obtain ⟨ad',e',_,hc⟩:=hA (by have:=(List.getElem?_eq_some_iff.1 hu).1;omega);injection e' with e';subst e';exact hc j u hu) h1 h63 hbytes hbase
 unfold Oper.wp execOp;simp only [ho,resolve,invoke,builtin,Sem.run_bind,Sem.run_pure,Result.andThen_ok,List.map_toArray,List.map_cons,List.map_nil,hs,hx,hr];exact hK _ _ (h g c' w' h2 h3 h4)
theorem yu{P:Program}{ops:Array Oper}{rest:List Oper}{o:Oper}{a:Act}{Q:Exit->Act->World->Prop}(w:World)(C:Array Value)(hgd:o.guard=none)(s x:Operand)(t e:TypeId)(ho:o.op=.call { callee:=.builtin .append,args:=#[s,x],argTypes:=#[t,t] })(i:TypeInfo)(z:Value)(size bytes:Nat)(ht:P.underlying t=some (.slice e))(hi:P.info? e=some i)(hz:i.zero=some z)(hsize:i.size=size)(hby:i.bytes=bytes)(hzs:z.cells.size=size)(hsz:0 < size)(base:Nat)(A:Option Addr)(n cp:Nat)(cs:List Value)(hs:a.eval s=.slice A n cp)(gx:Nat)(hgx:gx=w.heap.size)(hx:a.eval x=.slice (some ⟨gx,0,none⟩) 1 1)(hown:w.ownsRow base e size (.slice A n cp) n cs)(hl:C.size=size)(h1:∀ u ∈ C.toList,u.oneCell'=true)(h63:n + 1<=maxLen)(hbytes:(n + 1) * bytes<=140737488355328)(hbase:base<=w.heap.size)(h:∀ g c' w',w'.ownsRow base e size (.slice (some ⟨g,0,none⟩) (n + 1) c') (n + 1) (cs ++ C.toList)->w.grownBy w' (A.map (·.block))->(A=some ⟨g,0,none⟩\/w.heap.size<=g)->wpList P ops Q rest (a.put o.dst (.slice (some ⟨g,0,none⟩) (n + 1) c')) w') :
 wpList P ops Q (o :: rest) a (w.alloc (.cells C e)):=by
 subst hgx;refine lc (w.alloc (.cells C e)) hgd s x t e ho i z size bytes ht hi hz hsize hby hzs hsz base A n cp cs hs (hown.alloc _) ⟨w.heap.size,0,none⟩ 1 1 C.toList (by omega) hx ?_ (by simp [hl]) h1 h63 hbytes (by simp;omega) ?_
 · intro hn;refine ⟨_,rfl,by simp,fun j u hu=>?_⟩;have hadd:(⟨w.heap.size,0,none⟩:Addr).add j=⟨w.heap.size,j,none⟩:=by unfold Addr.add;split <;> simp_all
   rw [hadd,World.cell?_alloc_at C e w.heap.size j rfl];simpa using hu
 ·intro g c' w' hown' hg hf;exact h g c' w' hown' (vw (qc (World.grownBy.refl w _) _) hg) (hf.imp id (fun e=>by rw [e];simp))
theorem lK:∀ (l:List Int) (c m:Int),uS (l ++ [c]) m=min (uS l m) c
 | [],c,m=>rfl
 | d :: r,c,m=>by simp only [List.cons_append,uS];exact lK r c _
theorem zdj(A:Option Addr)(c0:Int)(l:List Int)(n k:Nat)(hn:Hid ((c0 :: l).length=n))(hm:(n:Int)<=1048576)(w:World)(hA:Arr w A (zd zp (c0 :: l))):Calls prog 201 #[.slice A n k] w (Ret (.int .i64 (uS l c0)) w):=by
 have hn1:1<=n:=by rw [<-hn.out];simp
 obtain ⟨ad,rfl,_,c0'⟩:=yn hA (k:=0) (x:=c0) rfl;replace c0':w.cell? ad=some (.int .i64 c0):=c0';have g1:¬ (n:Int) < 1:=by omega
 have g2:(0:Int) < (n:Int):=by omega
 have g3:decide ((n:Int) < 1)=false:=decide_eq_false g1;have HA:=qH hA;clear hA;go_in;go_wp2_with fail;have hR:=qH (show c0=uS (l.take 0) c0 from rfl)
 go_loopw [3,4] (fun v i wr=>∃ (j:Nat) (m:Int),j + 1<=n/\i=.int .i64 ((j + 1:Nat):Int)/\v=.int .i64 m/\Hid (m=uS (l.take j) c0)/\Below w.heap.size w wr) (fun _ i _=>n - (intOf i).toNat)
 case atStart=>exact ⟨0,c0,by omega,rfl,rfl,hR,Below.refl _ _⟩
 case round=>
  clear hR;obtain ⟨j,m,hj,rfl,rfl,hR,hv⟩:=hrel;by_cases hlt:j + 1 < n
  · obtain ⟨y,hy⟩:=zx (xs:=l) (k:=j) (by have:=hn.out;simp at this;omega);have hy2:(c0 :: l)[j + 1]?=some y:=by rw [List.getElem?_cons_succ];exact hy
    obtain ⟨bd,hbd,_,d0⟩:=yn (HA.out.below hv) hy2;injection hbd with hbd;subst hbd;replace d0:wr.cell? ⟨ad.block,ad.off + (j + 1),none⟩=some (.int .i64 y):=d0;have HN:=qH (show min m y=uS (l.take (j + 1)) c0 by rw [yJ hy,lK,hR.out]);have e1:((j + 1:Nat):Int)=(j:Int) + 1:=by omega
    have h0:(0:Int)<=((j + 1:Nat):Int):=by omega
    have h1:((j + 1:Nat):Int) < (n:Int):=by omega
    clear hy hy2 hR e1;go_wp2_with fail;exact ⟨⟨j + 1,min m y,by omega,by go_num,rfl,HN,hv⟩,by simp [intOf];omega⟩
  · have htk:l.take j=l:=List.take_of_length_le (by have:=hn.out;simp at this;omega);have HF:=qH (show m=uS l c0 by rw [hR.out,htk]);clear hR htk;have h1:¬ ((j + 1:Nat):Int) < (n:Int):=by omega
    go_wp2;go_returns;exact Ret.mk (vi HF.out) hv
theorem zdi(A:Option Addr)(l:List Int)(n k:Nat)(v:Int)(hn:Hid (l.length=n))(hm:(n:Int)<=1048576)(w:World)(hA:Arr w A (zd zp l)):Calls prog 200 #[.slice A n k,.int .i64 v] w (Ret (.int .i64 (rq v l 0)) w):=by
 go_in;go_wp2_with fail;have hR:=qH (show rq v l 0=rq v (l.drop 0) 0 from rfl)
 go_loopw [8] (fun i wr=>∃ j:Nat,j<=n/\i=.int .i64 j/\Hid (rq v l 0=rq v (l.drop j) j)/\Below w.heap.size w wr) (fun i _=>n - (intOf i).toNat)
 case atStart=>exact ⟨0,by omega,rfl,hR,Below.refl _ _⟩
 case round=>
  clear hR;obtain ⟨j,hj,rfl,hR,hv⟩:=hrel;by_cases hlt:j < n
  · obtain ⟨y,hy⟩:=zx (xs:=l) (k:=j) (by rw [hn.out];exact hlt);obtain ⟨bd,rfl,_,d0⟩:=yn (hA.below hv) hy;have hR2:=qH (hR.out.trans (by rw [yM hy];rfl:_=if y=v then (j:Int) else rq v (l.drop (j + 1)) (j + 1)));clear hR hy;by_cases hq:y=v
    · have hR3:=qH (hR2.out.trans (if_pos hq));have hb:(v == y)=true:=by rw [beq_iff_eq];exact hq.symm
      clear hR2 hq;go_wp2;go_returns;exact Ret.mk (vi hR3.out.symm) hv
    · have hR3:=qH (hR2.out.trans (if_neg hq));have hb:(v == y)=false:=by rw [beq_eq_false_iff_ne];exact fun e=>hq e.symm
      clear hR2 hq;go_wp2_with fail;exact ⟨⟨j + 1,by omega,by go_num,hR3,hv⟩,by simp [intOf];omega⟩
  ·have hR2:=qH (hR.out.trans (by rw [List.drop_eq_nil_of_le (by rw [hn.out];omega)];rfl:_=(-1:Int)));clear hR;go_wp2;go_returns;exact Ret.mk (vi hR2.out.symm) hv
theorem mJ(a b:Int)(h1:-10000<=a)(h2:a<=10000)(h3:-10000<=b)(h4:b<=10000)(w:World):Calls prog 277 #[.int .i64 a,.int .i64 b] w (RetQ (.int .i64 (apt a b)) w):=by
 have e1:IntKind.i64.wrap (a - b)=a - b:=IntWalk.i64_in _ (by omega);have e2:IntKind.i64.wrap (b - a)=b - a:=IntWalk.i64_in _ (by omega);have e3:=qH (show apt a b=max (a - b) (b - a) from rfl);obtain ⟨r,hr⟩:=zN (max (a - b) (b - a));rw [<-hr] at e3;have e4:max (a - b) (b - a)=r:=hr.symm;clear hr;go_in;go_wp2;go_returns;exact RetQ.mk (vi e3.out.symm)
theorem zcG:(![(1:Int),1,1,1].all fun k=>inB k 0 100)=false:=by decide
theorem ew(lo hi gi:Int)(gw:Nat)(w:World)(hB:Blk w gw 2 #[.int .i64 1,.int .i64 1,.int .i64 1,.int .i64 1]):Calls prog 130 #[.agg #[.int .i64 lo,.int .i64 hi,.int .i64 gi,.slice (some ⟨gw,0,none⟩) 4 4]] w (Ret (.bool (va lo hi gi)) w):=by
 have HP:Hid (va lo hi gi=(inB hi 0 500 && (inB lo 0 hi && inB gi 0 500))):=qH rfl;have H1:=fun w=>xv hi 0 500 w;have H2:=fun w=>xv lo 0 hi w;have H3:=fun w=>xv gi 0 500 w;have H4:=fun w h=>oj (some ⟨gw,0,none⟩) [1,1,1,1] 4 4 0 100 (qH rfl) (by omega) w h;rw [zcG] at H4;obtain ⟨b1,e1⟩:=zN (inB hi 0 500);obtain ⟨b2,e2⟩:=zN (inB lo 0 hi);obtain ⟨b3,e3⟩:=zN (inB gi 0 500);rw [<-e1,<-e2,<-e3] at HP;rw [<-e1] at H1;rw [<-e2] at H2;rw [<-e3] at H3;replace H1:=qH H1;replace H2:=qH H2;replace H3:=qH H3;replace H4:=qH H4;clear e1 e2 e3;obtain ⟨W,hW⟩:=zN (w.alloc (Obj.cells #[.int .i64 lo,.int .i64 hi,.int .i64 gi,.slice (some ⟨gw,0,none⟩) 4 4] 120));obtain ⟨g,hg⟩:=zN w.heap.size;have hv:Below w.heap.size w W:=by rw [hW];exact zc (Below.refl _ _) _
 have hB2:Blk W g 120 #[.int .i64 lo,.int .i64 hi,.int .i64 gi,.slice (some ⟨gw,0,none⟩) 4 4]:=by rw [hW,hg];exact Blk.new _ _ _
 have HA:=qH ((vY hB).below hv);obtain ⟨k0,k1,k2,k3⟩:=qC4 hB2;have HW:=qH hW;have HG:=qH hg;clear hW hg hB2 hB;go_in;go_upto_region 1 with fail;rw [<-HW.out,<-HG.out];clear HW HG;cases b1
 · skip
   go_wp2_with fail;refine qR (H1.out _) ?_;go_wp2;go_returns;exact Ret.mk (vb (by rw [HP.out];rfl)) hv
 cases b2
 · skip
   go_wp2_with fail;refine qR (H1.out _) ?_;go_wp2_with fail;refine qR (H2.out _) ?_;go_wp2;go_returns;exact Ret.mk (vb (by rw [HP.out];rfl)) hv
 cases b3
 · skip
   go_wp2_with fail;refine qR (H1.out _) ?_;go_wp2_with fail;refine qR (H2.out _) ?_;go_wp2_with fail;refine qR (H3.out _) ?_;go_wp2;go_returns;exact Ret.mk (vb (by rw [HP.out];rfl)) hv
 go_wp2_with fail;refine qR (H1.out _) ?_;go_wp2_with fail;refine qR (H2.out _) ?_;go_wp2_with fail;refine qR (H3.out _) ?_;go_wp2_with fail;refine qS (H4.out _ HA.out) fun W2 hb=>?_;replace hv:=za hv hb;go_wp2;go_returns;exact Ret.mk (vb (by rw [HP.out];rfl)) hv
def wO(x:Last)(f:Foot)(lo:Int)(k:Nat):Int:=(rmP x f - lo) + (if 2<=k then apt x.b f.b else 0) + (if 3<=k then apt x.i f.i else 0) + (if 4<=k then apt x.h f.h else 0)
def okK(x:Last)(f:Foot)(lo hi gi:Int)(k:Nat):Bool:=inB (rmP x f) lo hi && ((if 2<=k then decide (apt x.b f.b<=gi) else true) && ((if 3<=k then decide (apt x.i f.i<=gi) else true) && (if 4<=k then decide (apt x.h f.h<=gi) else true)))
theorem dF(x:Last)(f:Foot)(lo hi gi:Int):okK x f lo hi gi 2=(okK x f lo hi gi 1 && decide (apt x.b f.b<=gi)):=by unfold okK;simp
theorem dG(x:Last)(f:Foot)(lo hi gi:Int):okK x f lo hi gi 3=(okK x f lo hi gi 2 && decide (apt x.i f.i<=gi)):=by unfold okK;simp [Bool.and_assoc]
theorem dH(x:Last)(f:Foot)(lo hi gi:Int):okK x f lo hi gi 4=(okK x f lo hi gi 3 && decide (apt x.h f.h<=gi)):=by unfold okK;simp [Bool.and_assoc]
theorem wX{a b:Int}(h1:500<=a)(h2:a<=5000)(h3:500<=b)(h4:b<=5000):0<=apt a b/\apt a b<=4500:=by unfold apt;omega
theorem bn(x:Last)(f:Foot)(lo hi gi:Int)(gw:Nat)(HX:Hid (zy x=true))(HF:Hid (ym f=true))(HT:Hid (va lo hi gi=true))(w:World)(hB:Blk w gw 2 #[.int .i64 1,.int .i64 1,.int .i64 1,.int .i64 1]) :
 Calls prog 257 #[.agg #[.string x.name,.int .i64 x.length,.int .i64 x.b,.int .i64 x.i,.int .i64 x.h,.int .i64 x.p],.agg #[.int .i64 f.length,.int .i64 f.b,.int .i64 f.i,.int .i64 f.h],.agg #[.int .i64 lo,.int .i64 hi,.int .i64 gi,.slice (some ⟨gw,0,none⟩) 4 4]] w (RetT #[.int .i64 (vB x f lo),.bool (okC x f lo hi gi)] w):=by
 obtain ⟨_,hf,p0,p1⟩:=yU HX.out;obtain ⟨⟨l1,l2⟩,⟨m1,m2⟩,⟨n1,n2⟩,⟨o1,o2⟩⟩:=wH hf;obtain ⟨⟨q1,q2⟩,⟨r1,r2⟩,⟨s1,s2⟩,⟨t1,t2⟩⟩:=wH HF.out;have hft:=HT.out;unfold va at hft;simp only [Bool.and_eq_true,inB_iff] at hft;obtain ⟨⟨u1,u2⟩,⟨u3,u4⟩,u5,u6⟩:=hft;unfold Last.foot at *;dsimp only at *;have hbd:=fun k hk=>(show -5500<=wO x f lo k/\wO x f lo k<=20000 by
  have a1:=wX m1 m2 r1 r2;have a2:=wX n1 n2 s1 s2;have a3:=wX o1 o2 t1 t2;unfold wO rmP;have:k<=4:=hk
  repeat' split
  all_goals omega)
 obtain ⟨gx,hgx⟩:=zN w.heap.size;obtain ⟨gf,hgf⟩:=zN (w.heap.size + 1);obtain ⟨gt,hgt⟩:=zN (w.heap.size + 1 + 1);obtain ⟨W,hW⟩:=zN (((w.alloc (Obj.cells (cL x) 100)).alloc (Obj.cells (cF f) 27)).alloc (Obj.cells #[.int .i64 lo,.int .i64 hi,.int .i64 gi,.slice (some ⟨gw,0,none⟩) 4 4] 120));have hv:Below w.heap.size w W:=by rw [hW];exact zc (zc (zc (Below.refl _ _) _) _) _
 have HX1:Hid (Blk W gx 100 (cL x)):=qH (by rw [hW,hgx];exact ((Blk.new w _ _).alloc _).alloc _);have HF1:Hid (Blk W gf 27 (cF f)):=qH (by
  have h:=(Blk.new (w.alloc (Obj.cells (cL x) 100)) 27 (cF f)).alloc (Obj.cells #[.int .i64 lo,.int .i64 hi,.int .i64 gi,.slice (some ⟨gw,0,none⟩) 4 4] 120);rw [World.size_alloc] at h;rw [hW,hgf];exact h)
 have HT1:Hid (Blk W gt 120 #[.int .i64 lo,.int .i64 hi,.int .i64 gi,.slice (some ⟨gw,0,none⟩) 4 4]):=qH (by
  have h:=Blk.new ((w.alloc (Obj.cells (cL x) 100)).alloc (Obj.cells (cF f) 27)) 120 #[Value.int .i64 lo,Value.int .i64 hi,Value.int .i64 gi,Value.slice (some ⟨gw,0,none⟩) 4 4];rw [World.size_alloc,World.size_alloc] at h;rw [hW,hgt];exact h)
 have HB:Hid (Blk W gw 2 #[.int .i64 1,.int .i64 1,.int .i64 1,.int .i64 1]):=qH (by rw [hW];exact ((hB.alloc _).alloc _).alloc _);have HW:=qH hW;have G1:=qH hgx;have G2:=qH hgf;have G3:=qH hgt;clear hW hgx hgf hgt hB;have k1:=yc1 HX1.out;have j0:=yc0 HF1.out;have hrm:IntKind.i64.wrap (x.length - f.length)=x.length - f.length:=IntWalk.i64_in _ (by omega);go_in;go_upto_region 1 with fail;rw [<-HW.out]
 first | rw [<-G3.out,<-G2.out,<-G1.out] | rw [show w.heap.size + 2=gt from G3.out.symm,<-G2.out,<-G1.out]
 clear HW G1 G2 G3;go_upto_region 2 with fail;obtain ⟨rm,hrm2⟩:=zN (x.length - f.length);rw [<-hrm2];have HRM:=qH hrm2;have rb1:-4500<=rm:=by omega
 have rb2:rm<=4500:=by omega
 have hrw:IntKind.i64.wrap (rm - lo)=rm - lo:=IntWalk.i64_in _ (by omega);have hrw2:IntKind.i64.wrap (1 * (rm - lo))=rm - lo:=by rw [Int.one_mul];exact hrw
 clear hrm2 hrm k1 j0;have t0:=yc0 HT1.out;have t1':=yc1 HT1.out;have t3:=yc3 HT1.out;have w0:=yc0 HB.out;obtain ⟨f0,f1,f2,f3⟩:=qC4 HF1.out;have HWI:=qH (fun w=>xv rm lo hi w);have HMS:=qH (fun w=>sU f w);refine zH (fun w'=>Below W.heap.size W w'/\True) ?_ (fun hHeld=>?_)
 ·exact ⟨(Below.refl _ _).drew,trivial⟩
 have hd9:=hHeld.1;refine zU 0 20 ?_;refine zT 1 21 rfl (fun w hSw=>by
  have x_t3:=zb hSw.1 t3;go_simp;try with_reducible rfl) ?_
 refine zU 2 22 ?_;refine zT 3 23 rfl (fun w hSw=>by
  have x_w0:=zb hSw.1 w0;go_simp;try with_reducible rfl) ?_
 refine zU 4 24 ?_;refine zU 5 25 ?_;refine zT 6 26 rfl (fun w hSw=>by
  have x_t0:=zb hSw.1 t0;go_simp;try with_reducible rfl) ?_
 refine zU 7 27 ?_;refine zU 8 28 ?_;refine zU 9 29 ?_;refine zU 10 30 ?_;refine zT 11 31 rfl (fun w hSw=>by
  have x_t0:=zb hSw.1 t0;go_simp;try with_reducible rfl) ?_
 refine zU 12 32 ?_;refine zT 13 33 rfl (fun w hSw=>by
  have x_t1p:=zb hSw.1 t1';go_simp;try with_reducible rfl) ?_
 refine zT 15 35 rfl (fun w hSw=>by
  have x_f0:=zb hSw.1 f0;have x_f1:=zb hSw.1 f1;have x_f2:=zb hSw.1 f2;have x_f3:=zb hSw.1 f3;go_simp;try with_reducible rfl) ?_
 refine zR 14 (some 34) rfl (fun K hK=>?_);go_simp;go_split_ands;refine qR (HWI.out _) ?_;go_wp2_with fail;refine zK hK ⟨hd9,trivial⟩ (fun hHeld=>?_);clear hK K;refine zR 16 (some 36) rfl (fun K hK=>?_);go_simp;go_split_ands;refine (HMS.out _).mono ?_;rintro e V1 ⟨gm,rfl,hM,hb9⟩;have HM:=qH hM;replace hd9:=za hd9 hb9;clear hb9 hM;go_wp2_with fail;refine zK hK ⟨hd9,trivial⟩ (fun hHeld=>?_);clear hK K;refine zU 17 9 ?_;refine zU 18 10 ?_;refine zU 19 11 ?_;refine zD ?_;clear hHeld t0 t1' t3 w0 f0 f1 f2 f3;replace HX1:=qH (HX1.out.below hd9);replace HT1:=qH (HT1.out.below hd9);replace HB:=qH (HB.out.below hd9);replace hv:=za hv hd9;clear hd9 HF1;go_wp2_with (refine yL gx HX1.out underlying100 ?_)
 refine qS (jp x _) fun W2 hb=>?_;replace HM:=qH (HM.out.below hb);replace HT1:=qH (HT1.out.below hb);replace HB:=qH (HB.out.below hb);replace hv:=za hv hb;clear hb HX1;go_wp2_with fail;refine (sU x.foot _).mono ?_;rintro e W3 ⟨gn,rfl,hN,hb⟩;have HN:Hid (Blk W3 gn 2 (cH x)):=qH hN;replace HM:=qH (HM.out.below hb);replace HT1:=qH (HT1.out.below hb);replace HB:=qH (HB.out.below hb);replace hv:=za hv hb;clear hb hN;have hK0:=qH (show rm - lo=wO x f lo 0 by unfold wO rmP;rw [HRM.out];simp);have hO0:=qH (show inB rm lo hi=okK x f lo hi gi 0 by unfold okK rmP;rw [HRM.out];simp);obtain ⟨b0,hb0⟩:=zN (inB rm lo hi);rw [<-hb0] at hO0 |-;clear hb0 HWI HMS hrw2;go_wp2_with fail
 go_loopw [9,10,41] (fun cv ov iv wr=>∃ (k:Nat) (c:Int) (b:Bool),k<=4/\iv=.int .i64 k/\cv=.int .i64 c/\ov=.bool b/\Hid (c=wO x f lo k)/\Hid (b=okK x f lo hi gi k)/\Below W3.heap.size W3 wr) (fun _ _ i _=>4 - (intOf i).toNat)
 case atStart=>exact ⟨0,rm - lo,b0,by omega,rfl,rfl,rfl,hK0,hO0,Below.refl _ _⟩
 case round=>
 clear hK0 hO0;obtain ⟨k,c,b,hk,rfl,rfl,rfl,HC,HO,hb⟩:=hrel;have hcb:=hbd k hk;rw [<-HC.out] at hcb;obtain ⟨c1,c2⟩:=hcb;by_cases h4:k=4
 ·subst h4;have hE:=qH (show c=vB x f lo by rw [HC.out];rfl);have hF:=qH (show b=okC x f lo hi gi by rw [HO.out];rfl);clear HC HO;go_wp2;go_returns;exact RetT.mk (by rw [hE.out,hF.out];rfl) (za hv hb)
 by_cases h0:k=0
 ·subst h0;have v0:=yc0 (HN.out.below hb);go_wp2_with fail;exact ⟨⟨1,c,b,by omega,by go_num,rfl,rfl,qH (by rw [HC.out];rfl),qH (by rw [HO.out];rfl),hb⟩,by simp [intOf]⟩
 by_cases h1:k=1
 · subst h1;have v0:=yc1 (HN.out.below hb);have v1:=yc1 (HM.out.below hb);have HAP:=qH (fun w=>mJ x.b f.b (by omega) (by omega) (by omega) (by omega) w);have hab:=wX m1 m2 r1 r2;obtain ⟨d,hd⟩:=zN (apt x.b f.b);rw [<-hd] at HAP hab;have HD:=qH hd;obtain ⟨d1,d2⟩:=hab;clear hd;go_wp2_with fail;refine qR (HAP.out _) ?_;clear v0 v1;have y2:=yc2 (HT1.out.below hb);have y3:=yc3 (HT1.out.below hb);have y4:=yc1 (HB.out.below hb);have e1:IntKind.i64.wrap (1 * d)=d:=by rw [Int.one_mul];exact IntWalk.i64_in _ (by omega)
   have e1b:IntKind.i64.wrap d=d:=IntWalk.i64_in _ (by omega);have e2:IntKind.i64.wrap (c + d)=c + d:=IntWalk.i64_in _ (by omega);cases b
   · go_wp2_with fail
     go_quiet (fail)
     go_wp2_with fail;exact ⟨⟨2,c + d,false,by omega,by go_num,rfl,rfl,qH (by rw [HC.out,HD.out];unfold wO;simp),qH (by rw [dF,<-HO.out];rfl),below_drewN hb _⟩,by simp [intOf]⟩
   · skip
     go_wp2_with fail
     go_quiet (fail)
     go_wp2_with fail;exact ⟨⟨2,c + d,decide (d<=gi),by omega,by go_num,rfl,rfl,qH (by rw [HC.out,HD.out];unfold wO;simp),qH (by rw [dF,<-HO.out,HD.out];rfl),below_drewN hb _⟩,by simp [intOf]⟩
 by_cases h2:k=2
 · subst h2;have v0:=yc2 (HN.out.below hb);have v1:=yc2 (HM.out.below hb);have HAP:=qH (fun w=>mJ x.i f.i (by omega) (by omega) (by omega) (by omega) w);have hab:=wX n1 n2 s1 s2;obtain ⟨d,hd⟩:=zN (apt x.i f.i);rw [<-hd] at HAP hab;have HD:=qH hd;obtain ⟨d1,d2⟩:=hab;clear hd;go_wp2_with fail;refine qR (HAP.out _) ?_;clear v0 v1;have y2:=yc2 (HT1.out.below hb);have y3:=yc3 (HT1.out.below hb);have y4:=yc2 (HB.out.below hb);have e1:IntKind.i64.wrap (1 * d)=d:=by rw [Int.one_mul];exact IntWalk.i64_in _ (by omega)
   have e1b:IntKind.i64.wrap d=d:=IntWalk.i64_in _ (by omega);have e2:IntKind.i64.wrap (c + d)=c + d:=IntWalk.i64_in _ (by omega);cases b
   · go_wp2_with fail
     go_quiet (fail)
     go_wp2_with fail;exact ⟨⟨3,c + d,false,by omega,by go_num,rfl,rfl,qH (by rw [HC.out,HD.out];unfold wO;simp),qH (by rw [dG,<-HO.out];rfl),below_drewN hb _⟩,by simp [intOf]⟩
   · skip
     go_wp2_with fail
     go_quiet (fail)
     go_wp2_with fail;exact ⟨⟨3,c + d,decide (d<=gi),by omega,by go_num,rfl,rfl,qH (by rw [HC.out,HD.out];unfold wO;simp),qH (by rw [dG,<-HO.out,HD.out];rfl),below_drewN hb _⟩,by simp [intOf]⟩
 by_cases h3:k=3
 · subst h3;have v0:=yc3 (HN.out.below hb);have v1:=yc3 (HM.out.below hb);have HAP:=qH (fun w=>mJ x.h f.h (by omega) (by omega) (by omega) (by omega) w);have hab:=wX o1 o2 t1 t2;obtain ⟨d,hd⟩:=zN (apt x.h f.h);rw [<-hd] at HAP hab;have HD:=qH hd;obtain ⟨d1,d2⟩:=hab;clear hd;go_wp2_with fail;refine qR (HAP.out _) ?_;clear v0 v1;have y2:=yc2 (HT1.out.below hb);have y3:=yc3 (HT1.out.below hb);have y4:=yc3 (HB.out.below hb);have e1:IntKind.i64.wrap (1 * d)=d:=by rw [Int.one_mul];exact IntWalk.i64_in _ (by omega)
   have e1b:IntKind.i64.wrap d=d:=IntWalk.i64_in _ (by omega);have e2:IntKind.i64.wrap (c + d)=c + d:=IntWalk.i64_in _ (by omega);cases b
   · go_wp2_with fail
     go_quiet (fail)
     go_wp2_with fail;exact ⟨⟨4,c + d,false,by omega,by go_num,rfl,rfl,qH (by rw [HC.out,HD.out];unfold wO;simp),qH (by rw [dH,<-HO.out];rfl),below_drewN hb _⟩,by simp [intOf]⟩
   · skip
     go_wp2_with fail
     go_quiet (fail)
     go_wp2_with fail;exact ⟨⟨4,c + d,decide (d<=gi),by omega,by go_num,rfl,rfl,qH (by rw [HC.out,HD.out];unfold wO;simp),qH (by rw [dH,<-HO.out,HD.out];rfl),below_drewN hb _⟩,by simp [intOf]⟩
 omega
def qJ(P:List (Nat × Int)):List Int:=P.map (fun p=>(p.1:Int))
def tQ(P:List (Nat × Int)):List Int:=P.map (·.2)
def zds(P:List (Nat × Int))(w:World)(e:Ending)(w':World):Prop:=∃ (g1 g2 m c1 c2:Nat),e=.returned (.tuple #[.slice (some ⟨g1,0,none⟩) m c1,.slice (some ⟨g2,0,none⟩) m c2])/\P.length=m/\Arr w' (some ⟨g1,0,none⟩) (zd zp (qJ P))/\Arr w' (some ⟨g2,0,none⟩) (zd zp (tQ P))/\Below w.heap.size w w'
theorem cj(A:Option Addr)(xs:List Last)(n c:Nat)(f:Foot)(lo hi gi:Int)(gw gf:Nat)(hn:Hid (xs.length=n))(hm:n<=30)(HLS:Hid (∀ x ∈ xs,zy x=true))(HF:Hid (ym f=true))(HT:Hid (va lo hi gi=true))(w:World)(hA:Arr w A (zd Last.cells xs))(hB:Blk w gw 2 #[.int .i64 1,.int .i64 1,.int .i64 1,.int .i64 1])(hG:Blk w gf 27 (cF f)) :
 Calls prog 199 #[.slice A n c,.agg #[.int .i64 lo,.int .i64 hi,.int .i64 gi,.slice (some ⟨gw,0,none⟩) 4 4],.slice (some ⟨gf,0,none⟩) 1 1] w (zds (yV f lo hi gi 0 xs) w):=by
 obtain ⟨i0,hi0,hz0,hz1,hz2⟩:=info_parts (P:=prog) (e:=2) (z:=.int .i64 0) (size:=1) (bytes:=8) qM;obtain ⟨W,hW⟩:=zN (w.alloc (Obj.cells #[.int .i64 lo,.int .i64 hi,.int .i64 gi,.slice (some ⟨gw,0,none⟩) 4 4] 120));obtain ⟨gt,hgt⟩:=zN w.heap.size;have hv:Below w.heap.size w W:=by rw [hW];exact zc (Below.refl _ _) _
 have HTB:Hid (Blk W gt 120 #[.int .i64 lo,.int .i64 hi,.int .i64 gi,.slice (some ⟨gw,0,none⟩) 4 4]):=qH (by rw [hW,hgt];exact Blk.new _ _ _);have HA:=qH (hA.below hv);have HB:=qH (hB.below hv);have HG:=qH (hG.below hv);have HW:=qH hW;have HGT:=qH hgt;clear hW hgt hA hB hG;go_in;go_upto_region 1 with fail;rw [<-HW.out,<-HGT.out];clear HW HGT;go_upto_region 2 with fail;obtain ⟨ga,hga⟩:=zN W.heap.size;obtain ⟨gb,hgb⟩:=zN (W.heap.size + 1);obtain ⟨V,hV⟩:=zN ((W.alloc (Obj.cells #[] 2)).alloc (Obj.cells #[] 2));have hbV:Below W.heap.size W V:=by rw [hV];exact zc (zc (Below.refl _ _) _) _
 have HO1:Hid (V.ownsRow W.heap.size 2 1 (.slice (some ⟨ga,0,none⟩) 0 0) 0 (zd zp (qJ []))):=qH (by rw [hV,hga];exact (zI W W.heap.size 2 1 (Nat.le_refl _)).alloc _);have HO2:Hid (V.ownsRow W.heap.size 2 1 (.slice (some ⟨gb,0,none⟩) 0 0) 0 (zd zp (tQ []))):=qH (by
  have h:=zI (W.alloc (Obj.cells #[] 2)) W.heap.size 2 1 (by rw [World.size_alloc];omega);rw [World.size_alloc] at h;rw [hV,hgb];exact h)
 have hne:ga≠gb:=by omega
 have G1:=qH hga;have G2:=qH hgb;have GV:=qH hV;clear hga hgb hV;rw [<-GV.out,<-G2.out,<-G1.out];clear G1 G2 GV;go_wp2_with fail;have hL0:=qH (show (yV f lo hi gi 0 (xs.take 0)).length=0 from rfl)
 go_loopw [8,9,22] (fun v8 v9 iv wr=>∃ (i m g1 c1 g2 c2:Nat),iv=.int .i64 i/\i<=n/\m<=i/\v8=.slice (some ⟨g1,0,none⟩) m c1/\v9=.slice (some ⟨g2,0,none⟩) m c2/\g1≠g2/\Hid ((yV f lo hi gi 0 (xs.take i)).length=m)/\Hid (wr.ownsRow W.heap.size 2 1 (.slice (some ⟨g1,0,none⟩) m c1) m (zd zp (qJ (yV f lo hi gi 0 (xs.take i)))))/\Hid (wr.ownsRow W.heap.size 2 1 (.slice (some ⟨g2,0,none⟩) m c2) m (zd zp (tQ (yV f lo hi gi 0 (xs.take i)))))/\Below W.heap.size W wr) (fun _ _ i _=>n - (intOf i).toNat)
 case atStart=>exact ⟨0,0,ga,0,gb,0,rfl,by omega,by omega,rfl,rfl,hne,hL0,HO1,HO2,hbV⟩
 case round=>
 clear HO1 HO2 hL0 hne hbV;obtain ⟨i,m,g1,c1,g2,c2,rfl,hin,hmi,rfl,rfl,hne,HL,HO1,HO2,hbo⟩:=hrel;have hi0':(0:Int)<=(i:Int):=by omega
 by_cases hlt:i < n
 case neg=>
  have hi1:¬ (i:Int) < (n:Int):=by omega
  have htk:xs.take i=xs:=List.take_of_length_le (by rw [hn.out];omega);rw [htk] at HL HO1 HO2;go_wp2;go_returns;exact ⟨g1,g2,m,c1,c2,rfl,HL.out,Arr.own HO1.out,Arr.own HO2.out,za hv hbo⟩
 case pos=>
 have hi1:(i:Int) < (n:Int):=by omega
 obtain ⟨x,hx⟩:=zx (xs:=xs) (k:=i) (by rw [hn.out];exact hlt);obtain ⟨ad,hAd,hab,c0',c1',c2',c3',c4',c5'⟩:=Last.at_ (HA.out.below hbo) hx;subst hAd;have HX:=qH (HLS.out x (List.mem_of_getElem? hx));have HFC:=qH (fun w h=>bn x f lo hi gi gw HX HF HT w h);have HST:=qH (show yV f lo hi gi 0 (xs.take (i + 1))=yV f lo hi gi 0 (xs.take i) ++ (if okC x f lo hi gi=true then [(i,vB x f lo)] else []) by
  rw [yJ hx,sK,List.length_take,hn.out,Nat.min_eq_left (by omega),Nat.zero_add])
 have hcb:-5500<=vB x f lo/\vB x f lo<=20000:=by
  obtain ⟨_,hf,p0,p1⟩:=yU HX.out;obtain ⟨⟨l1,l2⟩,⟨m1,m2⟩,⟨n1,n2⟩,⟨o1,o2⟩⟩:=wH hf;obtain ⟨⟨q1,q2⟩,⟨r1,r2⟩,⟨s1,s2⟩,⟨t1,t2⟩⟩:=wH HF.out;have hft:=HT.out;unfold va at hft;simp only [Bool.and_eq_true,inB_iff] at hft;obtain ⟨⟨u1,u2⟩,⟨u3,u4⟩,u5,u6⟩:=hft;have a1:=wX m1 m2 r1 r2;have a2:=wX n1 n2 s1 s2;have a3:=wX o1 o2 t1 t2;unfold Last.foot at *;dsimp only at *;unfold vB rmP;omega
 obtain ⟨cb1,cb2⟩:=hcb;obtain ⟨cs,hcs⟩:=zN (vB x f lo);obtain ⟨ok,hok⟩:=zN (okC x f lo hi gi);rw [<-hcs,<-hok] at HFC HST;rw [<-hcs] at cb1 cb2;clear hx hcs hok;go_upto_region 5 with fail;obtain ⟨W1,hWn⟩:=zN (World.alloc wr (Obj.cells (cL x) 100));obtain ⟨gx,hgn⟩:=zN wr.heap.size;have hb:Below wr.heap.size wr W1:=by rw [hWn];exact zc (Below.refl _ _) _
 have HXB:Hid (Blk W1 gx 100 (cL x)):=qH (by rw [hWn,hgn];exact Blk.new _ _ _);rw [<-hWn,<-hgn];clear hWn hgn c0' c1' c2' c3' c4' c5' hab;replace HO1:=qH (ze HO1.out hb);replace HO2:=qH (ze HO2.out hb);replace hbo:=za hbo hb;clear hb
 rename World=>wo
 go_wp2_with fail
 go_loopw [12,13,29] (fun sv av jv wq=>∃ (j:Nat) (s:Int) (b:Bool),jv=.int .i64 j/\j<=1/\sv=.int .i64 s/\av=.bool b/\Hid (j=0->s=0/\b=true)/\Hid (j=1->s=cs/\b=ok)/\Below wo.heap.size wo wq) (fun _ _ j _=>1 - (intOf j).toNat)
 case atStart=>exact ⟨0,0,true,rfl,by omega,rfl,rfl,qH (by simp),qH (by omega),Below.refl _ _⟩
 case round=>
 obtain ⟨j,s,b,rfl,hj,rfl,rfl,HJ0,HJ1,hb⟩:=hrel;by_cases hj0:j=0
 case pos=>
  subst hj0;obtain ⟨rfl,rfl⟩:=HJ0.out rfl
  rename World=>wq
  have q0:=yc0 (HG.out.below (za hbo hb));have q1:=yc1 (HG.out.below (za hbo hb));have q2:=yc2 (HG.out.below (za hbo hb));have q3:=yc3 (HG.out.below (za hbo hb));go_upto_region 9 with fail;obtain ⟨W2,hWn⟩:=zN (World.alloc wq (Obj.cells (cF f) 27));obtain ⟨gy,hgn⟩:=zN wq.heap.size;have hb2:Below wq.heap.size wq W2:=by rw [hWn];exact zc (Below.refl _ _) _
  have HYB:Hid (Blk W2 gy 27 (cF f)):=qH (by rw [hWn,hgn];exact Blk.new _ _ _);rw [<-hWn,<-hgn];clear hWn hgn q0 q1 q2 q3;replace hb:=za hb hb2;have HXB2:=qH (HXB.out.below hb);have HTB2:=qH (HTB.out.below (za hbo hb));clear hb2;have hwc:IntKind.i64.wrap (0 + cs)=cs:=by rw [Int.zero_add];exact IntWalk.i64_in _ (by omega)
  have hwc2:IntKind.i64.wrap cs=cs:=IntWalk.i64_in _ (by omega);go_wp2_with (first | (refine yL gx HXB2.out underlying100 ?_) | (refine yL gy HYB.out underlying27 ?_) | (refine yL gt HTB2.out underlying120 ?_))
  refine qS (HFC.out _ (HB.out.below (za hbo hb))) fun W3 hb3=>?_;replace hb:=za hb hb3;clear hb3 HYB HXB2 HTB2;go_wp2_with fail;exact ⟨⟨1,cs,ok,by go_num,by omega,rfl,rfl,qH (by omega),qH (by simp),hb⟩,by simp [intOf]⟩
 case neg=>
 obtain rfl:j=1:=by omega
 obtain ⟨rfl,rfl⟩:=HJ1.out rfl
 rename World=>W9
 replace HO1:=qH (ze HO1.out hb);replace HO2:=qH (ze HO2.out hb);replace hbo:=za hbo hb;clear hb HXB HJ0 HJ1 HFC;cases b
 ·rw [if_neg (by simp),List.append_nil] at HST;go_wp2_with fail;exact ⟨⟨i + 1,m,g1,c1,g2,c2,by go_num,by omega,by omega,rfl,rfl,hne,by rw [HST.out];exact HL,by rw [HST.out];exact HO1,by rw [HST.out];exact HO2,hbo⟩,by simp [intOf];omega⟩
 · rw [if_pos rfl] at HST;have hl1:=yr HO1.out g1 rfl;have hl2:=yr HO2.out g2 rfl;have hf1:=zn HO1.out g1 rfl;have hf2:=zn HO2.out g2 rfl;have hbs:=hbo.size;have eI:zd zp (qJ (yV f lo hi gi 0 (xs.take i) ++ [(i,s)]))=zd zp (qJ (yV f lo hi gi 0 (xs.take i))) ++ #[Value.int .i64 (i:Int)].toList:=by simp [qJ,zd,zp]
   have eC:zd zp (tQ (yV f lo hi gi 0 (xs.take i) ++ [(i,s)]))=zd zp (tQ (yV f lo hi gi 0 (xs.take i))) ++ #[Value.int .i64 s].toList:=by simp [tQ,zd,zp]
   have HEI:=qH eI;have HEC:=qH eC;clear eI eC;go_wp2_with (at_builtin;first
    | (refine yu W9 #[.int .i64 (i:Int)] rfl _ _ 58 2 rfl i0 _ 1 8 underlying58 hi0 hz0 hz1 hz2 rfl (by omega) W.heap.size (some ⟨g1,0,none⟩) m c1 _ rfl _ rfl rfl HO1.out rfl (by simp [Value.oneCell']) (by unfold maxLen;omega) (by omega) (by omega) ?_;intro g3 c3 W10 hown3 hg3 hf3;have HO2b:=HO2.out.kept hg3 (.inr (fun e=>by have e2:g2=g1:=(by simpa [Value.ownBlock] using e);omega));have hz3:=hg3.size;have hl3:=yr hown3 g3 rfl)
    | (refine yu W10 #[.int .i64 s] rfl _ _ 58 2 rfl i0 _ 1 8 underlying58 hi0 hz0 hz1 hz2 rfl (by omega) W.heap.size (some ⟨g2,0,none⟩) m c2 _ rfl _ rfl rfl HO2b rfl (by simp [Value.oneCell']) (by unfold maxLen;omega) (by omega) (by omega) ?_;intro g4 c4 W11 hown4 hg4 hf4))
   have h32:g3≠g2:=by
    rcases hf3 with h | h
    ·injection h with h;injection h with h;omega
    ·omega
   have h34:g3≠g4:=by
    rcases hf4 with h | h
    ·injection h with h;injection h with h;omega
    ·omega
   have HO1c:=hown3.kept hg4 (.inr (fun e=>by have e2:g3=g2:=(by simpa [Value.ownBlock] using e);omega));have hbo2:=zi (zi hbo hg3 (fun k e=>by have e2:g1=k:=(by simpa using e);omega)) hg4 (fun k e=>by have e2:g2=k:=(by simpa using e);omega);exact ⟨⟨i + 1,m + 1,g3,c3,g4,c4,by go_num,by omega,by omega,rfl,rfl,h34,qH (by rw [HST.out,List.length_append,HL.out];rfl),qH (by rw [HST.out,HEI.out];exact HO1c),qH (by rw [HST.out,HEC.out];exact hown4),hbo2⟩,by simp [intOf];omega⟩
end Go.Proofs.YtpiehlfffjhoaaaGreatDoor
