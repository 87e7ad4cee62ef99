/- Lemmas for the law on the console: the parts Row,Base,App,Dec,DecN. -/
import Derived.Test.YtpiehlfffjhoaaaGreatDoorRows
import Derived.Test.YtpiehlfffjhoaaaGreatDoorQ1
import Derived.Lib.SmallJoins
import Derived.Lib.ItoaNum
namespace Go.Proofs.YtpiehlfffjhoaaaGreatDoor
open Go.ChangeShapes Go.WideShapes Go.ChangeAt Go.RowKit Go.Deep Go.Joins Go.Proofs.Tryz
set_option maxRecDepth 100000
set_option maxHeartbeats 2000000
theorem ap:ownKnob prog.godebug=none:=by kernel_rfl
theorem pO:laidOutB prog=true:=by kernel_rfl
section
variable {H:Type} {enc:TypeId × Value->H} {P:Program} {w:World} {base:Nat} {spare:Nat->Bool} {held:Bool}
theorem oP{t e:TypeId}{fs:Array Field}{fuel:Nat}{cs:List Value}{x:DataW H × List MemPlace}(ht:P.underlying t=some (.slice e))(he:P.underlying e=some (.struct fs))(hone:oneCellFields P fs=true)(hC:P.cellsOf e=fs.size)(h:DataW.trod enc P w base spare held fuel t cs=some x) :
 (cs=[.slice none 0 0]/\x=(.nil,[])) \/
 ∃ (a:Addr) (len cap m:Nat) (D:Nat->DataW H) (Pl:Nat->List MemPlace),cs=[.slice (some a) len cap]/\base<=a.block/\len<=cap/\cap<=maxLen/\m=(if spare a.block then cap else len) /\
  x=(.slice ((List.range len).map D) ((List.range (m - len)).map fun j=>D (len + j)),MemPlace.row a (m * fs.size) ++ (List.range m).flatMap Pl) /\
  ∀ i,i < m->∃ (ys:List (DataW H × List MemPlace)) (n:Nat),D i=.agg (ys.map (·.1))/\Pl i=ys.flatMap (·.2)/\ys.length=fs.size /\
   ∀ (j:Nat) (f:Field),fs[j]?=some f->∃ (v:Value) (y:DataW H × List MemPlace),w.cell? (a.add (i * fs.size + j))=some v/\ys[j]?=some y/\DataW.trod enc P w base spare held n f.type [v]=some y:=by
 rcases open_slice ht h with h0 | ⟨a,len,cap,m,n,D,Pl,hcs,hb,hl,hm,hmm,hx,hi⟩
 ·exact .inl h0
 · refine .inr ⟨a,len,cap,m,D,Pl,hcs,hb,hl,hm,hmm,by rw [hC] at hx;exact hx,fun i him=>?_⟩;obtain ⟨cs',hc,ht'⟩:=hi i him;rw [hC] at hc;obtain ⟨ys,n',hn',hy,hlen,hyl,hf⟩:=DataW.trod_struct he ht';obtain ⟨_,hcl,hat⟩:=World.cells?_some hc;simp only [Prod.mk.injEq] at hy;refine ⟨ys,n',hy.1,hy.2,hyl,fun j f hj=>?_⟩;obtain ⟨ho,hk⟩:=hone_of hone j f hj;have hjl:j < fs.size:=(Array.getElem?_eq_some_iff.1 hj).1;have hcell:=hat j hjl;have hv:cs'[j]?=some (cs'[j]'(by omega)):=List.getElem?_eq_getElem (by omega);have h1:=hf j f hj;rw [ho,hk] at h1;have hone':(cs'.drop j).take 1=[cs'[j]'(by omega)]:=by
    rw [List.drop_eq_getElem_cons (by omega)];rfl
   rw [hone'] at h1;have hys:ys[j]?=some (ys[j]'(by omega)):=List.getElem?_eq_getElem (by omega);refine ⟨_,_,?_,hys,h1.trans hys⟩;rw [<-Go.Deep.add_add,hcell,hv]
theorem kC(hl:laidOutB P=true){W W':World}(hb:Below W.heap.size W W'):∀ (ts:List TypeId) (vs:List Value) (ds:List (DataW H)) (ps:List MemPlace),
 (∀ t ∈ ts,P.readableRec t=true/\t < P.types.size)->DataW.TrodAll enc P W 0 (fun _=>true) true ts vs ds ps->(∀ x ∈ ps,x.block < W.heap.size) ->
 DataW.TrodAll enc P W' 0 (fun b=>decide (b < W.heap.size)) true ts vs ds ps:=by
 intro ts
 induction ts with
 | nil=>
   intro vs ds ps _ h _;obtain ⟨rfl,rfl,rfl⟩:=trodAll_nil h;exact trodAll_mk0
 | cons t r ih=>
   intro vs ds ps ht h hp;obtain ⟨v,vs',d,ds',p,q,rfl,rfl,rfl,hd,hr⟩:=trodAll_cons h;have h1:=ht t (List.mem_cons_self ..);exact trodAll_cons_mk (Below.trod hl h1.1 h1.2 hd hb (fun x hx=>hp x (List.mem_append_left _ hx))) (ih vs' ds' q (fun t' h'=>ht t' (List.mem_cons_of_mem _ h')) hr (fun x hx=>hp x (List.mem_append_right _ hx)))
end
def I64(n:Int):Prop:=-9223372036854775808<=n/\n<=9223372036854775807
theorem xW{n:Int}(h:(Lit.int .i64 n).wf=true):I64 n:=by
 have:=Go.bounds_i64 h;exact this
theorem zcz{α:Type}:∀ (n:Nat) (p:Nat->α->Prop),(∀ i,i < n->∃ x,p i x)->∃ xs:List α,xs.length=n/\∀ i x,xs[i]?=some x->p i x:=by
 intro n
 induction n with
 | zero=>intro p _;exact ⟨[],rfl,by simp⟩
 | succ n ih=>
   intro p h;obtain ⟨x,hx⟩:=h 0 (by omega);obtain ⟨xs,hl,hxs⟩:=ih (fun i=>p (i + 1)) (fun i hi=>h (i + 1) (by omega));refine ⟨x :: xs,by simp [hl],fun i y hy=>?_⟩;cases i with
   | zero=>simp at hy;subst hy;exact hx
   | succ i=>simp at hy;exact hxs i y hy
theorem gK{α:Type}{f:α->List Value}{s:Nat}(hf:∀ x,(f x).length=s){W:World}{a:Addr}:∀ {xs:List α},(∀ i x,xs[i]?=some x->∀ j u,(f x)[j]?=some u->W.cell? (a.add (i * s + j))=some u) ->
 ∀ j u,(zd f xs)[j]?=some u->W.cell? (a.add j)=some u:=by
 intro xs h j u hu;have hl:j < (zd f xs).length:=(List.getElem?_eq_some_iff.1 hu).1;rw [yK hf] at hl;rcases Nat.eq_zero_or_pos s with hs | hs
 ·subst hs;simp at hl
 · have hk:j / s < xs.length:=Nat.div_lt_of_lt_mul (by rw [Nat.mul_comm];exact hl);obtain ⟨x,hx⟩:=zx hk;have hm:j % s < s:=Nat.mod_lt _ hs;have hj:j / s * s + j % s=j:=by rw [Nat.mul_comm];exact Nat.div_add_mod j s
   have h1:=rn hf xs (j / s) (j % s) x hx hm;rw [hj,hu] at h1;have h2:=h (j / s) x hx (j % s) u h1.symm
   rwa [hj] at h2
def Last.wf(x:Last):Prop:=x.name.size<=9223372036854775807/\I64 x.length/\I64 x.b/\I64 x.i/\I64 x.h/\I64 x.p
theorem eF:prog.cellsOf 157=6:=by kernel_rfl
theorem kz{H:Type}{enc:TypeId × Value->H}{W:World}{fuel:Nat}{v:Value}{x:DataW H × List MemPlace}(hf:DataW.trod enc prog W 0 (fun _=>true) true fuel 42 [v]=some x) :
 ∃ (A:Option Addr) (n c:Nat) (xs:List Last),v=.slice A n c/\xs.length=n/\n<=9223372036854775807/\(∀ x ∈ xs,Last.wf x)/\Arr W A (zd Last.cells xs):=by
 rcases oP underlying42 underlying157 (by kernel_rfl) eF hf with ⟨hcs,_⟩ | ⟨a,len,cap,m,D,Pl,hcs,_,hl,hm,hmm,_,hi⟩
 ·simp only [List.cons.injEq,and_true] at hcs;subst hcs;exact ⟨_,_,_,[],rfl,rfl,by omega,by simp,Arr.nil _ _⟩
 · simp only [List.cons.injEq,and_true] at hcs;subst hcs;simp only [if_true] at hmm;subst hmm;have key:∀ i,i < len->∃ x:Last,Last.wf x/\∀ j u,x.cells[j]?=some u->W.cell? (a.add (i * 6 + j))=some u:=by
    intro i hi';obtain ⟨ys,n',_,_,_,hf⟩:=hi i (by omega);obtain ⟨v0,y0,c0,_,t0⟩:=hf 0 _ rfl;obtain ⟨z0,e0,_,q0⟩:=DataW.trod_string underlying9 t0;simp only [List.cons.injEq,and_true] at e0;subst e0;obtain ⟨v1,y1,c1,_,t1⟩:=hf 1 _ rfl;obtain ⟨z1,e1,_,q1⟩:=DataW.trod_int underlying2 t1;simp only [List.cons.injEq,and_true] at e1;subst e1;obtain ⟨v2,y2,c2,_,t2⟩:=hf 2 _ rfl;obtain ⟨z2,e2,_,q2⟩:=DataW.trod_int underlying2 t2;simp only [List.cons.injEq,and_true] at e2;subst e2;obtain ⟨v3,y3,c3,_,t3⟩:=hf 3 _ rfl;obtain ⟨z3,e3,_,q3⟩:=DataW.trod_int underlying2 t3;simp only [List.cons.injEq,and_true] at e3;subst e3;obtain ⟨v4,y4,c4,_,t4⟩:=hf 4 _ rfl;obtain ⟨z4,e4,_,q4⟩:=DataW.trod_int underlying2 t4;simp only [List.cons.injEq,and_true] at e4;subst e4;obtain ⟨v5,y5,c5,_,t5⟩:=hf 5 _ rfl;obtain ⟨z5,e5,_,q5⟩:=DataW.trod_int underlying2 t5;simp only [List.cons.injEq,and_true] at e5;subst e5;refine ⟨⟨z0,z1,z2,z3,z4,z5⟩,⟨by have:=q0;unfold maxLen at this;omega,xW q1,xW q2,xW q3,xW q4,xW q5⟩,?_⟩;intro j u hu
    match j,hu with
    | 0,hu=>exact (Option.some.inj hu) ▸ c0
    | 1,hu=>exact (Option.some.inj hu) ▸ c1
    | 2,hu=>exact (Option.some.inj hu) ▸ c2
    | 3,hu=>exact (Option.some.inj hu) ▸ c3
    | 4,hu=>exact (Option.some.inj hu) ▸ c4
    | 5,hu=>exact (Option.some.inj hu) ▸ c5
    | j + 6,hu=>simp [Last.cells] at hu
   obtain ⟨xs,hxl,hx⟩:=zcz len _ key;refine ⟨_,_,_,xs,rfl,hxl,by unfold maxLen at hm;omega,fun x hx'=>?_,?_⟩
   ·obtain ⟨i,hi'⟩:=List.mem_iff_getElem?.1 hx';exact (hx i x hi').1
   · intro hn;have h0:=List.getElem?_eq_getElem (l:=zd Last.cells xs) hn;have hc:=fun j u=>gK (f:=Last.cells) (s:=6) (fun _=>rfl) (xs:=xs) (W:=W) (a:=a) (fun i x hi'=>(hx i x hi').2) j u;refine ⟨a,rfl,?_,hc⟩;have:=block_lt_of_cell (hc 0 _ h0)
     rwa [rj] at this
def inB(n lo hi:Int):Bool:=decide (lo<=n) && decide (n<=hi)
theorem nu{n lo hi:Int}(h1:lo<=n)(h2:n<=hi):inB n lo hi=true:=by simp [inB,h1,h2]
theorem inB_iff{n lo hi:Int}:inB n lo hi=true ↔ lo<=n/\n<=hi:=by simp [inB]
theorem bB{n lo hi:Int}:inB n lo hi=false ↔ n < lo\/hi < n:=by simp [inB];omega
theorem xv(n lo hi:Int)(w:World):Calls prog 68 #[.int .i64 n,.int .i64 lo,.int .i64 hi] w (RetQ (.bool (inB n lo hi)) w):=by
 go_in
 go_wp2
 all_goals
  go_returns;refine RetQ.mk (vb ?_);simp [inB];try omega
theorem xJ(n lo hi:Int)(w:World):Calls prog 155 #[.int .i64 n,.int .i64 lo,.int .i64 hi] w (RetQ (.bool (inB n lo hi)) w):=by
 go_in
 go_wp2
 all_goals
  go_returns;refine RetQ.mk (vb ?_);simp [inB];try omega
theorem qW(a b:Int)(w:World):Calls prog 239 #[.int .i64 a,.int .i64 b] w (RetQ (.int .i64 (min a b)) w):=by
 go_in
 go_wp2
 all_goals
  go_returns;refine RetQ.mk (vi ?_);omega
theorem za5(a b:Int)(w:World):Calls prog 237 #[.int .i64 a,.int .i64 b] w (RetQ (.int .i64 (max a b)) w):=by
 go_in
 go_wp2
 all_goals
  go_returns;refine RetQ.mk (vi ?_);omega
def vv(c:UInt8):Bool:=decide (97<=c.toNat) && decide (c.toNat<=122)
def sD(c:UInt8):Bool:=decide (48<=c.toNat) && decide (c.toNat<=57)
def ui(c:UInt8):Bool:=vv c || sD c || decide (c.toNat=45)
def sV(l:List UInt8):Bool:=decide (1<=l.length) && decide (l.length<=12) && l.head?.any vv && l.all ui
def zo(s:ByteArray):Bool:=sV s.data.toList
theorem xU{s:ByteArray}{k:Nat}(h:k < s.size):s.data.toList[k]?=some s[k]:=by
 rw [List.getElem?_eq_getElem (by simpa using h)];rfl
theorem zu(s:ByteArray):s.data.toList.length=s.size:=by simp
theorem jP{c:UInt8}(h:(97<=c.toNat/\c.toNat<=122)\/(48<=c.toNat/\c.toNat<=57)\/c.toNat=45):ui c=true:=by
 simp [ui,vv,sD];omega
theorem zcF{c:UInt8}(h:¬ ((97<=c.toNat/\c.toNat<=122)\/(48<=c.toNat/\c.toNat<=57)\/c.toNat=45)):ui c=false:=by
 simp [ui,vv,sD];omega
theorem mi{s:ByteArray}(h1:1<=s.size)(h2:s.size<=12)(hs:vv (s[0]'(by omega))=true)(k:Nat)(hk:k<=1):zo s=(s.data.toList.drop k).all ui:=by
 have hh:=xU (s:=s) (k:=0) (by omega);have h0:ui (s[0]'(by omega))=true:=by simp only [ui,hs,Bool.true_or]
 simp only [zo,sV,List.head?_eq_getElem?,hh,Option.any_some,zu,hs];rw [decide_eq_true h1,decide_eq_true h2];have e0:s.data.toList=s[0]'(by omega) :: s.data.toList.drop 1:=by have:=yM hh;simpa using this
 match k,hk with
 | 0,_=>rw [List.drop_zero];simp
 | 1,_=>conv=>lhs;rw [e0,List.all_cons,h0]
        simp
theorem wQ{s:ByteArray}(h:12 < s.size\/s.size < 1):zo s=false:=by
 simp only [zo,sV,zu];rcases h with h | h
 ·rw [decide_eq_false (by omega:¬ s.size<=12)];simp
 ·rw [decide_eq_false (by omega:¬ 1<=s.size)];simp
theorem pb{s:ByteArray}(h:0 < s.size)(hs:vv s[0]=false):zo s=false:=by
 have hh:=xU (s:=s) (k:=0) h;simp only [zo,sV,List.head?_eq_getElem?,hh,Option.any_some,hs];simp
theorem dR{c:UInt8}(h:97<=c.toNat/\c.toNat<=122):vv c=true:=by simp [vv,h]
theorem lX{c:UInt8}(h:¬ (97<=c.toNat/\c.toNat<=122)):vv c=false:=by simp [vv];omega
theorem xC(s:ByteArray)(hs:s.size<=9223372036854775807)(w:World):Calls prog 118 #[.string s] w (RetQ (.bool (zo s)) w):=by
 go_in;go_wp2_with fail
 ·go_returns;exact RetQ.mk (vb (wQ (by omega)).symm)
 ·go_returns;exact RetQ.mk (vb (wQ (by omega)).symm)
 ·go_returns;exact RetQ.mk (vb (pb (by omega) (lX (by omega))).symm)
 ·go_returns;exact RetQ.mk (vb (pb (by omega) (lX (by omega))).symm)
 · have hR:=qH (mi (s:=s) (by omega) (by omega) (dR (by omega)) 1 (by omega))
   go_loop [3] (fun i=>∃ k:Nat,1<=k/\k<=s.size/\i=.int .i64 k/\Hid (zo s=(s.data.toList.drop k).all ui)) (fun i=>s.size - (intOf i).toNat)
   case atStart=>exact ⟨1,by omega,by omega,rfl,hR⟩
   case round=>
    clear hR;obtain ⟨k,h1,hk,rfl,hR⟩:=hrel;by_cases hlt:k < s.size
    · have hb:=xU hlt;have hR2:=qH (hR.out.trans (by rw [yM hb,List.all_cons]:_=(ui s[k] && (s.data.toList.drop (k + 1)).all ui)));clear hR hb;go_wp2_with fail
      all_goals first
       | (go_returns
          have h45:((s[k].toNat:Int) != 45)=true:=by assumption
          rw [bne_iff_ne] at h45;refine RetQ.mk (vb ?_);rw [hR2.out,zcF (by omega)];rfl)
       | exact ⟨⟨k + 1,by omega,by omega,by go_num,qH (hR2.out.trans (by rw [jP (by omega)];rfl))⟩,by simp [intOf];omega⟩
       | (have h45:((s[k].toNat:Int) != 45)=false:=by assumption
          rw [bne_eq_false_iff_eq] at h45;exact ⟨⟨k + 1,by omega,by omega,by go_num,qH (hR2.out.trans (by rw [jP (by omega)];rfl))⟩,by simp [intOf];omega⟩)
    ·have hR2:=qH (hR.out.trans (by rw [List.drop_eq_nil_of_le (by rw [zu];omega)];rfl:_=true));clear hR;go_wp2;go_returns;exact RetQ.mk (vb hR2.out.symm)
theorem tA(c:UInt8)(w:World):Calls prog 217 #[.int .u8 c.toNat] w (RetQ (.bool (vv c)) w):=by
 go_in
 go_wp2
 all_goals
  go_returns;refine RetQ.mk (vb ?_);rw [Bool.eq_iff_iff];simp [vv];try omega
theorem wP(c:UInt8)(w:World):Calls prog 218 #[.int .u8 c.toNat] w (RetQ (.bool (sD c)) w):=by
 go_in
 go_wp2
 all_goals
  go_returns;refine RetQ.mk (vb ?_);rw [Bool.eq_iff_iff];simp [sD];try omega
theorem xn(s:ByteArray)(hs:s.size<=9223372036854775807)(w:World):Calls prog 153 #[.string s] w (RetQ (.bool (zo s)) w):=by
 by_cases h0:s.size=0
 · have he:(s.toList == [])=true:=by rw [rF];simp only [h0];rfl
   go_in
   go_wp2
   go_returns;exact RetQ.mk (vb (wQ (by omega)).symm)
 · have he:(s.toList == [])=false:=by rw [rF];exact decide_eq_false h0
   have hp:1<=s.size:=by omega
   clear h0;go_in;cases hsm:vv (s[0]'(by omega))
   · by_cases hl:s.size<=12
     · have hd:decide (12 < (s.size:Int))=false:=decide_eq_false (by omega);go_wp2_with (first | (go_at_call 217;refine (tA _ _).mono ?_;rintro e w' ⟨rfl,rfl⟩) | (go_at_call 218;refine (wP _ _).mono ?_;rintro e w' ⟨rfl,rfl⟩))
       go_returns;exact RetQ.mk (vb (pb hp hsm).symm)
     · have hd:decide (12 < (s.size:Int))=true:=decide_eq_true (by omega);go_wp2_with (first | (go_at_call 217;refine (tA _ _).mono ?_;rintro e w' ⟨rfl,rfl⟩) | (go_at_call 218;refine (wP _ _).mono ?_;rintro e w' ⟨rfl,rfl⟩))
       go_returns;exact RetQ.mk (vb (wQ (by omega)).symm)
   · by_cases hl:s.size<=12
     · have hR:=qH (mi (s:=s) hp hl hsm 0 (by omega));have hd:decide (12 < (s.size:Int))=false:=decide_eq_false (by omega);go_wp2_with (first | (go_at_call 217;refine (tA _ _).mono ?_;rintro e w' ⟨rfl,rfl⟩) | (go_at_call 218;refine (wP _ _).mono ?_;rintro e w' ⟨rfl,rfl⟩))
       go_loop [3] (fun i=>∃ k:Nat,k<=s.size/\i=.int .i64 k/\Hid (zo s=(s.data.toList.drop k).all ui)) (fun i=>s.size - (intOf i).toNat)
       case atStart=>exact ⟨0,by omega,rfl,hR⟩
       case round=>
        clear hR hsm;obtain ⟨k,hk,rfl,hR⟩:=hrel;by_cases hlt:k < s.size
        · have hb:=xU hlt;have hR2:=qH (hR.out.trans (by rw [yM hb,List.all_cons]:_=(ui s[k] && (s.data.toList.drop (k + 1)).all ui)));clear hR hb;cases h1:vv s[k] <;> cases h2:sD s[k] <;> cases h3:((s[k].toNat:Int) != 45)
          all_goals
           go_wp2_with (first | (go_at_call 217;refine (tA _ _).mono ?_;rintro e w' ⟨rfl,rfl⟩) | (go_at_call 218;refine (wP _ _).mono ?_;rintro e w' ⟨rfl,rfl⟩))
           first
           | (go_returns
              refine RetQ.mk (vb ?_);rw [hR2.out,ui,h1,h2];rw [bne_iff_ne] at h3;rw [decide_eq_false (by omega)];rfl)
           | (refine ⟨⟨k + 1,by omega,by go_num,qH (hR2.out.trans ?_)⟩,by simp [intOf];omega⟩
              have ho:ui s[k]=true:=by
               rw [ui,h1,h2];(try rw [bne_eq_false_iff_eq] at h3);simp;try omega
              rw [ho];rfl)
        ·have hR2:=qH (hR.out.trans (by rw [List.drop_eq_nil_of_le (by rw [zu];omega)];rfl:_=true));clear hR;go_wp2;go_returns;exact RetQ.mk (vb hR2.out.symm)
     · have hd:decide (12 < (s.size:Int))=true:=decide_eq_true (by omega);go_wp2_with (first | (go_at_call 217;refine (tA _ _).mono ?_;rintro e w' ⟨rfl,rfl⟩) | (go_at_call 218;refine (wP _ _).mono ?_;rintro e w' ⟨rfl,rfl⟩))
       go_returns;exact RetQ.mk (vb (wQ (by omega)).symm)
theorem xI{P:Program}{ops:Array Oper}{rest:List Oper}{o:Oper}{a:Act}{Q:Exit->Act->World->Prop}(w:World)(C:Array Value)(hgd:o.guard=none)(s x:Operand)(t e:TypeId)(ho:o.op=.call { callee:=.builtin .append,args:=#[s,x],argTypes:=#[t,t] })(i:TypeInfo)(z:Value)(size bytes:Nat)(ht:P.underlying t=some (.slice e))(hi:P.info? e=some i)(hz:i.zero=some z)(hsize:i.size=size)(hby:i.bytes=bytes)(hzs:z.cells.size=size)(hsz:0 < size)(base:Nat)(v:Value)(n:Nat)(cs:List Value)(hs:a.eval s=v)(hx:a.eval x=.slice (some ⟨w.heap.size,0,none⟩) 1 1)(hown:w.ownsRow base e size v n cs)(hl:C.size=size)(h1:∀ u ∈ C.toList,u.oneCell'=true)(h63:n + 1<=maxLen)(hbytes:(n + 1) * bytes<=140737488355328)(hbase:base<=w.heap.size)(h:∀ A c w',w'.ownsRow base e size (.slice A (n + 1) c) (n + 1) (cs ++ C.toList)->w.grownBy w' v.ownBlock->wpList P ops Q rest (a.put o.dst (.slice A (n + 1) c)) w') :
 wpList P ops Q (o :: rest) a (w.alloc (.cells C e)):=by
 refine wpList_append_own (w.alloc (.cells C e)) hgd s x t ho base e i z size bytes ht hi hz hsize hby hzs hsz v n cs hs (hown.alloc _) ⟨w.heap.size,0,none⟩ 1 1 C.toList hx (by simp [hl]) ?_ h1 h63 hbytes (by simp;omega) ?_
 · intro j u hu;have hadd:(⟨w.heap.size,0,none⟩:Addr).add j=⟨w.heap.size,j,none⟩:=by unfold Addr.add;split <;> simp_all
   rw [hadd,World.cell?_alloc_at C e w.heap.size j rfl];simpa using hu
 ·intro v' w' hown' hg _;obtain ⟨A,c,rfl,_,_⟩:=wc hown';exact h A c w' hown' (vw (qc (World.grownBy.refl w _) _) hg)
theorem vX{P:Program}{ops:Array Oper}{rest:List Oper}{o:Oper}{a:Act}{Q:Exit->Act->World->Prop}(w:World)(hgd:o.guard=none)(s x:Operand)(t e:TypeId)(ho:o.op=.call { callee:=.builtin .append,args:=#[s,x],argTypes:=#[t,t] })(i:TypeInfo)(z:Value)(size bytes:Nat)(ht:P.underlying t=some (.slice e))(hi:P.info? e=some i)(hz:i.zero=some z)(hsize:i.size=size)(hby:i.bytes=bytes)(hzs:z.cells.size=size)(hsz:0 < size)(base:Nat)(v:Value)(n:Nat)(cs:List Value)(hs:a.eval s=v)(hown:w.ownsRow base e size v n cs)(ad:Addr)(m c:Nat)(C:List Value)(hx:a.eval x=.slice (some ad) m c)(hA:Arr w (some ad) C)(hl:C.length=m * size)(h1:∀ u ∈ C,u.oneCell'=true)(h63:n + m<=maxLen)(hbytes:(n + m) * bytes<=140737488355328)(hbase:base<=w.heap.size)(h:∀ A c w',w'.ownsRow base e size (.slice A (n + m) c) (n + m) (cs ++ C)->w.grownBy w' v.ownBlock->wpList P ops Q rest (a.put o.dst (.slice A (n + m) c)) w') :
 wpList P ops Q (o :: rest) a w:=by
 refine wpList_append_own w hgd s x t ho base e i z size bytes ht hi hz hsize hby hzs hsz v n cs hs hown ad m c C hx hl ?_ h1 h63 hbytes hbase ?_
 ·intro j u hu;obtain ⟨ad',e',_,hc⟩:=hA (by have:=(List.getElem?_eq_some_iff.1 hu).1;omega);injection e' with e';subst e';exact hc j u hu
 ·intro v' w' hown' hg _;obtain ⟨A,c,rfl,_,_⟩:=wc hown';exact h A c w' hown' hg
theorem zj{P:Program}{fn:Func}{p u:Tmp}{ty:TypeId}(h:fn.results=#[.cell p ty,.tmp u])(tmps:Array Value)(w:World)(g:Nat)(t:TypeId)(cs:Array Value)(fr:Nat × Nat)(d:TypeDesc)(hp:tmps.getD p undef=.pointer (some ⟨g,0,none⟩))(hg:w.heap[g]?=some (.cells cs t fr))(hu:P.underlying ty=some d)(hd:(match d with | .struct _ | .array _ _=>true | _=>false)=true)(hi:(P.info? ty).map (·.size)=some cs.size) :
 (results fn tmps).run P w=.ok (.tuple #[.agg cs,tmps.getD u undef]) w:=by
 rw [results_cell_tmp h,hp];simp [asAddr,run_loadVar_row w g t ty cs fr d hg hu hd hi]
def rf(E size n:Nat)(cs:List Value)(w:World)(e:Ending)(w':World):Prop:=
 ∃ A c,e=.returned (.slice A n c)/\w'.ownsRow w.heap.size E size (.slice A n c) n cs/\Below w.heap.size w w'
theorem zI(w:World)(base:Nat)(e size:Nat)(hb:base<=w.heap.size):(w.alloc (.cells #[] e)).ownsRow base e size (.slice (some ⟨w.heap.size,0,none⟩) 0 0) 0 []:=
 World.ownsRow_made w #[] 0 hb (by simp [maxLen]) (by simp)
theorem zn{w:World}{base e size n:Nat}{v:Value}{cs:List Value}(h:w.ownsRow base e size v n cs):∀ k,v.ownBlock=some k->base<=k:=by
 intro k hk;rcases h.2 with ⟨hv,_⟩ | ⟨g,cap,cur,hv,hg,_⟩ <;> subst hv
 ·simp [Value.ownBlock] at hk
 · have:g=k:=by simpa [Value.ownBlock] using hk
   omega
def OutL(E size:Nat)(n:Nat)(cs:List Value)(code:Int)(w:World)(e:Ending)(w':World):Prop:=
 ∃ A c,e=.returned (.tuple #[.slice A n c,.int .i64 code])/\w'.ownsRow w.heap.size E size (.slice A n c) n cs/\Below w.heap.size w w'
theorem OutL.nil{E size:Nat}{code:Int}{w w':World}(hb:Below w.heap.size w w'):OutL E size 0 [] code w (.returned (.tuple #[.slice none 0 0,.int .i64 code])) w':=
 ⟨none,0,rfl,World.ownsRow_nil _ _ _ _,hb⟩
theorem OutL.mk{E size n:Nat}{cs cs':List Value}{code code':Int}{A:Option Addr}{c m:Nat}{w w':World}(h:w'.ownsRow w.heap.size E size (.slice A m c) m cs')(hm:m=n)(hc:cs'=cs)(hcode:code'=code)(hb:Below w.heap.size w w') :
 OutL E size n cs code w (.returned (.tuple #[.slice A m c,.int .i64 code'])) w':=by
 subst hm;subst hc;subst hcode;exact ⟨A,c,rfl,h,hb⟩
theorem qB{P:Program}{ops:Array Oper}{rest:List Oper}{o:Oper}{a:Act}{Q:Exit->Act->World->Prop}(w:World)(C:Array Value)(hgd:o.guard=none)(s x:Operand)(t e:TypeId)(ho:o.op=.call { callee:=.builtin .append,args:=#[s,x],argTypes:=#[t,t] })(i:TypeInfo)(z:Value)(size bytes:Nat)(ht:P.underlying t=some (.slice e))(hi:P.info? e=some i)(hz:i.zero=some z)(hsize:i.size=size)(hby:i.bytes=bytes)(hzs:z.cells.size=size)(hsz:0 < size)(base:Nat)(v:Value)(n:Nat)(cs:List Value)(hs:a.eval s=v)(gx:Nat)(hgx:gx=w.heap.size)(hx:a.eval x=.slice (some ⟨gx,0,none⟩) 1 1)(hown:w.ownsRow base e size v n cs)(hl:C.size=size)(h1:∀ u ∈ C.toList,u.oneCell'=true)(h63:n + 1<=maxLen)(hbytes:(n + 1) * bytes<=140737488355328)(hbase:base<=w.heap.size)(h:∀ A c w',w'.ownsRow base e size (.slice A (n + 1) c) (n + 1) (cs ++ C.toList)->w.grownBy w' v.ownBlock->wpList P ops Q rest (a.put o.dst (.slice A (n + 1) c)) w') :
 wpList P ops Q (o :: rest) a (w.alloc (.cells C e)):=by
 subst hgx;exact xI w C hgd s x t e ho i z size bytes ht hi hz hsize hby hzs hsz base v n cs hs hx hown hl h1 h63 hbytes hbase h
def u8v(b:UInt8):Value:=.int .u8 b.toNat
def wY:Nat->List UInt8->List UInt8
 | m,acc=>if h:m=0 then acc else wY (m / 10) (UInt8.ofNat (48 + m % 10) :: acc)
termination_by m=>m
decreasing_by omega
theorem sj(acc:List UInt8):wY 0 acc=acc:=by rw [wY,dif_pos rfl]
theorem pI{m:Nat}(h:0 < m)(acc:List UInt8):wY m acc=wY (m / 10) (UInt8.ofNat (48 + m % 10) :: acc):=by rw [wY,dif_neg (by omega)]
theorem uB:∀ (m:Nat),0 < m->∀ acc,wY m acc=Lib.decDigits m ++ acc:=by
 intro m
 induction m using Nat.strongRecOn with
 | ind m ih=>
   intro h acc;rw [pI h];by_cases h10:m < 10
   ·rw [show m / 10=0 from by omega,sj,Lib.decDigits,dif_pos h10,show m % 10=m from by omega];rfl
   · have e:Lib.decDigits m=Lib.decDigits (m / 10) ++ [UInt8.ofNat (48 + m % 10)]:=by rw [Lib.decDigits,dif_neg h10]
     rw [ih (m / 10) (by omega) (by omega),e];simp
theorem jt(n:Nat):Lib.itoa (n:Int)=if n=0 then [48] else wY n []:=by
 unfold Lib.itoa;rw [if_neg (by omega),Int.toNat_natCast];by_cases h:n=0
 ·subst h;rw [if_pos rfl,Lib.decDigits,dif_pos (by omega)];rfl
 ·rw [if_neg h,uB n (by omega)];simp
theorem gg(m:Nat):((UInt8.ofNat (48 + m % 10)).toNat:Int)=48 + ((m % 10:Nat):Int):=by
 rw [UInt8.toNat_ofNat'];omega
theorem jU:∀ (acc:List UInt8) (r:ByteArray),(acc.map fun b:UInt8=>(b.toNat:Int)).foldl (fun r n=>r.push (UInt8.ofNat n.toNat)) r=⟨r.data ++ acc.toArray⟩
 | [],r=>by simp
 | b :: bs,r=>by
   simp only [List.map_cons,List.foldl_cons];rw [jU bs];cases r with
   | mk d=>
     simp only [ByteArray.push,Int.toNat_natCast,UInt8.ofNat_toNat,ByteArray.mk.injEq];simp
theorem lW{P:Program}(src dst e:TypeId)(hs:P.underlying src=some (.slice e))(he:P.underlying e=some (.int .u8))(hd:P.underlying dst=some .string)(W:World)(ad:Addr)(c:Nat)(acc:List UInt8)(hA:Arr W (some ad) (acc.map u8v))(h0:0 < acc.length) :
 (convert src dst (.slice (some ad) acc.length c)).run P W=.ok (.string ⟨acc.toArray⟩) W:=by
 rw [run_convert_bytes_string _ _ _ _ _ _ _ hs he hd];have hc:(loadCells ad acc.length).run P W=.ok ((acc.map fun b:UInt8=>(b.toNat:Int)).map (Value.int .u8)).toArray W:=by
  obtain ⟨ad',e',_,hcell⟩:=hA (by simpa using h0);injection e' with e';subst e';have:=run_loadCells_list (P:=P) (w:=W) ad (acc.map u8v) hcell;have e:(acc.map (fun b:UInt8=>(b.toNat:Int))).map (Value.int .u8)=acc.map u8v:=by rw [List.map_map];rfl
  rw [e];simpa using this
 rw [run_bytesToString _ _ _ _ (acc.map fun b:UInt8=>(b.toNat:Int)) hc,jU];simp
theorem fT:∀ (k u:Nat),u < 10 ^ (k + 1)->Lib.nDigits u<=k + 1:=by
 intro k
 induction k with
 | zero=>intro u hu;rw [Lib.nDigits_small (by simpa using hu)];exact Nat.le_refl _
 | succ k ih=>
   intro u hu;by_cases hs:u < 10
   ·rw [Lib.nDigits_small hs];omega
   ·rw [Lib.nDigits_big hs];have:=ih (u / 10) (by rw [Nat.pow_succ] at hu;exact Nat.div_lt_of_lt_mul (by omega));omega
theorem zaC{n:Nat}{acc:List UInt8}(hn:(n:Int)<=9223372036854775808)(h:wY n []=acc):acc.length<=19:=by
 rw [<-h];rcases Nat.eq_zero_or_pos n with h0 | h0
 ·subst h0;rw [sj];simp
 ·rw [uB n h0,List.append_nil,Lib.decDigits_length];exact fT 18 n (by omega)
theorem lk{n m:Nat}{acc:List UInt8}(hn:(n:Int)<=9223372036854775808)(hm:0 < m)(h:wY n []=wY m acc):acc.length + 1<=20:=by
 have h1:(wY n []).length<=19:=by
  rcases Nat.eq_zero_or_pos n with h0 | h0
  ·subst h0;rw [sj];simp
  ·rw [uB n h0,List.append_nil,Lib.decDigits_length];exact fT 18 n (by omega)
 rw [h,uB m hm,List.length_append] at h1;omega
def zaB(n:Nat):ByteArray:=⟨(Lib.itoa (n:Int)).toArray⟩
theorem fK:(prog.info? 5).map (fun i=>(i.zero,i.size,i.bytes))=some (some (.int .u8 0),1,1):=by kernel_rfl
theorem za6(n:Nat)(hn:(n:Int)<=9223372036854775807)(w:World):Calls prog 165 #[.int .i64 n] w (Ret (.string (zaB n)) w):=by
 obtain ⟨i0,hi0,hz0,hz1,hz2⟩:=info_parts (P:=prog) (e:=5) (z:=.int .u8 0) (size:=1) (bytes:=1) fK;go_in;go_wp2_with fail;have hR:=qH (show wY n []=wY n [] from rfl)
 go_loopw [3,4] (fun o k wr=>∃ (m:Nat) (acc:List UInt8) (ad:Addr) (c:Nat),k=.int .i64 m/\o=.slice (some ad) acc.length c/\wr.ownsRow w.heap.size 5 1 (.slice (some ad) acc.length c) acc.length (acc.map u8v)/\acc.length + m<=n/\(n=0\/0 < m\/0 < acc.length)/\Hid (wY n []=wY m acc)/\Below w.heap.size w wr) (fun _ k _=>(intOf k).toNat)
 case atStart=>exact ⟨n,[],⟨w.heap.size,0,none⟩,0,rfl,rfl,zI w _ _ _ (Nat.le_refl _),by simp,by omega,qH rfl,zc (Below.refl _ _) _⟩
 case round=>
  obtain ⟨m,acc,ad,c,rfl,rfl,hown,hle,hor,hR,hv⟩:=hrel;by_cases h0:m=0
  · subst h0;have hne:(((0:Nat):Int) != 0)=false:=by rfl
    have hR2:=qH (hR.out.trans (sj acc));by_cases hl:acc.length=0
    · have hn0:n=0:=by omega
      have hle0:((acc.length:Int) == 0)=true:=by simp;exact List.length_eq_zero_iff.1 hl
      have HN:=qH hn0;clear hn0 hl;go_wp2;go_returns;exact Ret.mk (by rw [zaB,HN.out,jt];rfl) hv
    · have hle0:((acc.length:Int) == 0)=false:=by simp;intro e;exact hl (by rw [e];rfl)
      have hrun:=lW (P:=prog) 22 9 5 underlying22 underlying5 underlying9 wr ad c acc (Arr.own hown) (by omega);have hnn:¬ (n:Int) < 0:=by omega
      have hn0:n≠0:=by omega
      have HN:=qH hn0;clear hl hn0;go_wp2;go_returns;exact Ret.mk (by rw [zaB,jt,if_neg HN.out,hR2.out];rfl) hv
  · have hne:((m:Int) != 0)=true:=by rw [bne_iff_ne];omega
    have hR2:=qH (hR.out.trans (pI (by omega) acc));have hroom:=lk (by omega) (by omega) hR.out;have hX:=World.ownsRow_lit (base:=w.heap.size) (e:=5) (size:=1) wr #[Value.int IntKind.u8 (48 + ((m % 10:Nat):Int))] 1 hv.size (by simp [maxLen]) (by simp);have HX:=qH hX;have hAr:=Arr.own hown;have hsz:w.heap.size<=(wr.alloc (Obj.cells #[.int IntKind.u8 (48 + ((m % 10:Nat):Int))] 5)).heap.size:=by have:=hv.size;simp;omega
    have HSZ:=qH hsz;have HAr:=qH hAr;clear hX hAr hsz;go_wp2_with (at_builtin;go_loud (refine vX _ rfl _ _ 22 5 rfl i0 _ 1 1 underlying22 hi0 hz0 hz1 hz2 rfl (by omega) w.heap.size (.slice (some ⟨wr.heap.size,0,none⟩) 1 1) 1 [.int .u8 (48 + ((m % 10:Nat):Int))] rfl HX.out ad acc.length c (acc.map u8v) rfl (HAr.out.alloc _) (by simp) (by intro u hu;simp only [List.mem_map] at hu;obtain ⟨b,_,rfl⟩:=hu;rfl) (by unfold maxLen;omega) (by omega) HSZ.out ?_);intro A2 c2 w2 hown2 hg2;obtain ⟨g2,hA2⟩:=xu hown2 (by omega);subst hA2)
    have e1:1 + acc.length=(UInt8.ofNat (48 + m % 10) :: acc).length:=by simp;omega
    have e2:[Value.int IntKind.u8 (48 + ((m % 10:Nat):Int))] ++ acc.map u8v=(UInt8.ofNat (48 + m % 10) :: acc).map u8v:=by simp only [List.map_cons,u8v];rw [gg];rfl
    rw [e1,e2] at hown2;refine ⟨⟨m / 10,UInt8.ofNat (48 + m % 10) :: acc,⟨g2,0,none⟩,c2,by go_num,by rw [e1],hown2,by simp;omega,by simp,hR2,?_⟩,by simp [intOf];omega⟩;exact zi (zc hv _) hg2 (fun k e=>by
     have h1:=hv.size;have h2:wr.heap.size=k:=by simpa [Value.ownBlock] using e
     omega)
def zm(n:Int):ByteArray:=⟨(Lib.itoa n).toArray⟩
theorem itoa_neg(n:Nat)(h:0 < n):Lib.itoa (-(n:Int))=45 :: wY n []:=by
 unfold Lib.itoa;rw [if_pos (by omega),uB n h,show (-(n:Int)).natAbs=n from by omega];simp
theorem zbH(m:Nat):Int.tmod (-(m:Int)) 10 = -((m % 10:Nat):Int):=by
 rw [Int.neg_tmod,Int.tmod_eq_emod_of_nonneg (by omega)];rfl
theorem zbE(m:Nat):Int.tdiv (-(m:Int)) 10 = -((m / 10:Nat):Int):=by
 rw [Int.neg_tdiv,Int.tdiv_eq_ediv_of_nonneg (by omega)];rfl
theorem dr(n:Nat)(hn0:0 < n)(hn:(n:Int)<=9223372036854775808)(w:World):Calls prog 165 #[.int .i64 (-(n:Int))] w (Ret (.string (zm (-(n:Int)))) w):=by
 obtain ⟨i0,hi0,hz0,hz1,hz2⟩:=info_parts (P:=prog) (e:=5) (z:=.int .u8 0) (size:=1) (bytes:=1) fK;go_in;go_wp2_with fail
 go_loopw [3,4] (fun o k wr=>∃ (m:Nat) (acc:List UInt8) (ad:Addr) (c:Nat),k=.int .i64 (-(m:Int))/\o=.slice (some ad) acc.length c/\wr.ownsRow w.heap.size 5 1 (.slice (some ad) acc.length c) acc.length (acc.map u8v)/\acc.length + m<=n/\(0 < m\/0 < acc.length)/\Hid (wY n []=wY m acc)/\Below w.heap.size w wr) (fun _ k _=>(-(intOf k)).toNat)
 case atStart=>exact ⟨n,[],⟨w.heap.size,0,none⟩,0,rfl,rfl,zI w _ _ _ (Nat.le_refl _),by simp,by omega,qH rfl,zc (Below.refl _ _) _⟩
 case round=>
  obtain ⟨m,acc,ad,c,rfl,rfl,hown,hle,hor,hR,hv⟩:=hrel;by_cases h0:m=0
  · subst h0;have hR2:=qH (hR.out.trans (sj acc));have hl:acc.length≠0:=by omega
    have hle0:((acc.length:Int) == 0)=false:=by simp;intro e;exact hl (by rw [e];rfl)
    have hrun:=lW (P:=prog) 22 9 5 underlying22 underlying5 underlying9 wr ad c acc (Arr.own hown) (by omega);have hl19:=zaC hn hR2.out;have hadd:=fun (w:World)=>run_string_add_sum (P:=prog) w ⟨#[45]⟩ ⟨acc.toArray⟩ (by rw [ByteArray.size_mk',ByteArray.size_mk'];simp;omega);have hnn:-(n:Int) < 0:=by omega
    clear hl;go_wp2;go_returns;refine Ret.mk ?_ hv;rw [zm,itoa_neg n hn0,hR2.out];exact congrArg Value.string (ByteArray.mk_append_mk [45] acc)
  · have hne:(-(m:Int) != 0)=true:=by rw [bne_iff_ne];omega
    have hR2:=qH (hR.out.trans (pI (by omega) acc));have hroom:=lk (by omega) (by omega) hR.out;obtain ⟨r,hr⟩:∃ r:Nat,r=m % 10:=⟨_,rfl⟩
    obtain ⟨q,hq⟩:∃ q:Nat,q=m / 10:=⟨_,rfl⟩
    have ht:Int.tmod (-(m:Int)) 10 = -(r:Int):=by rw [hr];exact zbH m
    have hd:Int.tdiv (-(m:Int)) 10 = -(q:Int):=by rw [hq];exact zbE m
    have hr9:(r:Int)<=9:=by omega
    have hqm:q < m:=by omega
    have hqm2:(q:Int)<=1000000000000000000:=by omega
    have HQ:=qH hq;have HR':=qH hr;clear hr hq;rcases Nat.eq_zero_or_pos r with hr0 | hrp
    · have ht0:Int.tmod (-(m:Int)) 10=0:=by rw [ht,hr0];rfl
      have HR0:=qH hr0;clear ht hr0;have hX:=World.ownsRow_lit (base:=w.heap.size) (e:=5) (size:=1) wr #[Value.int IntKind.u8 48] 1 hv.size (by simp [maxLen]) (by simp);have HX:=qH hX;have hAr:=Arr.own hown;have hsz:w.heap.size<=(wr.alloc (Obj.cells #[.int IntKind.u8 48] 5)).heap.size:=by have:=hv.size;simp;omega
      have HSZ:=qH hsz;have HAr:=qH hAr;clear hX hAr hsz;go_wp2_with (at_builtin;go_loud (refine vX _ rfl _ _ 22 5 rfl i0 _ 1 1 underlying22 hi0 hz0 hz1 hz2 rfl (by omega) w.heap.size (.slice (some ⟨wr.heap.size,0,none⟩) 1 1) 1 [.int .u8 48] rfl HX.out ad acc.length c (acc.map u8v) rfl (HAr.out.alloc _) (by simp) (by intro u hu;simp only [List.mem_map] at hu;obtain ⟨b,_,rfl⟩:=hu;rfl) (by unfold maxLen;omega) (by omega) HSZ.out ?_);intro A2 c2 w2 hown2 hg2;obtain ⟨g2,hA2⟩:=xu hown2 (by omega);subst hA2)
      have e1:1 + acc.length=(UInt8.ofNat (48 + m % 10) :: acc).length:=by simp;omega
      have e2:[Value.int IntKind.u8 48] ++ acc.map u8v=(UInt8.ofNat (48 + m % 10) :: acc).map u8v:=by
       have h:=gg m;rw [<-HR'.out] at h |-;simp only [List.map_cons,u8v];rw [h];rw [HR0.out];rfl
      rw [e1,e2] at hown2;have hqe:wY (m / 10) (UInt8.ofNat (48 + m % 10) :: acc)=wY q (UInt8.ofNat (48 + m % 10) :: acc):=by rw [HQ.out]
      refine ⟨⟨q,UInt8.ofNat (48 + m % 10) :: acc,⟨g2,0,none⟩,c2,by go_num,by rw [e1],hown2,by simp;omega,by simp,qH (hR2.out.trans hqe),?_⟩,by simp [intOf];omega⟩;exact zi (zc hv _) hg2 (fun k e=>by
       have h1:=hv.size;have h2:wr.heap.size=k:=by simpa [Value.ownBlock] using e
       omega)
    · have hrn:-(r:Int) < 0:=by omega
      have hrn2:(r:Int)≠0:=by omega
      have hX:=World.ownsRow_lit (base:=w.heap.size) (e:=5) (size:=1) wr #[Value.int IntKind.u8 (48 + (r:Int))] 1 hv.size (by simp [maxLen]) (by simp);have HX:=qH hX;have hAr:=Arr.own hown;have hsz:w.heap.size<=(wr.alloc (Obj.cells #[.int IntKind.u8 (48 + (r:Int))] 5)).heap.size:=by have:=hv.size;simp;omega
      have HSZ:=qH hsz;have HAr:=qH hAr;clear hX hAr hsz;go_wp2_with (at_builtin;go_loud (refine vX _ rfl _ _ 22 5 rfl i0 _ 1 1 underlying22 hi0 hz0 hz1 hz2 rfl (by omega) w.heap.size (.slice (some ⟨wr.heap.size,0,none⟩) 1 1) 1 [.int .u8 (48 + (r:Int))] rfl HX.out ad acc.length c (acc.map u8v) rfl (HAr.out.alloc _) (by simp) (by intro u hu;simp only [List.mem_map] at hu;obtain ⟨b,_,rfl⟩:=hu;rfl) (by unfold maxLen;omega) (by omega) HSZ.out ?_);intro A2 c2 w2 hown2 hg2;obtain ⟨g2,hA2⟩:=xu hown2 (by omega);subst hA2)
      have e1:1 + acc.length=(UInt8.ofNat (48 + m % 10) :: acc).length:=by simp;omega
      have e2:[Value.int IntKind.u8 (48 + (r:Int))] ++ acc.map u8v=(UInt8.ofNat (48 + m % 10) :: acc).map u8v:=by
       have h:=gg m;rw [<-HR'.out] at h |-;simp only [List.map_cons,u8v];rw [h];rfl
      rw [e1,e2] at hown2;have hqe:wY (m / 10) (UInt8.ofNat (48 + m % 10) :: acc)=wY q (UInt8.ofNat (48 + m % 10) :: acc):=by rw [HQ.out]
      refine ⟨⟨q,UInt8.ofNat (48 + m % 10) :: acc,⟨g2,0,none⟩,c2,by go_num,by rw [e1],hown2,by simp;omega,by simp,qH (hR2.out.trans hqe),?_⟩,by simp [intOf];omega⟩;exact zi (zc hv _) hg2 (fun k e=>by
       have h1:=hv.size;have h2:wr.heap.size=k:=by simpa [Value.ownBlock] using e
       omega)
theorem xh(n:Int)(h0:-9223372036854775808<=n)(h1:n<=9223372036854775807)(w:World):Calls prog 165 #[.int .i64 n] w (Ret (.string (zm n)) w):=by
 by_cases h:0<=n
 ·obtain ⟨c,rfl⟩:=Int.eq_ofNat_of_zero_le h;exact za6 c h1 w
 · obtain ⟨c,hc⟩:∃ c:Nat,n = -(c:Int):=⟨n.natAbs,by omega⟩
   subst hc;exact dr c (by omega) (by omega) w
end Go.Proofs.YtpiehlfffjhoaaaGreatDoor
