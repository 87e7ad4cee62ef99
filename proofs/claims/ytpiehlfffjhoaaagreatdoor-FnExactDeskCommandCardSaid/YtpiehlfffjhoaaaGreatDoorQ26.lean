/- Lemmas for the law on the console: the parts CrA,Clone,CnJ,CnG,InsP. -/
import Derived.Test.YtpiehlfffjhoaaaGreatDoorQ25
import Derived.Lib.AppendZeros
namespace Go.Proofs.YtpiehlfffjhoaaaGreatDoor
open Go.RowKit Go.Proofs.Tryz
set_option maxRecDepth 100000
set_option maxHeartbeats 4000000
def zW(w:ByteArray):ByteArray:=if w=ya then ⟨#[120]⟩ else if w=yc then ⟨#[120]⟩ else if w=zw then ⟨#[114]⟩ else if w=yb then ⟨#[114]⟩ else if w=zO then ⟨#[114]⟩ else if w=zJ then ⟨#[120,120,120]⟩ else if w=yv then ⟨#[110,110,110]⟩ else if w=zM then ⟨#[110,110,110,110]⟩ else if w=zL then ⟨#[110,120,110]⟩ else if w=zV then ⟨#[]⟩ else if w=yE then ⟨#[]⟩ else ⟨#[45]⟩
theorem bW(t:ByteArray)(w:World):Calls prog 97 #[.string t] w (RetQ (.string (zW t)) w):=by
 by_cases hfoot:t=ya
 ·have HE:=qH (show zW t=⟨#[120]⟩ by rw [hfoot];decide);have ht:t=⟨#[102,111,111,116]⟩:=hfoot;subst ht;rw [HE.out];clear  hfoot HE;go_in;go_wp2;go_returns;exact RetQ.mk rfl
 have nfoot:(t.toList == [102,111,111,116])=false:=xY rfl hfoot;by_cases hneed:t=yc
 ·have HE:=qH (show zW t=⟨#[120]⟩ by rw [hneed];decide);have ht:t=⟨#[110,101,101,100]⟩:=hneed;subst ht;rw [HE.out];clear nfoot hneed HE;go_in;go_wp2;go_returns;exact RetQ.mk rfl
 have nneed:(t.toList == [110,101,101,100])=false:=xY rfl hneed;by_cases hclause:t=zw
 ·have HE:=qH (show zW t=⟨#[114]⟩ by rw [hclause];decide);have ht:t=⟨#[99,108,97,117,115,101]⟩:=hclause;subst ht;rw [HE.out];clear nfoot nneed hclause HE;go_in;go_wp2;go_returns;exact RetQ.mk rfl
 have nclause:(t.toList == [99,108,97,117,115,101])=false:=xY rfl hclause;by_cases hlast:t=yb
 ·have HE:=qH (show zW t=⟨#[114]⟩ by rw [hlast];decide);have ht:t=⟨#[108,97,115,116]⟩:=hlast;subst ht;rw [HE.out];clear nfoot nneed nclause hlast HE;go_in;go_wp2;go_returns;exact RetQ.mk rfl
 have nlast:(t.toList == [108,97,115,116])=false:=xY rfl hlast;by_cases hstyle:t=zO
 ·have HE:=qH (show zW t=⟨#[114]⟩ by rw [hstyle];decide);have ht:t=⟨#[115,116,121,108,101]⟩:=hstyle;subst ht;rw [HE.out];clear nfoot nneed nclause nlast hstyle HE;go_in;go_wp2;go_returns;exact RetQ.mk rfl
 have nstyle:(t.toList == [115,116,121,108,101])=false:=xY rfl hstyle;by_cases halter:t=zJ
 ·have HE:=qH (show zW t=⟨#[120,120,120]⟩ by rw [halter];decide);have ht:t=⟨#[97,108,116,101,114]⟩:=halter;subst ht;rw [HE.out];clear nfoot nneed nclause nlast nstyle halter HE;go_in;go_wp2;go_returns;exact RetQ.mk rfl
 have nalter:(t.toList == [97,108,116,101,114])=false:=xY rfl halter;by_cases hfit:t=yv
 ·have HE:=qH (show zW t=⟨#[110,110,110]⟩ by rw [hfit];decide);have ht:t=⟨#[102,105,116]⟩:=hfit;subst ht;rw [HE.out];clear nfoot nneed nclause nlast nstyle nalter hfit HE;go_in;go_wp2;go_returns;exact RetQ.mk rfl
 have nfit:(t.toList == [102,105,116])=false:=xY rfl hfit;by_cases hraise:t=zM
 ·have HE:=qH (show zW t=⟨#[110,110,110,110]⟩ by rw [hraise];decide);have ht:t=⟨#[114,97,105,115,101]⟩:=hraise;subst ht;rw [HE.out];clear nfoot nneed nclause nlast nstyle nalter nfit hraise HE;go_in;go_wp2;go_returns;exact RetQ.mk rfl
 have nraise:(t.toList == [114,97,105,115,101])=false:=xY rfl hraise;by_cases henter:t=zL
 ·have HE:=qH (show zW t=⟨#[110,120,110]⟩ by rw [henter];decide);have ht:t=⟨#[101,110,116,101,114]⟩:=henter;subst ht;rw [HE.out];clear nfoot nneed nclause nlast nstyle nalter nfit nraise henter HE;go_in;go_wp2;go_returns;exact RetQ.mk rfl
 have nenter:(t.toList == [101,110,116,101,114])=false:=xY rfl henter;by_cases hlasts:t=zV
 ·have HE:=qH (show zW t=⟨#[]⟩ by rw [hlasts];decide);have ht:t=⟨#[108,97,115,116,115]⟩:=hlasts;subst ht;rw [HE.out];clear nfoot nneed nclause nlast nstyle nalter nfit nraise nenter hlasts HE;go_in;go_wp2;go_returns;exact RetQ.mk rfl
 have nlasts:(t.toList == [108,97,115,116,115])=false:=xY rfl hlasts;by_cases hlog:t=yE
 ·have HE:=qH (show zW t=⟨#[]⟩ by rw [hlog];decide);have ht:t=⟨#[108,111,103]⟩:=hlog;subst ht;rw [HE.out];clear nfoot nneed nclause nlast nstyle nalter nfit nraise nenter nlasts hlog HE;go_in;go_wp2;go_returns;exact RetQ.mk rfl
 have nlog:(t.toList == [108,111,103])=false:=xY rfl hlog;have HE:=qH (show zW t=⟨#[45]⟩ by unfold zW;simp only [hfoot,hneed,hclause,hlast,hstyle,halter,hfit,hraise,henter,hlasts,hlog,if_false]);rw [HE.out];clear hfoot hneed hclause hlast hstyle halter hfit hraise henter hlasts hlog HE;go_in;go_wp2;go_returns;exact RetQ.mk rfl
theorem gG(c:Int)(w:World):Calls prog 96 #[.int .i64 c] w (Ret (.string (vJ c)) w):=by
 have HW:=fun w=>xJ c 0 10 w;have HO:=qH (fun h=>ja (c:=c) h);have HI:=qH (fun (h:inB c 0 10=true)=>inB_iff.1 h);obtain ⟨b,hb⟩:=zN (inB c 0 10);rw [<-hb] at HW HO HI;replace HW:=qH HW;clear hb;obtain ⟨W,hW⟩:=zN (w.alloc (Obj.cells #[.string ⟨#[111,107]⟩,.string ⟨#[105,110,118,97,108,105,100]⟩,.string ⟨#[114,97,110,103,101]⟩,.string ⟨#[110,111,116,45,102,111,117,110,100]⟩,.string ⟨#[101,120,105,115,116,115]⟩,.string ⟨#[102,117,108,108]⟩,.string ⟨#[115,116,97,116,101]⟩,.string ⟨#[115,121,110,116,97,120]⟩,.string ⟨#[102,111,114,109,97,116]⟩,.string ⟨#[99,108,97,115,104]⟩,.string ⟨#[116,105,103,104,116]⟩] 9));obtain ⟨g,hg⟩:=zN w.heap.size;have HB:Hid (Blk W g 9 #[.string ⟨#[111,107]⟩,.string ⟨#[105,110,118,97,108,105,100]⟩,.string ⟨#[114,97,110,103,101]⟩,.string ⟨#[110,111,116,45,102,111,117,110,100]⟩,.string ⟨#[101,120,105,115,116,115]⟩,.string ⟨#[102,117,108,108]⟩,.string ⟨#[115,116,97,116,101]⟩,.string ⟨#[115,121,110,116,97,120]⟩,.string ⟨#[102,111,114,109,97,116]⟩,.string ⟨#[99,108,97,115,104]⟩,.string ⟨#[116,105,103,104,116]⟩]):=qH (by rw [hW,hg];exact Blk.new _ _ _);have hv:Below w.heap.size w W:=by rw [hW];exact zc (Below.refl _ _) _
 have EW:=qH hW;have EG:=qH hg;clear hW hg;go_in;go_upto_region 2 with fail;rw [<-EW.out,<-EG.out];clear EW EG;go_wp2_with fail;refine qR (HW.out _) ?_;cases b
 ·have HE:=qH (HO.out rfl);clear HO HI;go_wp2;go_returns;exact Ret.mk (vs HE.out.symm) hv
 · obtain ⟨h0,h10⟩:=HI.out rfl;obtain ⟨j,rfl⟩:∃ j:Nat,c=(j:Int):=⟨c.toNat,by omega⟩
   have hj0:(0:Int)<=(j:Int):=by omega
   have hj1:(j:Int) < 11:=by omega
   have n0:W.cell? ⟨g,j,none⟩=some (.string (vJ (j:Int))):=by
    rw [HB.out.cell j];have hj:j=0\/j=1\/j=2\/j=3\/j=4\/j=5\/j=6\/j=7\/j=8\/j=9\/j=10:=by omega
    rcases hj with rfl | rfl | rfl | rfl | rfl | rfl | rfl | rfl | rfl | rfl | rfl <;> rfl
   obtain ⟨t,ht⟩:=zN (vJ (j:Int));rw [<-ht] at n0;have HE:=qH ht;clear HO HI ht;go_wp2;go_returns;exact Ret.mk (vs HE.out) hv
theorem za7(A:Option Addr)(l:List Int)(n k:Nat)(hn:Hid (l.length=n))(hm:(n:Int)<=1000000)(hb:Hid (∀ v ∈ l,-1000000000<=v/\v<=1000000000))(w:World)(hA:Arr w A (zd zp l)):Calls prog 166 #[.slice A n k] w (Ret (.int .i64 l.sum) w):=by
 have bds:∀ (l:List Int),(∀ v ∈ l,-1000000000<=v/\v<=1000000000)->-1000000000 * (l.length:Int)<=l.sum/\l.sum<=1000000000 * (l.length:Int):=by
  intro l
  induction l with
  | nil=>intro _;simp
  | cons a r ih=>
    intro h;have h1:=ih (fun v hv=>h v (by simp [hv]));have h2:=h a (by simp);rw [List.sum_cons,List.length_cons];omega
 have HB:=qH bds;clear bds;go_in;go_wp2_with fail;have hR:=qH (show (0:Int)=(l.take 0).sum from rfl)
 go_loopw [3,4] (fun v i wr=>∃ (j:Nat) (s:Int),j<=n/\i=.int .i64 j/\v=.int .i64 s/\Hid (s=(l.take j).sum)/\Below w.heap.size w wr) (fun _ i _=>n - (intOf i).toNat)
 case atStart=>exact ⟨0,0,by omega,rfl,rfl,hR,Below.refl _ _⟩
 case round=>
  clear hR;obtain ⟨j,s,hj,rfl,rfl,hR,hv⟩:=hrel;by_cases hlt:j < n
  · obtain ⟨y,hy⟩:=zx (xs:=l) (k:=j) (by rw [hn.out];exact hlt);obtain ⟨bd,rfl,_,d0⟩:=yn (hA.below hv) hy;have HN:=qH (show s + y=(l.take (j + 1)).sum by rw [yJ hy,List.sum_append,hR.out];simp);have hsb:=HB.out (l.take (j + 1)) (fun v hv=>hb.out v (List.mem_of_mem_take hv));rw [<-HN.out,List.length_take,hn.out,Nat.min_eq_left (by omega)] at hsb;obtain ⟨b1,b2⟩:=hsb;have hw:IntKind.i64.wrap (s + y)=s + y:=IntWalk.i64_in _ (by omega);have h0:(0:Int)<=(j:Int):=by omega
    have h1:(j:Int) < (n:Int):=by omega
    clear hy hR b1 b2;go_wp2_with fail;exact ⟨⟨j + 1,s + y,by omega,by go_num,rfl,HN,hv⟩,by simp [intOf];omega⟩
  · have htk:l.take j=l:=List.take_of_length_le (by rw [hn.out];omega);have HF:=qH (show s=l.sum by rw [hR.out,htk]);clear hR htk;have h1:¬ (j:Int) < (n:Int):=by omega
    go_wp2;go_returns;exact Ret.mk (vi HF.out) hv
theorem Last.ones(xs:List Last):∀ u ∈ zd Last.cells xs,u.oneCell'=true:=by
 intro u hu;simp only [zd,List.mem_flatMap] at hu;obtain ⟨x,_,hx⟩:=hu;simp only [Last.cells,List.mem_cons,List.not_mem_nil,or_false] at hx;rcases hx with rfl | rfl | rfl | rfl | rfl | rfl <;> rfl
theorem gU(ad:Addr)(xs:List Last)(n c:Nat)(hn:Hid (xs.length=n))(hm:(n:Int)<=1048576)(w:World)(hA:Arr w (some ad) (zd Last.cells xs)) :
 Calls prog 65 #[.slice (some ad) n c] w (rf 100 6 n (zd Last.cells xs) w):=by
 obtain ⟨i0,hi0,hz0,hz1,hz2⟩:=info_parts (P:=prog) (e:=100) (z:=.agg #[.string ByteArray.empty,.int .i64 0,.int .i64 0,.int .i64 0,.int .i64 0,.int .i64 0]) (size:=6) (bytes:=56) lz;have hlen:(zd Last.cells xs).length=n * 6:=by rw [yK Last.cells_length,hn.out]
 have q22:∀ (w:World) (a:Option Addr) (n c n' c':Nat),(binOp .eql 28 (.slice a n c) (.slice none n' c')).run prog w=.ok (.bool a.isNone) w:=fun w a n c n' c'=>Lib.run_eql_slice_nil w _ _ a n c n' c' underlying28;go_in;go_wp2_with (at_builtin;refine vX _ rfl _ _ 28 100 rfl i0 _ 6 56 underlying28 hi0 hz0 hz1 hz2 rfl (by omega) w.heap.size _ 0 [] rfl (zI w _ _ _ (Nat.le_refl _)) ad n c (zd Last.cells xs) rfl (hA.alloc _) hlen (Last.ones xs) (by unfold maxLen;omega) (by omega) (by simp) ?_;intro A2 c2 w2 hown2 hg2)
 go_returns;simp only [Nat.zero_add,List.nil_append] at hown2 |-;exact ⟨A2,c2,rfl,hown2,zi (zc (Below.refl _ _) _) hg2 (zn (zI w w.heap.size 100 6 (Nat.le_refl _)))⟩
def tP(a b:ByteArray):Int:=if yR a b=true then -1 else if yR b a=true then 1 else 0
theorem zce{a b:ByteArray}:tP a b < 0 ↔ yR a b=true:=by unfold tP;repeat' split;all_goals simp_all
theorem cmpS_eq{a b:ByteArray}:tP a b=0 ↔ a=b:=by
 unfold tP;constructor
 · intro h;rcases pQ a b with h1 | h1 | h1
   ·rw [if_pos h1] at h;omega
   ·exact h1
   ·rw [if_neg (by rw [tB h1];simp),if_pos h1] at h;omega
 ·intro h;subst h;rw [if_neg (by rw [tc];simp),if_neg (by rw [tc];simp)]
theorem nx(a:ByteArray)(w:World):Calls prog 255 #[.string a] w (RetQ (.bool false) w):=by
 go_in
 go_wp2
 go_returns;exact RetQ.mk (vb (by simp))
theorem eO(a b:ByteArray)(w:World):Calls prog 196 #[.string a,.string b] w (RetQ (.int .i64 (tP a b)) w):=by
 have HC:Hid ((yR a b=true->tP a b = -1)/\(yR b a=true->tP a b=1)/\(a=b->tP a b=0)):=qH ⟨fun h=>if_pos h,fun h=>by unfold tP;rw [if_neg (by rw [tB h];simp),if_pos h],fun h=>cmpS_eq.2 h⟩;have h0:(a.toList == b.toList)=decide (a=b):=yD a b;have h1:Op.bytesLess a.toList b.toList=yR a b:=rfl;have h2:Op.bytesLess b.toList a.toList=yR b a:=rfl;obtain ⟨r,hr⟩:=zN (tP a b);rw [<-hr] at HC |-;clear hr;rcases pQ a b with h | h | h
 · obtain rfl:=HC.out.1 h;rw [h] at h1;rw [tB h] at h2;rw [decide_eq_false (nA h)] at h0;clear h HC;go_in;go_wp2_with (go_at_call 255;refine (nx _ _).mono ?_;rintro e w' ⟨rfl,rfl⟩)
   go_returns;exact RetQ.mk rfl
 · obtain rfl:=HC.out.2.2 h;subst h;rw [tc] at h1;rw [decide_eq_true rfl] at h0;clear HC h2;go_in;go_wp2_with (go_at_call 255;refine (nx _ _).mono ?_;rintro e w' ⟨rfl,rfl⟩)
   go_returns;exact RetQ.mk rfl
 · obtain rfl:=HC.out.2.1 h;rw [h] at h2;rw [tB h] at h1;rw [decide_eq_false (fun e=>nA h e.symm)] at h0;clear h HC;go_in;go_wp2_with (go_at_call 255;refine (nx _ _).mono ?_;rintro e w' ⟨rfl,rfl⟩)
   go_returns;exact RetQ.mk rfl
theorem lP(x:Last)(nm:ByteArray)(w:World):Calls prog 195 #[.agg #[.string x.name,.int .i64 x.length,.int .i64 x.b,.int .i64 x.i,.int .i64 x.h,.int .i64 x.p],.string nm] w (Ret (.int .i64 (tP x.name nm)) w):=by
 go_in;go_wp2_with (go_at_call 196;refine (eO _ _ _).mono ?_;rintro e w' ⟨rfl,rfl⟩)
 go_returns;exact Ret.mk rfl (by go_grown)
theorem aF(A:Option Addr)(xs:List Last)(n c:Nat)(nm:ByteArray)(hn:Hid (xs.length=n))(hm:(n:Int)<=1048576)(hp:Hid (xs.Pairwise vm))(w:World)(hA:Arr w A (zd Last.cells xs)) :
 Calls prog 194 #[.slice A n c,.string nm,.func (.func 195) #[] #[]] w (RetT #[.int .i64 (lbN nm xs),.bool (xN nm xs)] w):=by
 obtain ⟨b,hb⟩:=zN (lbN nm xs);have hbn:b<=n:=by rw [hb,<-hn.out];exact ve nm xs
 have HB:=qH hb;rw [<-hb];clear hb;go_in;go_wp2_with fail
 go_loopw [9,10] (fun i j wr=>∃ p q:Nat,p<=b/\b<=q/\q<=n/\i=.int .i64 p/\j=.int .i64 q/\Below w.heap.size w wr) (fun i j _=>((intOf j) - (intOf i)).toNat)
 case atStart=>exact ⟨0,n,by omega,by omega,by omega,rfl,rfl,Below.refl _ _⟩
 case round=>
  obtain ⟨p,q,hpb,hbq,hqn,rfl,rfl,hv⟩:=hrel;by_cases hlt:p < q
  · obtain ⟨h,hh⟩:∃ h:Nat,((p:Int) + (q:Int)) / 2=(h:Int):=⟨(p + q) / 2,by omega⟩
    have hph:p<=h:=by omega
    have hhq:h < q:=by omega
    obtain ⟨x,hx⟩:=zx (xs:=xs) (k:=h) (by rw [hn.out];omega);obtain ⟨ad,rfl,hab,c0,c1,c2,c3,c4,c5⟩:=Last.at_ (hA.below hv) hx;have HX:=qH (rb nm xs hp.out h x hx);clear hx;go_wp2_with fail;refine qS (lP x nm _) fun w1 hb1=>?_;have hcl:=qH (@zce x.name nm);obtain ⟨r,hr⟩:=zN (tP x.name nm);rw [<-hr] at hcl |-;clear hr;by_cases hr0:r < 0
    · have h1:=(HX.out.1 (hcl.out.1 hr0))
      rw [<-HB.out] at h1;go_wp2_with fail;exact ⟨⟨h + 1,q,by omega,by omega,by omega,by go_num,rfl,za hv hb1⟩,by simp [intOf];omega⟩
    · have h1:b<=h:=by
       have:¬ h < lbN nm xs:=fun hc=>hr0 (hcl.out.2 (HX.out.2 hc));have:=HB.out;omega
      go_wp2_with fail;exact ⟨⟨p,h,by omega,by omega,by omega,rfl,by go_num,za hv hb1⟩,by simp [intOf];omega⟩
  · obtain rfl:p=b:=by omega
    obtain rfl:q=p:=by omega
    by_cases hpn:q < n
    · obtain ⟨x,hx⟩:=zx (xs:=xs) (k:=q) (by rw [hn.out];omega);obtain ⟨ad,rfl,hab,c0,c1,c2,c3,c4,c5⟩:=Last.at_ (hA.below hv) hx;have HH:=qH (show xN nm xs=decide (x.name=nm) by unfold xN;rw [<-HB.out,hx];rfl);clear hx;go_wp2_with fail;refine qS (lP x nm _) fun w1 hb1=>?_;have hce:=qH (@cmpS_eq x.name nm);obtain ⟨r,hr⟩:=zN (tP x.name nm);rw [<-hr] at hce |-;clear hr;go_wp2;go_returns;refine RetT.mk ?_ (za hv hb1);rw [HH.out];have h2:(r == 0)=decide (x.name=nm):=by rw [Bool.eq_iff_iff,beq_iff_eq,decide_eq_true_eq];exact hce.out
      rw [<-h2];rfl
    ·have HH:=qH (show xN nm xs=false by unfold xN;rw [<-HB.out,List.getElem?_eq_none (by rw [hn.out];omega)];rfl);go_wp2;go_returns;exact RetT.mk (by rw [HH.out];rfl) hv
theorem oW(A:Option Addr)(xs:List Last)(n c:Nat)(nm:ByteArray)(hn:Hid (xs.length=n))(hm:(n:Int)<=1048576)(hp:Hid (xs.Pairwise vm))(w:World)(hA:Arr w A (zd Last.cells xs)) :
 Calls prog 127 #[.slice A n c,.string nm] w (RetT #[.int .i64 (lbN nm xs),.bool (xN nm xs)] w):=by
 go_in;go_wp2_with fail;refine qS (aF A xs n c nm hn hm hp _ hA) fun w1 hb1=>?_;go_wp2;go_returns;exact RetT.mk rfl hb1
theorem jH{xs:List Last}{nm:ByteArray}(h:yx xs=false):yw xs nm=(0,1):=by unfold yw;rw [if_neg (by simp [h])]
theorem jJ{xs:List Last}{nm:ByteArray}(h:yx xs=true)(h2:zo nm=false):yw xs nm=(0,2):=by unfold yw;rw [if_pos h,if_neg (by simp [h2])]
theorem jI{xs:List Last}{nm:ByteArray}(h:yx xs=true)(h2:zo nm=true)(h3:xN nm xs=false):yw xs nm=(0,3):=by unfold yw;rw [if_pos h,if_pos h2,if_neg (by simp [h3])]
theorem jG{xs:List Last}{nm:ByteArray}(h:yx xs=true)(h2:zo nm=true)(h3:xN nm xs=true):yw xs nm=((lbN nm xs:Int),0):=by unfold yw;rw [if_pos h,if_pos h2,if_pos h3]
theorem zaM{nm:ByteArray}{xs:List Last}{k:Nat}{x:Last}(h:xs[k]?=some x):vV nm (xs.drop k) k=if x.name=nm then (k:Int) else vV nm (xs.drop (k + 1)) (k + 1):=by rw [yM h];rfl
theorem pN(A:Option Addr)(xs:List Last)(n c:Nat)(nm:ByteArray)(hn:Hid (xs.length=n))(hm:(n:Int)<=1048576)(w:World)(hA:Arr w A (zd Last.cells xs)) :
 Calls prog 225 #[.slice A n c,.string nm] w (Ret (.int .i64 (vV nm xs 0)) w):=by
 go_in;go_wp2_with fail;have hR:=qH (show vV nm xs 0=vV nm (xs.drop 0) 0 from rfl)
 go_loopw [5] (fun i wr=>∃ k:Nat,k<=n/\i=.int .i64 k/\Hid (vV nm xs 0=vV nm (xs.drop k) k)/\Below w.heap.size w wr) (fun i _=>n - (intOf i).toNat)
 case atStart=>exact ⟨0,by omega,rfl,hR,Below.refl _ _⟩
 case round=>
  clear hR;obtain ⟨k,hk,rfl,hR,hbel⟩:=hrel;by_cases hlt:k < n
  · obtain ⟨x,hx⟩:=zx (xs:=xs) (k:=k) (by rw [hn.out];exact hlt);obtain ⟨ad,rfl,hab,c0,c1,c2,c3,c4,c5⟩:=Last.at_ (hA.below hbel) hx;have hR2:=qH (hR.out.trans (zaM hx));clear hR hx c1 c2 c3 c4 c5;have hbb:(x.name.toList == nm.toList)=decide (x.name=nm):=yD _ _;by_cases hq:x.name=nm
    ·have hR3:=qH (hR2.out.trans (if_pos hq));rw [decide_eq_true hq] at hbb;clear hR2 hq;go_wp2;go_returns;exact Ret.mk (vi hR3.out.symm) hbel
    ·have hR3:=qH (hR2.out.trans (if_neg hq));rw [decide_eq_false hq] at hbb;clear hR2 hq;go_wp2_with fail;exact ⟨⟨k + 1,by omega,by go_num,hR3,hbel⟩,by simp [intOf];omega⟩
  ·have hR2:=qH (hR.out.trans (by rw [List.drop_eq_nil_of_le (by rw [hn.out];omega)];rfl:_=(-1:Int)));clear hR;go_wp2;go_returns;exact Ret.mk (vi hR2.out.symm) hbel
theorem gu(A:Option Addr)(xs:List Last)(n c:Nat)(nm:ByteArray)(hn:Hid (xs.length=n))(hm:(n:Int)<=1048576)(hs:Hid (∀ x ∈ xs,x.name.size<=9223372036854775807))(hz:nm.size<=9223372036854775807)(w:World)(hA:Arr w A (zd Last.cells xs)) :
 Calls prog 132 #[.slice A n c,.string nm] w (RetT #[.int .i64 (yw xs nm).1,.int .i64 (yw xs nm).2] w):=by
 have HA:=qH hA;go_in;go_wp2_with fail;refine qS (ti A xs n c hn hm hs _ HA.out) fun W hv=>?_;cases ho:yx xs
 ·have HP:=qH (jH (nm:=nm) ho);clear ho;go_wp2;go_returns;exact RetT.mk (by rw [HP.out];rfl) hv
 have HO:=qH ho;clear ho;go_wp2_with fail;refine (xC nm hz _).mono ?_;rintro e w' ⟨rfl,rfl⟩;cases hq:zo nm
 ·have HP:=qH (jJ HO.out hq);clear hq;go_wp2;go_returns;exact RetT.mk (by rw [HP.out];rfl) hv
 have HQ:=qH hq;clear hq;go_wp2_with fail;refine qS (oW A xs n c nm hn hm (qH (tU HO.out)) _ (HA.out.below hv)) fun W2 hb=>?_;replace hv:=za hv hb;cases hh:xN nm xs
 ·have HP:=qH (jI HO.out HQ.out hh);clear hh;go_wp2;go_returns;exact RetT.mk (by rw [HP.out];rfl) hv
 have HP:=qH (jG HO.out HQ.out hh);clear hh;have hl0:(0:Int)<=(lbN nm xs:Int):=by omega
 have hl1:¬ (lbN nm xs:Int) < 0:=by omega
 go_wp2;go_returns;exact RetT.mk (by rw [HP.out];rfl) hv
theorem pA(A:Option Addr)(xs:List Last)(n c:Nat)(nm:ByteArray)(hn:Hid (xs.length=n))(hm:(n:Int)<=1048576)(hs:Hid (∀ x ∈ xs,x.name.size<=9223372036854775807))(hz:nm.size<=9223372036854775807)(w:World)(hA:Arr w A (zd Last.cells xs)) :
 Calls prog 158 #[.slice A n c,.string nm] w (RetT #[.int .i64 (yw xs nm).1,.int .i64 (yw xs nm).2] w):=by
 have HA:=qH hA;go_in;go_wp2_with fail;refine qS (qh A xs n c hn hm hs _ HA.out) fun W hv=>?_;cases ho:yx xs
 ·have HP:=qH (jH (nm:=nm) ho);clear ho;go_wp2;go_returns;exact RetT.mk (by rw [HP.out];rfl) hv
 have HO:=qH ho;clear ho;go_wp2_with fail;refine (xn nm hz _).mono ?_;rintro e w' ⟨rfl,rfl⟩;cases hq:zo nm
 ·have HP:=qH (jJ HO.out hq);clear hq;go_wp2;go_returns;exact RetT.mk (by rw [HP.out];rfl) hv
 have HQ:=qH hq;clear hq;go_wp2_with fail;refine qS (pN A xs n c nm hn hm _ (HA.out.below hv)) fun W2 hb=>?_;replace hv:=za hv hb;rw [pL HO.out];cases hh:xN nm xs
 ·have HP:=qH (jI HO.out HQ.out hh);clear hh;go_wp2;go_returns;exact RetT.mk (by rw [HP.out];rfl) hv
 have HP:=qH (jG HO.out HQ.out hh);clear hh;have hl0:(0:Int)<=(lbN nm xs:Int):=by omega
 have hl1:¬ (lbN nm xs:Int) < 0:=by omega
 go_wp2;go_returns;exact RetT.mk (by rw [HP.out];rfl) hv
theorem uN{P:Program}(w:World)(dT sT ty elem:TypeId)(s g o dLen dCap:Nat)(a:Addr)(sLen sCap:Nat)(cur:Array Value)(t:TypeId)(cs:List Value)(hu:P.underlying dT=some (.slice elem))(hs:(P.info? elem).map (·.size)=some s)(hg:w.heap[g]?=some (.cells cur t (0,0)))(hn:cs.length=Nat.min sLen dLen * s)(hsrc:∀ j v,cs[j]?=some v->w.cell? (a.add j)=some v)(hfit:o + cs.length<=cur.size)(h1:∀ v ∈ cs,v.oneCell'=true) :
 (Builtin.copy_ #[dT,sT] ty #[.slice (some ⟨g,o,none⟩) dLen dCap,.slice (some a) sLen sCap]).run P w =
   .ok (goInt (Nat.min sLen dLen)) (w.setRow g (cur.toList.take o ++ cs ++ cur.toList.drop (o + cs.length)).toArray):=by
 have hl:=run_loadCells_list (P:=P) w a cs hsrc;have hst:=run_storeCells_at P g o t cs 0 cur w hg (by simpa using hfit) h1;rw [hn] at hl;cases hq:P.info? elem with
 | none=>simp [hq] at hs
 | some i=>
   have hi:i.size=s:=by simpa [hq] using hs
   simp [Builtin.copy_,run_underlying hu,Builtin.lenOf,Builtin.firstCells,sizeOf,typeInfo,hq,hi,hl,hst]
theorem ql{P:Program}(w:World)(t tn ty e:TypeId)(i:TypeInfo)(z:Value)(k kn:IntKind)(ht:P.underlying t=some (.slice e))(htn:P.underlying tn=some (.int kn))(hi:P.info? e=some i)(hz:i.zero=some z)(b:Addr)(sLen sCap:Nat)(olds:List Value)(hlo:olds.length=sLen * i.size)(holds:∀ j v,olds[j]?=some v->w.cell? (b.add j)=some v)(n:Nat)(h0:0 < n)(hs:0 < i.size)(hg:sCap < sLen + n)(h63:((sLen + n:Nat):Int)<=9223372036854775807)(h48:n * i.bytes<=281474976710656)(hfit:Builtin.nextslicecap (sLen + n) sCap * i.bytes<=281474976710656) :
 (Builtin.append_ #[t,tn] ty #[.slice (some b) sLen sCap,.int k n]).run P w =
   .ok (.slice (some ⟨w.heap.size,0,none⟩) (sLen + n) (grownCap w (sLen + n) sCap e))
    (w.drew.alloc (.cells (olds.toArray ++ Builtin.zeroCells z.cells n ++ Builtin.zeroCells z.cells (grownCap w (sLen + n) sCap e - (sLen + n))) e)):=by
 have hn:¬ (sLen + n<=sCap):=by omega
 have hn0:n≠0:=by omega
 have hw:IntKind.i64.wrap (n:Int)=n:=by rw [IntKind.wrap_i64];omega
 have h63':¬ (9223372036854775807 < ((sLen:Int) + (n:Int))):=by omega
 have h48':¬ (281474976710656 < Builtin.nextslicecap (sLen + n) sCap * i.bytes):=by omega
 have h48i:¬ (281474976710656 < (n:Int) * (i.bytes:Int)):=by
  rw [<-Int.natCast_mul];omega
 have hneg:¬ ((n:Int) < 0):=by omega
 have hns:¬ (n * i.size=0):=Nat.mul_ne_zero hn0 (by omega);have hfo:=run_firstCells_some (P:=P) w.drew i.size sLen b sLen sCap olds hlo (by simpa using holds);simp [Builtin.append_,run_underlying ht,run_underlying htn,sizeOf,typeInfo,zeroValue,hi,hz,asInt,asIntOf,hw,hn,hneg,hns,h63',h48',h48i,Question.forced,hfo,newRow,grownCap]
theorem oZ{P:Program}(w:World){o:Oper}{a:Act}{K:Act->World->Prop}{Q:Exit->Act->World->Prop}(d s:Operand)(t t':TypeId)(ho:o.op=.call { callee:=.builtin .copy,args:=#[d,s],argTypes:=#[t,t'] })(v u:Value)(hd:a.eval d=v)(hs:a.eval s=u){v':Value}{w':World}(hr:(Builtin.copy_ #[t,t'] o.type #[v,u]).run P w=.ok v' w')(h:K (a.put o.dst v') w'):o.wp P a w K Q:=by
 unfold Oper.wp execOp;simp only [ho,resolve,invoke,builtin,Sem.run_bind,Sem.run_pure,Result.andThen_ok,List.map_toArray,List.map_cons,List.map_nil,hd,hs,hr];exact h
theorem rX{P:Program}(w:World){ops:Array Oper}{rest:List Oper}{o:Oper}{a:Act}{Q:Exit->Act->World->Prop}(hgd:o.guard=none)(d s:Operand)(t t':TypeId)(ho:o.op=.call { callee:=.builtin .copy,args:=#[d,s],argTypes:=#[t,t'] })(v u:Value)(hd:a.eval d=v)(hs:a.eval s=u){v':Value}{w':World}(hr:(Builtin.copy_ #[t,t'] o.type #[v,u]).run P w=.ok v' w')(h:wpList P ops Q rest (a.put o.dst v') w'):wpList P ops Q (o :: rest) a w:=
 wpList_plain hgd fun _ hK=>oZ w d s t t' ho v u hd hs hr (hK _ _ h)
theorem qp{P:Program}{ops:Array Oper}{o:Oper}{a:Act}{w:World}{K:Act->World->Prop}{Q:Exit->Act->World->Prop}{E:Prop}(hg:o.guard=none)(d x:Operand)(dT sT:TypeId)(hop:o.op=Op.call { callee:=Callee.builtin Builtin.copy,args:=#[d,x],argTypes:=#[dT,sT] })(v u:Value)(hd:a.eval d=v)(hx:a.eval x=u){v':Value}{w':World}(hr:(Builtin.copy_ #[dT,sT] o.type #[v,u]).run P w=.ok v' w')(hK:K (a.put o.dst v') w') :
 if Region.wanted o (yielded ops a.tmps)=true then Oper.wp P o a w K Q else E:=by
 have hw:Region.wanted o (yielded ops a.tmps)=true:=by simp [Region.wanted,hg]
 rw [if_pos hw];exact oZ w d x dT sT hop v u hd hx hr hK
theorem zb9{w:World}{g:Nat}{t:TypeId}{cs:Array Value}(h:Blk w g t cs):Arr w (some ⟨g,0,none⟩) cs.toList:=fun _=>
 ⟨_,rfl,h.lt,fun j u hu=>by
   rw [Addr.add_lit,Nat.zero_add];rw [h.cell j];simpa using hu⟩
end Go.Proofs.YtpiehlfffjhoaaaGreatDoor
