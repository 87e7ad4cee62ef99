/- Lemmas for the law on the console: the parts CoL,DeskW,CoM. -/
import Derived.Test.YtpiehlfffjhoaaaGreatDoorQ0
import Derived.Test.YtpiehlfffjhoaaaGreatDoorQ27
import Derived.Test.YtpiehlfffjhoaaaGreatDoorQ28
import Derived.Test.YtpiehlfffjhoaaaGreatDoorQ29
import Derived.Test.YtpiehlfffjhoaaaGreatDoorQ30
import Derived.Test.YtpiehlfffjhoaaaGreatDoorQ1
import Derived.Test.YtpiehlfffjhoaaaGreatDoorQ18
import Derived.Test.YtpiehlfffjhoaaaGreatDoorQ4
namespace Go.Proofs.YtpiehlfffjhoaaaGreatDoor
open Go.RowKit
set_option maxRecDepth 100000
theorem pD (ws:List ByteArray):∀ (l:List UInt8) (k:Nat) (ns:List Int),xI ws l k=some ns→ns.length=l.count 110
 | [],k,ns,h=>by rw [xI] at h;injection h with h;subst h;rfl
 | c :: r,k,ns,h=>by
   rw [xI] at h;by_cases hc:c=110
   · rw [if_pos hc] at h;split at h
     · cases hr:xI ws r (k + 1) with
       | none=>rw [hr] at h;cases h
       | some m=>
         rw [hr] at h;injection h with h;subst h;rw [List.length_cons,pD ws r _ m hr,hc,List.count_cons_self]
     · cases h
   · rw [if_neg hc] at h;rw [pD ws r _ ns h,List.count_cons_of_ne hc]
theorem bI {ws:List ByteArray} {fm:ByteArray} (h:wu ws fm=true):fm.size + 1≤ws.length∧(fm=⟨#[43]⟩∨ws.length≤fm.size + 1):=by
 unfold wu at h;simp only [Bool.and_eq_true,Bool.or_eq_true,decide_eq_true_eq] at h;exact h
theorem dg {d:Dk} {ws:List ByteArray} {ns:List Int} (h:zf ws 0=ya):yj d ws ns=vd d (yx ws):=by
 unfold yj;rw [h,if_pos rfl]
theorem fI:ye ya=⟨#[119]⟩:=by
 unfold ye;rw [if_pos rfl]
theorem dh {d:Dk} {ws:List ByteArray} {ns:List Int} (h:zf ws 0=yb):yj d ws ns=xt d (yx ws):=by
 unfold yj;rw [h,if_neg (by decide:¬ yb=ya),if_pos rfl]
theorem fJ:ye yb=⟨#[43]⟩:=by
 unfold ye;rw [if_neg (by decide:¬ yb=ya),if_neg (by decide:¬ yb=yc),if_pos rfl]
theorem fC {d:Dk} {ws:List ByteArray} {ns:List Int} (h:zf ws 0=zQ):yj d ws ns=vK d:=by
 unfold yj;rw [h,if_neg (by decide:¬ zQ=ya),if_neg (by decide:¬ zQ=yb),if_pos rfl]
theorem jN:ye zQ=⟨#[]⟩:=by
 unfold ye;rw [if_neg (by decide:¬ zQ=ya),if_neg (by decide:¬ zQ=yc),if_neg (by decide:¬ zQ=yb),if_neg (by decide:¬ zQ=zM),if_neg (by decide:¬ zQ=zw),if_neg (by decide:¬ zQ=yu),if_neg (by decide:¬ zQ=zI),if_neg (by decide:¬ zQ=zL),if_neg (by decide:¬ zQ=zJ)]
theorem ac {d:Dk} {ws:List ByteArray} {ns:List Int} (h:zf ws 0=yu):yj d ws ns=uC d (yR ns 0) (yR ns 1) (yR ns 2):=by
 unfold yj;rw [h,if_neg (by decide:¬ yu=ya),if_neg (by decide:¬ yu=yb),if_neg (by decide:¬ yu=zQ),if_pos rfl]
theorem dy:ye yu=⟨#[110,110,110]⟩:=by
 unfold ye;rw [if_neg (by decide:¬ yu=ya),if_neg (by decide:¬ yu=yc),if_neg (by decide:¬ yu=yb),if_neg (by decide:¬ yu=zM),if_neg (by decide:¬ yu=zw),if_pos rfl]
theorem di {d:Dk} {ws:List ByteArray} {ns:List Int} (h:zf ws 0=yc):yj d ws ns=vP d (zf ws 1):=by
 unfold yj;rw [h,if_neg (by decide:¬ yc=ya),if_neg (by decide:¬ yc=yb),if_neg (by decide:¬ yc=zQ),if_neg (by decide:¬ yc=yu),if_pos rfl]
theorem fK:ye yc=⟨#[119]⟩:=by
 unfold ye;rw [if_neg (by decide:¬ yc=ya),if_pos rfl]
theorem fA {d:Dk} {ws:List ByteArray} {ns:List Int} (h:zf ws 0=zI):yj d ws ns=xC d (zf ws 1) (zf ws 2 ++ ⟨#[32]⟩ ++ zf ws 3):=by
 unfold yj;rw [h,if_neg (by decide:¬ zI=ya),if_neg (by decide:¬ zI=yb),if_neg (by decide:¬ zI=zQ),if_neg (by decide:¬ zI=yu),if_neg (by decide:¬ zI=yc),if_pos rfl]
theorem jL:ye zI=⟨#[119,119,119]⟩:=by
 unfold ye;rw [if_neg (by decide:¬ zI=ya),if_neg (by decide:¬ zI=yc),if_neg (by decide:¬ zI=yb),if_neg (by decide:¬ zI=zM),if_neg (by decide:¬ zI=zw),if_neg (by decide:¬ zI=yu),if_pos rfl]
theorem fE {d:Dk} {ws:List ByteArray} {ns:List Int} (h:zf ws 0=zM):yj d ws ns=wC d (yx ws):=by
 unfold yj;rw [h,if_neg (by decide:¬ zM=ya),if_neg (by decide:¬ zM=yb),if_neg (by decide:¬ zM=zQ),if_neg (by decide:¬ zM=yu),if_neg (by decide:¬ zM=yc),if_neg (by decide:¬ zM=zI),if_pos rfl]
theorem jP:ye zM=⟨#[43]⟩:=by
 unfold ye;rw [if_neg (by decide:¬ zM=ya),if_neg (by decide:¬ zM=yc),if_neg (by decide:¬ zM=yb),if_pos rfl]
theorem jH {d:Dk} {ws:List ByteArray} {ns:List Int} (h:zf ws 0=zw):yj d ws ns=xV d (yx ws):=by
 unfold yj;rw [h,if_neg (by decide:¬ zw=ya),if_neg (by decide:¬ zw=yb),if_neg (by decide:¬ zw=zQ),if_neg (by decide:¬ zw=yu),if_neg (by decide:¬ zw=yc),if_neg (by decide:¬ zw=zI),if_neg (by decide:¬ zw=zM),if_pos rfl]
theorem kE:ye zw=⟨#[43]⟩:=by
 unfold ye;rw [if_neg (by decide:¬ zw=ya),if_neg (by decide:¬ zw=yc),if_neg (by decide:¬ zw=yb),if_neg (by decide:¬ zw=zM),if_pos rfl]
theorem fD {d:Dk} {ws:List ByteArray} {ns:List Int} (h:zf ws 0=zL):yj d ws ns=vo d (yR ns 0) (yR ns 1) (yR ns 2) (yR ns 3):=by
 unfold yj;rw [h,if_neg (by decide:¬ zL=ya),if_neg (by decide:¬ zL=yb),if_neg (by decide:¬ zL=zQ),if_neg (by decide:¬ zL=yu),if_neg (by decide:¬ zL=yc),if_neg (by decide:¬ zL=zI),if_neg (by decide:¬ zL=zM),if_neg (by decide:¬ zL=zw),if_pos rfl]
theorem jO:ye zL=⟨#[110,110,110,110]⟩:=by
 unfold ye;rw [if_neg (by decide:¬ zL=ya),if_neg (by decide:¬ zL=yc),if_neg (by decide:¬ zL=yb),if_neg (by decide:¬ zL=zM),if_neg (by decide:¬ zL=zw),if_neg (by decide:¬ zL=yu),if_neg (by decide:¬ zL=zI),if_pos rfl]
theorem fB {d:Dk} {ws:List ByteArray} {ns:List Int} (h:zf ws 0=zJ):yj d ws ns=vj d (yR ns 0) (zf ws 2) (yR ns 1):=by
 unfold yj;rw [h,if_neg (by decide:¬ zJ=ya),if_neg (by decide:¬ zJ=yb),if_neg (by decide:¬ zJ=zQ),if_neg (by decide:¬ zJ=yu),if_neg (by decide:¬ zJ=yc),if_neg (by decide:¬ zJ=zI),if_neg (by decide:¬ zJ=zM),if_neg (by decide:¬ zJ=zw),if_neg (by decide:¬ zJ=zL),if_pos rfl]
theorem jM:ye zJ=⟨#[110,119,110]⟩:=by
 unfold ye;rw [if_neg (by decide:¬ zJ=ya),if_neg (by decide:¬ zJ=yc),if_neg (by decide:¬ zJ=yb),if_neg (by decide:¬ zJ=zM),if_neg (by decide:¬ zJ=zw),if_neg (by decide:¬ zJ=yu),if_neg (by decide:¬ zJ=zI),if_neg (by decide:¬ zJ=zL),if_pos rfl]
theorem ae {d:Dk} {ws:List ByteArray} {ns:List Int} (h:zf ws 0=yE):yj d ws ns=ss d:=by
 unfold yj;rw [h,if_neg (by decide:¬ yE=ya),if_neg (by decide:¬ yE=yb),if_neg (by decide:¬ yE=zQ),if_neg (by decide:¬ yE=yu),if_neg (by decide:¬ yE=yc),if_neg (by decide:¬ yE=zI),if_neg (by decide:¬ yE=zM),if_neg (by decide:¬ yE=zw),if_neg (by decide:¬ yE=zL),if_neg (by decide:¬ yE=zJ)]
theorem dA:ye yE=⟨#[]⟩:=by
 unfold ye;rw [if_neg (by decide:¬ yE=ya),if_neg (by decide:¬ yE=yc),if_neg (by decide:¬ yE=yb),if_neg (by decide:¬ yE=zM),if_neg (by decide:¬ yE=zw),if_neg (by decide:¬ yE=yu),if_neg (by decide:¬ yE=zI),if_neg (by decide:¬ yE=zL),if_neg (by decide:¬ yE=zJ)]
theorem fX {t:ByteArray} (h:xa t wf=true):t=zI∨t=zw∨t=zJ∨t=yu∨t=ya∨t=yb∨t=zQ∨t=yE∨t=yc∨t=zL∨t=zM:=by
 have hx:=memB_iff.1 h;unfold wf at hx;simp only [List.mem_cons,List.not_mem_nil,or_false] at hx;exact hx
theorem dr (w0 w:World) (gd ga:Nat) (f:Foot) (xs:List Last) (s:Style) (lg:ByteArray) (n c:Nat) (A An:Option Addr) (ws:List ByteArray) (ns:List Int) (nw kn cn:Nat) (h:XIn w0 w gd ga f xs s lg n c A An ws ns nw kn) (hi:isD ws=true) (hns:xI ws (ye (zf ws 0)).data.toList 1=some ns) (hAn:0 < kn→∃ gn,An=some ⟨gn,0,none⟩) :
 Calls Tryz.prog 35 #[.pointer (some ⟨gd,0,none⟩),.slice (some ⟨ga,0,none⟩) nw nw,.slice An kn cn] w (OutX w0 gd (yj ⟨f,xs,s,lg⟩ ws ns)):=by
 have hkn:=pD _ _ _ _ hns;rw [h.hkn.out] at hkn;unfold isD at hi;rw [Bool.and_eq_true] at hi;obtain ⟨hm,har⟩:=hi;obtain ⟨ha1,ha2⟩:=bI har;rw [h.hnw.out] at ha1 ha2;clear har hns;rcases fX hm with hk | hk | hk | hk | hk | hk | hk | hk | hk | hk | hk
 · rw [hk,jL] at ha1 ha2 hkn;rw [fA hk];have z1:(⟨#[119,119,119]⟩:ByteArray).size=3:=rfl;rw [z1] at ha1 ha2;exact dj w0 w gd ga f xs s lg n c A An ws ns nw kn cn h hk (by omega) (by omega)
 · rw [hk,kE] at ha1 ha2 hkn;rw [jH hk];have z1:(⟨#[43]⟩:ByteArray).size=1:=rfl;rw [z1] at ha1 ha2;exact fF w0 w gd ga f xs s lg n c A An ws ns nw kn cn h hk (by omega)
 · rw [hk,jM] at ha1 ha2 hkn;rw [fB hk];have z1:(⟨#[110,119,110]⟩:ByteArray).size=3:=rfl;rw [z1] at ha1 ha2;have z2:kn=2:=hkn.trans (by decide);obtain ⟨gn,hA⟩:=hAn (by omega);exact dl w0 w gd ga f xs s lg n c A An ws ns nw kn cn h hk (by omega) gn hA z2 (by omega)
 · rw [hk,dy] at ha1 ha2 hkn;rw [ac hk];have z1:(⟨#[110,110,110]⟩:ByteArray).size=3:=rfl;rw [z1] at ha1 ha2;have z2:kn=3:=hkn.trans (by decide);obtain ⟨gn,hA⟩:=hAn (by omega);exact za4 w0 w gd ga f xs s lg n c A An ws ns nw kn cn h hk (by omega) gn hA z2
 · rw [hk,fI] at ha1 ha2 hkn;rw [dg hk];have z1:(⟨#[119]⟩:ByteArray).size=1:=rfl;rw [z1] at ha1 ha2;exact ah w0 w gd ga f xs s lg n c A An ws ns nw kn cn h hk (by omega)
 · rw [hk,fJ] at ha1 ha2 hkn;rw [dh hk];have z1:(⟨#[43]⟩:ByteArray).size=1:=rfl;rw [z1] at ha1 ha2;exact ai w0 w gd ga f xs s lg n c A An ws ns nw kn cn h hk (by omega)
 · rw [hk,jN] at ha1 ha2 hkn;rw [fC hk];have z1:(⟨#[]⟩:ByteArray).size=0:=rfl;rw [z1] at ha1 ha2;have z3:nw=1:=by
    rcases ha2 with e | e
    · exact absurd e (by decide)
    · omega
   exact dn w0 w gd ga f xs s lg n c A An ws ns nw kn cn h hk z3
 · rw [hk,dA] at ha1 ha2 hkn;rw [ae hk];have z1:(⟨#[]⟩:ByteArray).size=0:=rfl;rw [z1] at ha1 ha2;have z3:nw=1:=by
    rcases ha2 with e | e
    · exact absurd e (by decide)
    · omega
   exact za5 w0 w gd ga f xs s lg n c A An ws ns nw kn cn h hk z3
 · rw [hk,fK] at ha1 ha2 hkn;rw [di hk];have z1:(⟨#[119]⟩:ByteArray).size=1:=rfl;rw [z1] at ha1 ha2;exact aj w0 w gd ga f xs s lg n c A An ws ns nw kn cn h hk (by omega)
 · rw [hk,jO] at ha1 ha2 hkn;rw [fD hk];have z1:(⟨#[110,110,110,110]⟩:ByteArray).size=4:=rfl;rw [z1] at ha1 ha2;have z2:kn=4:=hkn.trans (by decide);obtain ⟨gn,hA⟩:=hAn (by omega);exact dp w0 w gd ga f xs s lg n c A An ws ns nw kn cn h hk (by omega) gn hA z2
 · rw [hk,jP] at ha1 ha2 hkn;rw [fE hk];have z1:(⟨#[43]⟩:ByteArray).size=1:=rfl;rw [z1] at ha1 ha2;exact dq w0 w gd ga f xs s lg n c A An ws ns nw kn cn h hk (by omega)
def nn:List ByteArray:=[⟨#[97,108,116,101,114]⟩,⟨#[99,108,97,117,115,101]⟩,⟨#[101,110,116,101,114]⟩,⟨#[102,105,116]⟩,⟨#[102,111,111,116]⟩,⟨#[108,97,115,116]⟩,⟨#[108,97,115,116,115]⟩,⟨#[108,111,103]⟩,⟨#[110,101,101,100]⟩,⟨#[114,97,105,115,101]⟩,⟨#[115,116,121,108,101]⟩]
theorem jr (w:World):Calls Tryz.prog 31 #[] w (zcz 9 1 11 (zd zn nn) w):=by
 have hown:=World.ownsRow_lit (base:=w.heap.size) (e:=9) (size:=1) w #[Value.string ⟨#[97,108,116,101,114]⟩,Value.string ⟨#[99,108,97,117,115,101]⟩,Value.string ⟨#[101,110,116,101,114]⟩,Value.string ⟨#[102,105,116]⟩,Value.string ⟨#[102,111,111,116]⟩,Value.string ⟨#[108,97,115,116]⟩,Value.string ⟨#[108,97,115,116,115]⟩,Value.string ⟨#[108,111,103]⟩,Value.string ⟨#[110,101,101,100]⟩,Value.string ⟨#[114,97,105,115,101]⟩,Value.string ⟨#[115,116,121,108,101]⟩] 11 (Nat.le_refl _) (by simp [maxLen]) (by simp);have HO:=qH hown;clear hown;go_enter Tryz.func31,Tryz.ntmps31;go_wp2_with fail;go_returns;exact ⟨w.heap.size,rfl,HO.out,zc (Below.refl _ _) _⟩
theorem gA (c:UInt8) (s:ByteArray):yA ⟨#[c]⟩ (zi c s)=s:=by
 unfold yA zi;rw [List.map_map];have e:((fun x:ByteArray=>x.data.toList) ∘ fun l:List UInt8=>(⟨l.toArray⟩:ByteArray))=id:=by funext l;simp
 rw [e,List.map_id];have h:=jn c s.data.toList;apply ByteArray.ext;apply Array.ext'
 show Lib.join (spl c s.data.toList) [c]=s.data.toList
 exact h.symm
theorem et (s:ByteArray):(yx (zi 32 s)).size≤s.size:=by
 have h:=gA 32 s;have e1:∀ L:List ByteArray,(yA ⟨#[32]⟩ L).size=(Lib.join (L.map (·.data.toList)) [32]).length:=by
  intro L;unfold yA;rw [←zv]
 have e2:s.size=(yA ⟨#[32]⟩ (zi 32 s)).size:=by rw [h]
 unfold yx;rw [e2,e1,e1];generalize zi 32 s=L;cases L with
 | nil=>simp
 | cons a r=>
   rw [List.drop_succ_cons,List.drop_zero,List.map_cons,Lib.join_cons,List.length_append];cases r with
   | nil=>simp [Lib.join_nil]
   | cons b t=>
     rw [List.map_cons,Lib.join_cons,List.length_append];simp only [Lib.joinTail,List.map_cons,List.flatten_cons,List.length_append];omega
theorem qN (c:UInt8) (s:ByteArray):0 < (zi c s).length:=by
 unfold zi;rw [List.length_map];exact List.length_pos_iff.2 (ua c _)
def OutDc (r:xX) (w:World) (e:Ending) (w':World):Prop:=∃ (A:Option Addr) (n c:Nat) (B:Option Addr) (k c':Nat),e=.returned (.tuple #[.agg #[.int .i64 r.1.f.length,.int .i64 r.1.f.b,.int .i64 r.1.f.i,.int .i64 r.1.f.h,.slice A n c,.string r.1.s.u,.string r.1.s.c,.string r.1.s.l,.string r.1.s.s,.int .i64 r.1.s.t,.int .i64 r.1.s.h,.int .i64 r.1.s.e,.int .i64 r.1.s.d,.bool r.1.s.q,.string r.1.lg],.slice B k c',.int .i64 r.2.2])∧Below w.heap.size w w'∧r.1.xs.length=n∧r.2.1.length=k∧∃ lo mid,w.heap.size≤lo∧Own w' lo mid 100 6 n (.slice A n c) (zd Last.cells r.1.xs)∧w'.ownsRow mid 9 1 (.slice B k c') k (zd zn r.2.1)
theorem OutDc.mk {r:xX} {w W:World} {f:Foot} {xs:List Last} {s:Style} {lg:ByteArray} {L:List ByteArray} {co:Int} {A B:Option Addr} {n c k c' g4 lo mid:Nat} (hr:r=(⟨f,xs,s,lg⟩,L,co)) (hn:xs.length=n) (hk:L.length=k) (hb:Below w.heap.size w W) (hg:w.heap.size≤g4) (hg2:g4 < lo)
 (h1:Own W lo mid 100 6 n (.slice A n c) (zd Last.cells xs)) (h2:W.ownsRow mid 9 1 (.slice B k c') k (zd zn L)) (row:Array Value):OutDc r w (.returned (.tuple #[.agg #[.int .i64 f.length,.int .i64 f.b,.int .i64 f.i,.int .i64 f.h,.slice A n c,.string s.u,.string s.c,.string s.l,.string s.s,.int .i64 s.t,.int .i64 s.h,.int .i64 s.e,.int .i64 s.d,.bool s.q,.string lg],.slice B k c',.int .i64 co])) (World.setRow W g4 row):=by
 subst hr;have hg4:=yh W g4 row;have hlm:=h1.2.1;refine ⟨A,n,c,B,k,c',rfl,zg hb hg row,hn,hk,lo,mid,by omega,h1.grown hg4 (fun j e=>by injection e with e;omega),h2.kept hg4 ?_⟩;cases hv:(Value.slice B k c').ownBlock with
 | none=>exact .inl rfl
 | some j=>exact .inr (fun e=>by have:=zl h2 j hv;injection e with e;omega)
theorem OutDc.of {r:xX} {w W:World} {f:Foot} {xs:List Last} {s:Style} {lg:ByteArray} {L:List ByteArray} {co:Int} {A B:Option Addr} {n c k c' lo mid:Nat} (hr:r=(⟨f,xs,s,lg⟩,L,co)) (hn:xs.length=n) (hk:L.length=k) (hb:Below w.heap.size w W) (hg:w.heap.size≤lo)
 (h1:Own W lo mid 100 6 n (.slice A n c) (zd Last.cells xs)) (h2:W.ownsRow mid 9 1 (.slice B k c') k (zd zn L)):OutDc r w (.returned (.tuple #[.agg #[.int .i64 f.length,.int .i64 f.b,.int .i64 f.i,.int .i64 f.h,.slice A n c,.string s.u,.string s.c,.string s.l,.string s.s,.int .i64 s.t,.int .i64 s.h,.int .i64 s.e,.int .i64 s.d,.bool s.q,.string lg],.slice B k c',.int .i64 co])) W:=by
 subst hr;exact ⟨A,n,c,B,k,c',rfl,hb,hn,hk,lo,mid,hg,h1,h2⟩
theorem OutDc.zero {r:xX} {w W:World} {co:Int} {g4:Nat} (hr:r=(zDk,[],co)) (hb:Below w.heap.size w W) (hg:w.heap.size≤g4) (row:Array Value):OutDc r w (.returned (.tuple #[.agg #[.int .i64 0,.int .i64 0,.int .i64 0,.int .i64 0,.slice none 0 0,.string ⟨#[]⟩,.string ⟨#[]⟩,.string ⟨#[]⟩,.string ⟨#[]⟩,.int .i64 0,.int .i64 0,.int .i64 0,.int .i64 0,.bool false,.string ⟨#[]⟩],.slice none 0 0,.int .i64 co])) (World.setRow W g4 row):=by
 subst hr;have hb2:=zg hb hg row;exact ⟨none,0,0,none,0,0,rfl,hb2,rfl,rfl,(World.setRow W g4 row).heap.size,(World.setRow W g4 row).heap.size,hb2.size,⟨World.ownsRow_nil _ _ _ _,Nat.le_refl _,Nat.le_refl _,fun k e=>by cases e⟩,World.ownsRow_nil _ _ _ _⟩
theorem ee {ws:List ByteArray} {l:List UInt8} {j:Nat} {b:UInt8} (h:l[j]?=some b) (k:Nat):xI ws (l.drop j) k=if b=110 then (if okB (zf ws k)=true then (xI ws (l.drop (j + 1)) (k + 1)).map (zq (zf ws k) :: ·) else none) else xI ws (l.drop (j + 1)) (k + 1):=by
 rw [yY h,xI]
theorem uF {ws:List ByteArray} {k:Nat} (h:k < ws.length):zf ws k ∈ ws:=by
 unfold zf;rw [List.getD_eq_getElem?_getD,List.getElem?_eq_getElem h];exact List.getElem_mem h
theorem wv {ws:List ByteArray} {k:Nat} (h:k < ws.length):ws[k]?=some (zf ws k):=by
 unfold zf;rw [List.getD_eq_getElem?_getD,List.getElem?_eq_getElem h];rfl
theorem fL (t:ByteArray):(ye t).size≤4:=by
 unfold ye
 repeat' split
 all_goals decide
theorem jT:wf=nn:=rfl
end Go.Proofs.YtpiehlfffjhoaaaGreatDoor
