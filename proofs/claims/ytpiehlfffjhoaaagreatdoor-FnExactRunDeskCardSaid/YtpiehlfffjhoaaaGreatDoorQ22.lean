/- Lemmas for the law on the console: the parts CoB,CrA,DeskA,Clone,CnJ,CnG. -/
import Derived.Test.YtpiehlfffjhoaaaGreatDoorQ1
import Derived.Test.YtpiehlfffjhoaaaGreatDoorQ0
import Derived.Test.YtpiehlfffjhoaaaGreatDoorQ17
import Derived.Test.YtpiehlfffjhoaaaGreatDoorQ21
import Derived.Laws.ResultCell
import Derived.BigRegion
import Derived.Lib.SliceRun
import Derived.Test.YtpiehlfffjhoaaaGreatDoorQ13
import Derived.Test.YtpiehlfffjhoaaaGreatDoorQ2
namespace Go.Proofs.YtpiehlfffjhoaaaGreatDoor
open Go.RowKit
set_option maxRecDepth 100000
set_option maxHeartbeats 4000000
def CdN (w:World):Prop:=∀ k:Nat,k≤10→w.cell? ⟨0,k,none⟩=some (.string (vC k))
theorem CdN.below {w w':World} (h:CdN w) (hb:Below w.heap.size w w'):CdN w':=fun k hk=>zb hb (h k hk)
theorem ko {c:Int} (h:inB c 0 10=false):vC c=⟨#[]⟩:=by
 have h1:¬ (0≤c∧c≤10):=by
  intro h2;rw [oO h2.1 h2.2] at h;cases h
 unfold vC
 repeat' split
 all_goals first | rfl | (exfalso;omega)
theorem rq (c:Int):(vC c).size≤9:=by
 unfold vC
 repeat' split
 all_goals decide
theorem oZ (c:Int) (w:World) (hT:CdN w):Calls Tryz.prog 34 #[.int .i64 c] w (Ret (.string (vC c)) w):=by
 have HW:=fun w=>xu c 0 10 w;have HO:=qH (fun h=>ko (c:=c) h);have HI:=qH (fun (h:inB c 0 10=true)=>inB_iff.1 h);obtain ⟨b,hb⟩:=zN (inB c 0 10);rw [←hb] at HW HO HI;replace HW:=qH HW;clear hb;go_enter Tryz.func34,Tryz.ntmps34;go_wp2_with fail;refine qR (HW.out _) ?_;cases b
 · have HE:=qH (HO.out rfl);clear HO HI;go_wp2_with fail;go_returns;exact Ret.mk (vs HE.out.symm) (Below.refl _ _)
 · obtain ⟨h0,h10⟩:=HI.out rfl;obtain ⟨j,rfl⟩:∃ j:Nat,c=(j:Int):=⟨c.toNat,by omega⟩
   have hj0:(0:Int)≤(j:Int):=by omega
   have hj1:(j:Int) < 11:=by omega
   have n0:=hT j (by omega);obtain ⟨t,ht⟩:=zN (vC (j:Int));rw [←ht] at n0;have HE:=qH ht;clear HO HI ht;go_wp2_with fail;go_returns;exact Ret.mk (vs HE.out) (Below.refl _ _)
theorem xW {t:ByteArray} {L:List UInt8} {k:ByteArray} (hk:k=⟨L.toArray⟩) (h:¬ t=k):(t.toList == L)=false:=by
 rw [beq_eq_false_iff_ne];intro e;apply h;rw [hk,←e];apply ByteArray.ext;rw [ByteArray.toList_eq]
theorem jG (t:ByteArray) (w:World):Calls Tryz.prog 28 #[.string t] w (RetQ (.string (ye t)) w):=by
 by_cases hfoot:t=ya
 · have HE:=qH (show ye t=⟨#[119]⟩ by rw [hfoot];decide);have ht:t=⟨#[102,111,111,116]⟩:=hfoot;subst ht;rw [HE.out];clear  hfoot HE;go_enter Tryz.func28,Tryz.ntmps28;go_wp2_with fail;go_returns;exact RetQ.mk rfl
 have nfoot:(t.toList == [102,111,111,116])=false:=xW rfl hfoot;by_cases hneed:t=yc
 · have HE:=qH (show ye t=⟨#[119]⟩ by rw [hneed];decide);have ht:t=⟨#[110,101,101,100]⟩:=hneed;subst ht;rw [HE.out];clear nfoot hneed HE;go_enter Tryz.func28,Tryz.ntmps28;go_wp2_with fail;go_returns;exact RetQ.mk rfl
 have nneed:(t.toList == [110,101,101,100])=false:=xW rfl hneed;by_cases hlast:t=yb
 · have HE:=qH (show ye t=⟨#[43]⟩ by rw [hlast];decide);have ht:t=⟨#[108,97,115,116]⟩:=hlast;subst ht;rw [HE.out];clear nfoot nneed hlast HE;go_enter Tryz.func28,Tryz.ntmps28;go_wp2_with fail;go_returns;exact RetQ.mk rfl
 have nlast:(t.toList == [108,97,115,116])=false:=xW rfl hlast;by_cases hstyle:t=zM
 · have HE:=qH (show ye t=⟨#[43]⟩ by rw [hstyle];decide);have ht:t=⟨#[115,116,121,108,101]⟩:=hstyle;subst ht;rw [HE.out];clear nfoot nneed nlast hstyle HE;go_enter Tryz.func28,Tryz.ntmps28;go_wp2_with fail;go_returns;exact RetQ.mk rfl
 have nstyle:(t.toList == [115,116,121,108,101])=false:=xW rfl hstyle;by_cases hclause:t=zw
 · have HE:=qH (show ye t=⟨#[43]⟩ by rw [hclause];decide);have ht:t=⟨#[99,108,97,117,115,101]⟩:=hclause;subst ht;rw [HE.out];clear nfoot nneed nlast nstyle hclause HE;go_enter Tryz.func28,Tryz.ntmps28;go_wp2_with fail;go_returns;exact RetQ.mk rfl
 have nclause:(t.toList == [99,108,97,117,115,101])=false:=xW rfl hclause;by_cases hfit:t=yu
 · have HE:=qH (show ye t=⟨#[110,110,110]⟩ by rw [hfit];decide);have ht:t=⟨#[102,105,116]⟩:=hfit;subst ht;rw [HE.out];clear nfoot nneed nlast nstyle nclause hfit HE;go_enter Tryz.func28,Tryz.ntmps28;go_wp2_with fail;go_returns;exact RetQ.mk rfl
 have nfit:(t.toList == [102,105,116])=false:=xW rfl hfit;by_cases halter:t=zI
 · have HE:=qH (show ye t=⟨#[119,119,119]⟩ by rw [halter];decide);have ht:t=⟨#[97,108,116,101,114]⟩:=halter;subst ht;rw [HE.out];clear nfoot nneed nlast nstyle nclause nfit halter HE;go_enter Tryz.func28,Tryz.ntmps28;go_wp2_with fail;go_returns;exact RetQ.mk rfl
 have nalter:(t.toList == [97,108,116,101,114])=false:=xW rfl halter;by_cases hraise:t=zL
 · have HE:=qH (show ye t=⟨#[110,110,110,110]⟩ by rw [hraise];decide);have ht:t=⟨#[114,97,105,115,101]⟩:=hraise;subst ht;rw [HE.out];clear nfoot nneed nlast nstyle nclause nfit nalter hraise HE;go_enter Tryz.func28,Tryz.ntmps28;go_wp2_with fail;go_returns;exact RetQ.mk rfl
 have nraise:(t.toList == [114,97,105,115,101])=false:=xW rfl hraise;by_cases henter:t=zJ
 · have HE:=qH (show ye t=⟨#[110,119,110]⟩ by rw [henter];decide);have ht:t=⟨#[101,110,116,101,114]⟩:=henter;subst ht;rw [HE.out];clear nfoot nneed nlast nstyle nclause nfit nalter nraise henter HE;go_enter Tryz.func28,Tryz.ntmps28;go_wp2_with fail;go_returns;exact RetQ.mk rfl
 have nenter:(t.toList == [101,110,116,101,114])=false:=xW rfl henter;have HE:=qH (show ye t=⟨#[]⟩ by unfold ye;simp only [hfoot,hneed,hlast,hstyle,hclause,hfit,halter,hraise,henter,if_false]);rw [HE.out];clear hfoot hneed hlast hstyle hclause hfit halter hraise henter HE;go_enter Tryz.func28,Tryz.ntmps28;go_wp2_with fail;go_returns;exact RetQ.mk rfl
def zaB (lo:Nat) (L:List ByteArray) (row:Option Nat) (w:World) (e:Ending) (w':World):Prop:=∃ A c,e=.returned (.slice A L.length c)∧w'.ownsRow lo 9 1 (.slice A L.length c) L.length (zd zn L)∧w.grownBy w' row
theorem ja (lo:Nat) (A:Option Addr) (L:List ByteArray) (n c:Nat) (hn:Hid (L.length=n)) (hm:n≤100000) (w:World) (hlo:lo≤w.heap.size) (hO:w.ownsRow lo 9 1 (.slice A n c) n (zd zn L)) (hT:Pow10 w) :
 Calls Tryz.prog 74 #[.slice A n c] w (zaB lo (L ++ [okW n]) (Value.slice A n c).ownBlock w):=by
 obtain ⟨i0,hi0,hz0,hz1,hz2⟩:=info_parts (P:=Tryz.prog) (e:=9) (z:=.string ByteArray.empty) (size:=1) (bytes:=16) vq;have HD:=qH (xo (n:Int) (by omega) (by omega) w hT);have HE:Hid (okW n=⟨#[111,107,32]⟩ ++ zm n):=qH rfl;have z2:=xd (v:=(n:Int)) (by omega) (by omega);obtain ⟨d,hd⟩:=zN (zm (n:Int));rw [←hd] at HD HE z2;have l1:(⟨#[111,107,32]⟩:ByteArray).size=3:=rfl;have s1:=fun (w:World)=>run_string_add_sum (P:=Tryz.prog) w ⟨#[111,107,32]⟩ d (by omega);have HO:=qH hO;clear hd hO hT z2 l1;go_enter Tryz.func74,Tryz.ntmps74;go_wp2_with fail;refine qS HD.out fun W hb=>?_;replace HO:=qH (ze HO.out hb);have hlo2:lo≤W.heap.size:=Nat.le_trans hlo hb.size;have hg0:=yU hb (Value.slice A n c).ownBlock;clear hb HD;obtain ⟨y,hy⟩:=zN ((⟨#[111,107,32]⟩:ByteArray) ++ d);rw [←hy] at HE s1;clear hy;go_wp2_with (at_builtin;refine xp W #[.string y] rfl _ _ 24 9 rfl i0 _ 1 16 Tryz.underlying24 hi0 hz0 hz1 hz2 rfl (by omega) lo (.slice A n c) n _ rfl rfl HO.out rfl (by simp [Value.oneCell']) (by unfold maxLen;omega) (by omega) hlo2 ?_;intro A2 c2 w2 hown2 hg3)
 have e9:zd zn (L ++ [okW n])=zd zn L ++ #[Value.string y].toList:=by rw [HE.out];simp [zd,zn]
 have e8:(L ++ [okW n]).length=n + 1:=by rw [List.length_append,hn.out];rfl
 go_returns;unfold zaB;rw [e9,e8];exact ⟨A2,c2,rfl,hown2,vL hg0 hg3⟩
theorem zbB (A:Option Addr) (l:List Int) (n k:Nat) (hn:Hid (l.length=n)) (hm:(n:Int)≤1000000) (hb:Hid (∀ v ∈ l,-1000000000≤v∧v≤1000000000)) (w:World) (hA:Arr w A (zd zp l)):Calls Tryz.prog 87 #[.slice A n k] w (Ret (.int .i64 l.sum) w):=by
 have bds:∀ (l:List Int),(∀ v ∈ l,-1000000000≤v∧v≤1000000000)→-1000000000 * (l.length:Int)≤l.sum∧l.sum≤1000000000 * (l.length:Int):=by
  intro l
  induction l with
  | nil=>intro _;simp
  | cons a r ih=>
    intro h;have h1:=ih (fun v hv=>h v (by simp [hv]));have h2:=h a (by simp);rw [List.sum_cons,List.length_cons];omega
 have HB:=qH bds;clear bds;go_enter Tryz.func87,Tryz.ntmps87;go_wp2_with fail;have hR:=qH (show (0:Int)=(l.take 0).sum from rfl)
 go_loopw [3,8] (fun v i wr=>∃ (j:Nat) (s:Int),j≤n∧i=.int .i64 j∧v=.int .i64 s∧Hid (s=(l.take j).sum)∧Below w.heap.size w wr) (fun _ i _=>n - (intOf i).toNat)
 case atStart=>exact ⟨0,0,by omega,rfl,rfl,hR,Below.refl _ _⟩
 case round=>
  clear hR;obtain ⟨j,s,hj,rfl,rfl,hR,hv⟩:=hrel;by_cases hlt:j < n
  · obtain ⟨y,hy⟩:=zx (xs:=l) (k:=j) (by rw [hn.out];exact hlt);obtain ⟨bd,rfl,_,d0⟩:=yn (hA.below hv) hy;have HN:=qH (show s + y=(l.take (j + 1)).sum by rw [yD hy,List.sum_append,hR.out];simp);have hsb:=HB.out (l.take (j + 1)) (fun v hv=>hb.out v (List.mem_of_mem_take hv));rw [←HN.out,List.length_take,hn.out,Nat.min_eq_left (by omega)] at hsb;obtain ⟨b1,b2⟩:=hsb;have hw:IntKind.i64.wrap (s + y)=s + y:=IntWalk.i64_in _ (by omega);have h0:(0:Int)≤(j:Int):=by omega
    have h1:(j:Int) < (n:Int):=by omega
    clear hy hR b1 b2;go_wp2_with fail;exact ⟨⟨j + 1,s + y,by omega,by go_num,rfl,HN,hv⟩,by simp [intOf];omega⟩
  · have htk:l.take j=l:=List.take_of_length_le (by rw [hn.out];omega);have HF:=qH (show s=l.sum by rw [hR.out,htk]);clear hR htk;have h1:¬ (j:Int) < (n:Int):=by omega
    go_wp2_with fail;go_returns;exact Ret.mk (vi HF.out) hv
def zV (w:ByteArray):ByteArray:=if w=ya then ⟨#[120]⟩ else if w=yc then ⟨#[120]⟩ else if w=zw then ⟨#[114]⟩ else if w=yb then ⟨#[114]⟩ else if w=zM then ⟨#[114]⟩ else if w=zI then ⟨#[120,120,120]⟩ else if w=yu then ⟨#[110,110,110]⟩ else if w=zL then ⟨#[110,110,110,110]⟩ else if w=zJ then ⟨#[110,120,110]⟩ else if w=zQ then ⟨#[]⟩ else if w=yE then ⟨#[]⟩ else ⟨#[45]⟩
theorem cf (t:ByteArray) (w:World):Calls Tryz.prog 97 #[.string t] w (RetQ (.string (zV t)) w):=by
 by_cases hfoot:t=ya
 · have HE:=qH (show zV t=⟨#[120]⟩ by rw [hfoot];decide);have ht:t=⟨#[102,111,111,116]⟩:=hfoot;subst ht;rw [HE.out];clear  hfoot HE;go_enter Tryz.func97,Tryz.ntmps97;go_wp2_with fail;go_returns;exact RetQ.mk rfl
 have nfoot:(t.toList == [102,111,111,116])=false:=xW rfl hfoot;by_cases hneed:t=yc
 · have HE:=qH (show zV t=⟨#[120]⟩ by rw [hneed];decide);have ht:t=⟨#[110,101,101,100]⟩:=hneed;subst ht;rw [HE.out];clear nfoot hneed HE;go_enter Tryz.func97,Tryz.ntmps97;go_wp2_with fail;go_returns;exact RetQ.mk rfl
 have nneed:(t.toList == [110,101,101,100])=false:=xW rfl hneed;by_cases hclause:t=zw
 · have HE:=qH (show zV t=⟨#[114]⟩ by rw [hclause];decide);have ht:t=⟨#[99,108,97,117,115,101]⟩:=hclause;subst ht;rw [HE.out];clear nfoot nneed hclause HE;go_enter Tryz.func97,Tryz.ntmps97;go_wp2_with fail;go_returns;exact RetQ.mk rfl
 have nclause:(t.toList == [99,108,97,117,115,101])=false:=xW rfl hclause;by_cases hlast:t=yb
 · have HE:=qH (show zV t=⟨#[114]⟩ by rw [hlast];decide);have ht:t=⟨#[108,97,115,116]⟩:=hlast;subst ht;rw [HE.out];clear nfoot nneed nclause hlast HE;go_enter Tryz.func97,Tryz.ntmps97;go_wp2_with fail;go_returns;exact RetQ.mk rfl
 have nlast:(t.toList == [108,97,115,116])=false:=xW rfl hlast;by_cases hstyle:t=zM
 · have HE:=qH (show zV t=⟨#[114]⟩ by rw [hstyle];decide);have ht:t=⟨#[115,116,121,108,101]⟩:=hstyle;subst ht;rw [HE.out];clear nfoot nneed nclause nlast hstyle HE;go_enter Tryz.func97,Tryz.ntmps97;go_wp2_with fail;go_returns;exact RetQ.mk rfl
 have nstyle:(t.toList == [115,116,121,108,101])=false:=xW rfl hstyle;by_cases halter:t=zI
 · have HE:=qH (show zV t=⟨#[120,120,120]⟩ by rw [halter];decide);have ht:t=⟨#[97,108,116,101,114]⟩:=halter;subst ht;rw [HE.out];clear nfoot nneed nclause nlast nstyle halter HE;go_enter Tryz.func97,Tryz.ntmps97;go_wp2_with fail;go_returns;exact RetQ.mk rfl
 have nalter:(t.toList == [97,108,116,101,114])=false:=xW rfl halter;by_cases hfit:t=yu
 · have HE:=qH (show zV t=⟨#[110,110,110]⟩ by rw [hfit];decide);have ht:t=⟨#[102,105,116]⟩:=hfit;subst ht;rw [HE.out];clear nfoot nneed nclause nlast nstyle nalter hfit HE;go_enter Tryz.func97,Tryz.ntmps97;go_wp2_with fail;go_returns;exact RetQ.mk rfl
 have nfit:(t.toList == [102,105,116])=false:=xW rfl hfit;by_cases hraise:t=zL
 · have HE:=qH (show zV t=⟨#[110,110,110,110]⟩ by rw [hraise];decide);have ht:t=⟨#[114,97,105,115,101]⟩:=hraise;subst ht;rw [HE.out];clear nfoot nneed nclause nlast nstyle nalter nfit hraise HE;go_enter Tryz.func97,Tryz.ntmps97;go_wp2_with fail;go_returns;exact RetQ.mk rfl
 have nraise:(t.toList == [114,97,105,115,101])=false:=xW rfl hraise;by_cases henter:t=zJ
 · have HE:=qH (show zV t=⟨#[110,120,110]⟩ by rw [henter];decide);have ht:t=⟨#[101,110,116,101,114]⟩:=henter;subst ht;rw [HE.out];clear nfoot nneed nclause nlast nstyle nalter nfit nraise henter HE;go_enter Tryz.func97,Tryz.ntmps97;go_wp2_with fail;go_returns;exact RetQ.mk rfl
 have nenter:(t.toList == [101,110,116,101,114])=false:=xW rfl henter;by_cases hlasts:t=zQ
 · have HE:=qH (show zV t=⟨#[]⟩ by rw [hlasts];decide);have ht:t=⟨#[108,97,115,116,115]⟩:=hlasts;subst ht;rw [HE.out];clear nfoot nneed nclause nlast nstyle nalter nfit nraise nenter hlasts HE;go_enter Tryz.func97,Tryz.ntmps97;go_wp2_with fail;go_returns;exact RetQ.mk rfl
 have nlasts:(t.toList == [108,97,115,116,115])=false:=xW rfl hlasts;by_cases hlog:t=yE
 · have HE:=qH (show zV t=⟨#[]⟩ by rw [hlog];decide);have ht:t=⟨#[108,111,103]⟩:=hlog;subst ht;rw [HE.out];clear nfoot nneed nclause nlast nstyle nalter nfit nraise nenter nlasts hlog HE;go_enter Tryz.func97,Tryz.ntmps97;go_wp2_with fail;go_returns;exact RetQ.mk rfl
 have nlog:(t.toList == [108,111,103])=false:=xW rfl hlog;have HE:=qH (show zV t=⟨#[45]⟩ by unfold zV;simp only [hfoot,hneed,hclause,hlast,hstyle,halter,hfit,hraise,henter,hlasts,hlog,if_false]);rw [HE.out];clear hfoot hneed hclause hlast hstyle halter hfit hraise henter hlasts hlog HE;go_enter Tryz.func97,Tryz.ntmps97;go_wp2_with fail;go_returns;exact RetQ.mk rfl
theorem jz (c:Int) (w:World):Calls Tryz.prog 96 #[.int .i64 c] w (Ret (.string (vC c)) w):=by
 have HW:=fun w=>xJ c 0 10 w;have HO:=qH (fun h=>ko (c:=c) h);have HI:=qH (fun (h:inB c 0 10=true)=>inB_iff.1 h);obtain ⟨b,hb⟩:=zN (inB c 0 10);rw [←hb] at HW HO HI;replace HW:=qH HW;clear hb;obtain ⟨W,hW⟩:=zN (w.alloc (Obj.cells #[.string ⟨#[111,107]⟩,.string ⟨#[105,110,118,97,108,105,100]⟩,.string ⟨#[114,97,110,103,101]⟩,.string ⟨#[110,111,116,45,102,111,117,110,100]⟩,.string ⟨#[101,120,105,115,116,115]⟩,.string ⟨#[102,117,108,108]⟩,.string ⟨#[115,116,97,116,101]⟩,.string ⟨#[115,121,110,116,97,120]⟩,.string ⟨#[102,111,114,109,97,116]⟩,.string ⟨#[99,108,97,115,104]⟩,.string ⟨#[116,105,103,104,116]⟩] 9));obtain ⟨g,hg⟩:=zN w.heap.size;have HB:Hid (Blk W g 9 #[.string ⟨#[111,107]⟩,.string ⟨#[105,110,118,97,108,105,100]⟩,.string ⟨#[114,97,110,103,101]⟩,.string ⟨#[110,111,116,45,102,111,117,110,100]⟩,.string ⟨#[101,120,105,115,116,115]⟩,.string ⟨#[102,117,108,108]⟩,.string ⟨#[115,116,97,116,101]⟩,.string ⟨#[115,121,110,116,97,120]⟩,.string ⟨#[102,111,114,109,97,116]⟩,.string ⟨#[99,108,97,115,104]⟩,.string ⟨#[116,105,103,104,116]⟩]):=qH (by rw [hW,hg];exact Blk.new _ _ _);have hv:Below w.heap.size w W:=by rw [hW];exact zc (Below.refl _ _) _
 have EW:=qH hW;have EG:=qH hg;clear hW hg;go_enter Tryz.func96,Tryz.ntmps96;go_upto_region 2 with fail;rw [←EW.out,←EG.out];clear EW EG;go_wp2_with fail;refine qR (HW.out _) ?_;cases b
 · have HE:=qH (HO.out rfl);clear HO HI;go_wp2_with fail;go_returns;exact Ret.mk (vs HE.out.symm) hv
 · obtain ⟨h0,h10⟩:=HI.out rfl;obtain ⟨j,rfl⟩:∃ j:Nat,c=(j:Int):=⟨c.toNat,by omega⟩
   have hj0:(0:Int)≤(j:Int):=by omega
   have hj1:(j:Int) < 11:=by omega
   have n0:W.cell? ⟨g,j,none⟩=some (.string (vC (j:Int))):=by
    rw [HB.out.cell j];have hj:j=0∨j=1∨j=2∨j=3∨j=4∨j=5∨j=6∨j=7∨j=8∨j=9∨j=10:=by omega
    rcases hj with rfl | rfl | rfl | rfl | rfl | rfl | rfl | rfl | rfl | rfl | rfl <;> rfl
   obtain ⟨t,ht⟩:=zN (vC (j:Int));rw [←ht] at n0;have HE:=qH ht;clear HO HI ht;go_wp2_with fail;go_returns;exact Ret.mk (vs HE.out) hv
theorem aL (A:Option Addr) (l:List Int) (n k:Nat) (hn:Hid (l.length=n)) (hm:(n:Int)≤1000000) (hb:Hid (∀ v ∈ l,-1000000000≤v∧v≤1000000000)) (w:World) (hA:Arr w A (zd zp l)):Calls Tryz.prog 166 #[.slice A n k] w (Ret (.int .i64 l.sum) w):=by
 have bds:∀ (l:List Int),(∀ v ∈ l,-1000000000≤v∧v≤1000000000)→-1000000000 * (l.length:Int)≤l.sum∧l.sum≤1000000000 * (l.length:Int):=by
  intro l
  induction l with
  | nil=>intro _;simp
  | cons a r ih=>
    intro h;have h1:=ih (fun v hv=>h v (by simp [hv]));have h2:=h a (by simp);rw [List.sum_cons,List.length_cons];omega
 have HB:=qH bds;clear bds;go_enter Tryz.func166,Tryz.ntmps166;go_wp2_with fail;have hR:=qH (show (0:Int)=(l.take 0).sum from rfl)
 go_loopw [3,4] (fun v i wr=>∃ (j:Nat) (s:Int),j≤n∧i=.int .i64 j∧v=.int .i64 s∧Hid (s=(l.take j).sum)∧Below w.heap.size w wr) (fun _ i _=>n - (intOf i).toNat)
 case atStart=>exact ⟨0,0,by omega,rfl,rfl,hR,Below.refl _ _⟩
 case round=>
  clear hR;obtain ⟨j,s,hj,rfl,rfl,hR,hv⟩:=hrel;by_cases hlt:j < n
  · obtain ⟨y,hy⟩:=zx (xs:=l) (k:=j) (by rw [hn.out];exact hlt);obtain ⟨bd,rfl,_,d0⟩:=yn (hA.below hv) hy;have HN:=qH (show s + y=(l.take (j + 1)).sum by rw [yD hy,List.sum_append,hR.out];simp);have hsb:=HB.out (l.take (j + 1)) (fun v hv=>hb.out v (List.mem_of_mem_take hv));rw [←HN.out,List.length_take,hn.out,Nat.min_eq_left (by omega)] at hsb;obtain ⟨b1,b2⟩:=hsb;have hw:IntKind.i64.wrap (s + y)=s + y:=IntWalk.i64_in _ (by omega);have h0:(0:Int)≤(j:Int):=by omega
    have h1:(j:Int) < (n:Int):=by omega
    clear hy hR b1 b2;go_wp2_with fail;exact ⟨⟨j + 1,s + y,by omega,by go_num,rfl,HN,hv⟩,by simp [intOf];omega⟩
  · have htk:l.take j=l:=List.take_of_length_le (by rw [hn.out];omega);have HF:=qH (show s=l.sum by rw [hR.out,htk]);clear hR htk;have h1:¬ (j:Int) < (n:Int):=by omega
    go_wp2_with fail;go_returns;exact Ret.mk (vi HF.out) hv
def nj:ByteArray:=⟨#[99,97,108,102]⟩
def pd:ByteArray:=⟨#[98,108,97,99,107]⟩
def sU:ByteArray:=⟨#[108,101,97,116,104,101,114]⟩
theorem aO (w:World):Calls Tryz.prog 39 #[] w (Ret (.agg #[.int .i64 2500,.int .i64 2400,.int .i64 2500,.int .i64 3200,.slice none 0 0,.string nj,.string pd,.string ⟨#[]⟩,.string sU,.int .i64 40,.int .i64 0,.int .i64 0,.int .i64 0,.bool false,.string ⟨#[]⟩]) w):=by
 go_enter Tryz.func39,Tryz.ntmps39;go_wp2_with fail;refine bodyPost_ret (results_cell_row (P:=Tryz.prog) rfl _ _ w.heap.size 32 #[Value.int .i64 2500,Value.int .i64 2400,Value.int .i64 2500,Value.int .i64 3200,Value.slice none 0 0,Value.string nj,Value.string pd,Value.string ⟨#[]⟩,Value.string sU,Value.int .i64 40,Value.int .i64 0,Value.int .i64 0,Value.int .i64 0,Value.bool false,Value.string ⟨#[]⟩] (0,0) _ rfl ?_ Tryz.underlying32 rfl (by kernel_rfl)) rfl ?_
 · exact Blk.new _ _ _
 · exact Ret.mk rfl (zc (Below.refl _ _) _)
theorem dw (g:Nat) (a b c d:Int) (cp:Nat) (w:World) (q0:w.cell? ⟨g,0,none⟩=some (.int .i64 a)) (q1:w.cell? ⟨g,1,none⟩=some (.int .i64 b)) (q2:w.cell? ⟨g,2,none⟩=some (.int .i64 c)) (q3:w.cell? ⟨g,3,none⟩=some (.int .i64 d)) :
 Calls Tryz.prog 26 #[.slice (some ⟨g,0,none⟩) 4 cp] w (Ret (.agg #[.int .i64 a,.int .i64 b,.int .i64 c,.int .i64 d]) w):=by
 obtain ⟨W,hW⟩:=zN (w.alloc (Obj.cells cG 27));obtain ⟨g0,hg0⟩:=zN w.heap.size;have hv:Below w.heap.size w W:=by rw [hW];exact zc (Below.refl _ _) _
 have h0:Blk W g0 27 cG:=by rw [hW,hg0];exact Blk.new _ _ _
 have hge:w.heap.size≤g0:=by omega
 have c0:=zb hv q0;have c1:=zb hv q1;have c2:=zb hv q2;have c3:=zb hv q3;clear q0 q1 q2 q3;obtain ⟨k0,k1,k2,k3⟩:=qC4 h0;have f0:W.frozen? ⟨g0,0,none⟩=false:=h0.frozen 0;have f1:W.frozen? ⟨g0,1,none⟩=false:=h0.frozen 1;have f2:W.frozen? ⟨g0,2,none⟩=false:=h0.frozen 2;have f3:W.frozen? ⟨g0,3,none⟩=false:=h0.frozen 3;go_enter Tryz.func26,Tryz.ntmps26;go_wp2_with fail;rw [←hW,←hg0];clear hW hg0
 go_region
 go_wp2_with fail;refine bodyPost_ret (results_cell_row (P:=Tryz.prog) rfl _ _ g0 27 #[.int .i64 a,.int .i64 b,.int .i64 c,.int .i64 d] (0,0) _ rfl ?_ Tryz.underlying27 rfl (by kernel_rfl)) rfl ?_
 · exact Blk.below (((((h0).set_ 0 _).set_ 1 _).set_ 2 _).set_ 3 _) (Below.refl _ _).drew
 · exact Ret.mk rfl (zt (zt (zt (zt hv hge _) hge _) hge _) hge _).drew
theorem eG (w:World):Calls Tryz.prog 8 #[] w (Ret (.agg #[.int .i64 2500,.int .i64 2400,.int .i64 2500,.int .i64 3200,.slice none 0 0,.string nj,.string pd,.string ⟨#[]⟩,.string sU,.int .i64 40,.int .i64 0,.int .i64 0,.int .i64 0,.bool false,.string ⟨#[]⟩]) w):=by
 go_enter Tryz.func8,Tryz.ntmps8;go_wp2_with fail;obtain ⟨W,hW⟩:=zN (w.alloc (Obj.cells cE 32));obtain ⟨g0,hg0⟩:=zN w.heap.size;have hv:Below w.heap.size w W:=by rw [hW];exact zc (Below.refl _ _) _
 have h0:Blk W g0 32 cE:=by rw [hW,hg0];exact Blk.new _ _ _
 have hge:w.heap.size≤g0:=by omega
 obtain ⟨W2,hW2⟩:=zN (W.alloc (Obj.cells #[.int .i64 2500,.int .i64 2400,.int .i64 2500,.int .i64 3200] 2));obtain ⟨g1,hg1⟩:=zN (w.heap.size + 1);have hb2:Below W.heap.size W W2:=by rw [hW2];exact zc (Below.refl _ _) _
 have h1:Blk W2 g1 2 #[.int .i64 2500,.int .i64 2400,.int .i64 2500,.int .i64 3200]:=by
  rw [hW2,hg1];have h:=Blk.new W 2 #[Value.int .i64 2500,Value.int .i64 2400,Value.int .i64 2500,Value.int .i64 3200];rw [show W.heap.size=w.heap.size + 1 by rw [hW];simp] at h;exact h
 rw [←hW,←hW2,←hg1,←hg0];replace hv:=za hv hb2;replace h0:=h0.below hb2;clear hW hg0 hW2 hg1 hb2;refine qS (dw g1 2500 2400 2500 3200 4 _ (h1.cell 0) (h1.cell 1) (h1.cell 2) (h1.cell 3)) fun W1 hb=>?_;replace hv:=za hv hb;replace h0:=h0.below hb;clear hb h1;obtain ⟨k0,k1,k2,k3,k4,k5,k6,k7,k8,k9,k10,k11,k12,k13,k14⟩:=vG h0;have f0:W1.frozen? ⟨g0,0,none⟩=false:=h0.frozen 0;have f1:W1.frozen? ⟨g0,1,none⟩=false:=h0.frozen 1;have f2:W1.frozen? ⟨g0,2,none⟩=false:=h0.frozen 2;have f3:W1.frozen? ⟨g0,3,none⟩=false:=h0.frozen 3;have f4:W1.frozen? ⟨g0,4,none⟩=false:=h0.frozen 4;have f5:W1.frozen? ⟨g0,5,none⟩=false:=h0.frozen 5;have f6:W1.frozen? ⟨g0,6,none⟩=false:=h0.frozen 6;have f7:W1.frozen? ⟨g0,7,none⟩=false:=h0.frozen 7;have f8:W1.frozen? ⟨g0,8,none⟩=false:=h0.frozen 8;have f9:W1.frozen? ⟨g0,9,none⟩=false:=h0.frozen 9;have f10:W1.frozen? ⟨g0,10,none⟩=false:=h0.frozen 10;have f11:W1.frozen? ⟨g0,11,none⟩=false:=h0.frozen 11;have f12:W1.frozen? ⟨g0,12,none⟩=false:=h0.frozen 12;have f13:W1.frozen? ⟨g0,13,none⟩=false:=h0.frozen 13;have f14:W1.frozen? ⟨g0,14,none⟩=false:=h0.frozen 14;go_wp2_with fail;refine bodyPost_ret (results_cell_row (P:=Tryz.prog) rfl _ _ g0 32 #[Value.int .i64 2500,Value.int .i64 2400,Value.int .i64 2500,Value.int .i64 3200,Value.slice none 0 0,Value.string nj,Value.string pd,Value.string ⟨#[]⟩,Value.string sU,Value.int .i64 40,Value.int .i64 0,Value.int .i64 0,Value.int .i64 0,Value.bool false,Value.string ⟨#[]⟩] (0,0) _ rfl ?_ Tryz.underlying32 rfl (by kernel_rfl)) rfl ?_
 · exact (((((((((((((((h0).set_ 0 _).set_ 1 _).set_ 2 _).set_ 3 _).set_ 4 _).set_ 5 _).set_ 6 _).set_ 7 _).set_ 8 _).set_ 9 _).set_ 10 _).set_ 11 _).set_ 12 _).set_ 13 _).set_ 14 _
 · exact Ret.mk rfl (zt (zt (zt (zt (zt (zt (zt (zt (zt (zt (zt (zt (zt (zt (zt (hv) hge _) hge _) hge _) hge _) hge _) hge _) hge _) hge _) hge _) hge _) hge _) hge _) hge _) hge _) hge _)
theorem Last.ones (xs:List Last):∀ u ∈ zd Last.cells xs,u.oneCell'=true:=by
 intro u hu;simp only [zd,List.mem_flatMap] at hu;obtain ⟨x,_,hx⟩:=hu;simp only [Last.cells,List.mem_cons,List.not_mem_nil,or_false] at hx;rcases hx with rfl | rfl | rfl | rfl | rfl | rfl <;> rfl
theorem jF (ad:Addr) (xs:List Last) (n c:Nat) (hn:Hid (xs.length=n)) (hm:(n:Int)≤1048576) (w:World) (hA:Arr w (some ad) (zd Last.cells xs)) :
 Calls Tryz.prog 65 #[.slice (some ad) n c] w (sO 100 6 n (zd Last.cells xs) w):=by
 obtain ⟨i0,hi0,hz0,hz1,hz2⟩:=info_parts (P:=Tryz.prog) (e:=100) (z:=.agg #[.string ByteArray.empty,.int .i64 0,.int .i64 0,.int .i64 0,.int .i64 0,.int .i64 0]) (size:=6) (bytes:=56) dG;have hlen:(zd Last.cells xs).length=n * 6:=by rw [xe Last.cells_length,hn.out]
 have q22:∀ (w:World) (a:Option Addr) (n c n' c':Nat),(binOp .eql 28 (.slice a n c) (.slice none n' c')).run Tryz.prog w=.ok (.bool a.isNone) w:=fun w a n c n' c'=>Lib.run_eql_slice_nil w _ _ a n c n' c' Tryz.underlying28;go_enter Tryz.func65,Tryz.ntmps65;go_wp2_with (at_builtin;refine vQ _ rfl _ _ 28 100 rfl i0 _ 6 56 Tryz.underlying28 hi0 hz0 hz1 hz2 rfl (by omega) w.heap.size _ 0 [] rfl (zG w _ _ _ (Nat.le_refl _)) ad n c (zd Last.cells xs) rfl (hA.alloc _) hlen (Last.ones xs) (by unfold maxLen;omega) (by omega) (by simp) ?_;intro A2 c2 w2 hown2 hg2)
 go_returns;simp only [Nat.zero_add,List.nil_append] at hown2 ⊢;exact ⟨A2,c2,rfl,hown2,zh (zc (Below.refl _ _) _) hg2 (zl (zG w w.heap.size 100 6 (Nat.le_refl _)))⟩
def tA (a b:ByteArray):Int:=if yN a b=true then -1 else if yN b a=true then 1 else 0
theorem zaZ {a b:ByteArray}:tA a b < 0 ↔ yN a b=true:=by unfold tA;repeat' split;all_goals simp_all
theorem cmpS_eq {a b:ByteArray}:tA a b=0 ↔ a=b:=by
 unfold tA;constructor
 · intro h;rcases px a b with h1 | h1 | h1
   · rw [if_pos h1] at h;omega
   · exact h1
   · rw [if_neg (by rw [td h1];simp),if_pos h1] at h;omega
 · intro h;subst h;rw [if_neg (by rw [uP];simp),if_neg (by rw [uP];simp)]
theorem oP (a:ByteArray) (w:World):Calls Tryz.prog 255 #[.string a] w (RetQ (.bool false) w):=by
 go_enter Tryz.func255,Tryz.ntmps255
 go_wp2
 go_returns;exact RetQ.mk (vb (by simp))
theorem fy (a b:ByteArray) (w:World):Calls Tryz.prog 196 #[.string a,.string b] w (RetQ (.int .i64 (tA a b)) w):=by
 have HC:Hid ((yN a b=true→tA a b = -1)∧(yN b a=true→tA a b=1)∧(a=b→tA a b=0)):=qH ⟨fun h=>if_pos h,fun h=>by unfold tA;rw [if_neg (by rw [td h];simp),if_pos h],fun h=>cmpS_eq.2 h⟩;have h0:(a.toList == b.toList)=decide (a=b):=yJ a b;have h1:Op.bytesLess a.toList b.toList=yN a b:=rfl;have h2:Op.bytesLess b.toList a.toList=yN b a:=rfl;obtain ⟨r,hr⟩:=zN (tA a b);rw [←hr] at HC ⊢;clear hr;rcases px a b with h | h | h
 · obtain rfl:=HC.out.1 h;rw [h] at h1;rw [td h] at h2;rw [decide_eq_false (oS h)] at h0;clear h HC;go_enter Tryz.func196,Tryz.ntmps196;go_wp2_with (go_at_call 255;refine (oP _ _).mono ?_;rintro e w' ⟨rfl,rfl⟩)
   go_returns;exact RetQ.mk rfl
 · obtain rfl:=HC.out.2.2 h;subst h;rw [uP] at h1;rw [decide_eq_true rfl] at h0;clear HC h2;go_enter Tryz.func196,Tryz.ntmps196;go_wp2_with (go_at_call 255;refine (oP _ _).mono ?_;rintro e w' ⟨rfl,rfl⟩)
   go_returns;exact RetQ.mk rfl
 · obtain rfl:=HC.out.2.1 h;rw [h] at h2;rw [td h] at h1;rw [decide_eq_false (fun e=>oS h e.symm)] at h0;clear h HC;go_enter Tryz.func196,Tryz.ntmps196;go_wp2_with (go_at_call 255;refine (oP _ _).mono ?_;rintro e w' ⟨rfl,rfl⟩)
   go_returns;exact RetQ.mk rfl
theorem lj (x:Last) (nm:ByteArray) (w:World):Calls Tryz.prog 195 #[.agg #[.string x.name,.int .i64 x.length,.int .i64 x.b,.int .i64 x.i,.int .i64 x.h,.int .i64 x.p],.string nm] w (Ret (.int .i64 (tA x.name nm)) w):=by
 go_enter Tryz.func195,Tryz.ntmps195;go_wp2_with (go_at_call 196;refine (fy _ _ _).mono ?_;rintro e w' ⟨rfl,rfl⟩)
 go_returns;exact Ret.mk rfl (by go_grown)
theorem cU (A:Option Addr) (xs:List Last) (n c:Nat) (nm:ByteArray) (hn:Hid (xs.length=n)) (hm:(n:Int)≤1048576) (hp:Hid (xs.Pairwise vh)) (w:World) (hA:Arr w A (zd Last.cells xs)) :
 Calls Tryz.prog 194 #[.slice A n c,.string nm,.func (.func 195) #[] #[]] w (RetT #[.int .i64 (lbN nm xs),.bool (xM nm xs)] w):=by
 obtain ⟨b,hb⟩:=zN (lbN nm xs);have hbn:b≤n:=by rw [hb,←hn.out];exact va nm xs
 have HB:=qH hb;rw [←hb];clear hb;go_enter Tryz.func194,Tryz.ntmps194;go_wp2_with fail
 go_loopw [9,10] (fun i j wr=>∃ p q:Nat,p≤b∧b≤q∧q≤n∧i=.int .i64 p∧j=.int .i64 q∧Below w.heap.size w wr) (fun i j _=>((intOf j) - (intOf i)).toNat)
 case atStart=>exact ⟨0,n,by omega,by omega,by omega,rfl,rfl,Below.refl _ _⟩
 case round=>
  obtain ⟨p,q,hpb,hbq,hqn,rfl,rfl,hv⟩:=hrel;by_cases hlt:p < q
  · obtain ⟨h,hh⟩:∃ h:Nat,((p:Int) + (q:Int)) / 2=(h:Int):=⟨(p + q) / 2,by omega⟩
    have hph:p≤h:=by omega
    have hhq:h < q:=by omega
    obtain ⟨x,hx⟩:=zx (xs:=xs) (k:=h) (by rw [hn.out];omega);obtain ⟨ad,rfl,hab,c0,c1,c2,c3,c4,c5⟩:=Last.at_ (hA.below hv) hx;have HX:=qH (sL nm xs hp.out h x hx);clear hx;go_wp2_with fail;refine qS (lj x nm _) fun w1 hb1=>?_;have hcl:=qH (@zaZ x.name nm);obtain ⟨r,hr⟩:=zN (tA x.name nm);rw [←hr] at hcl ⊢;clear hr;by_cases hr0:r < 0
    · have h1:=(HX.out.1 (hcl.out.1 hr0))
      rw [←HB.out] at h1;go_wp2_with fail;exact ⟨⟨h + 1,q,by omega,by omega,by omega,by go_num,rfl,za hv hb1⟩,by simp [intOf];omega⟩
    · have h1:b≤h:=by
       have:¬ h < lbN nm xs:=fun hc=>hr0 (hcl.out.2 (HX.out.2 hc));have:=HB.out;omega
      go_wp2_with fail;exact ⟨⟨p,h,by omega,by omega,by omega,rfl,by go_num,za hv hb1⟩,by simp [intOf];omega⟩
  · obtain rfl:p=b:=by omega
    obtain rfl:q=p:=by omega
    by_cases hpn:q < n
    · obtain ⟨x,hx⟩:=zx (xs:=xs) (k:=q) (by rw [hn.out];omega);obtain ⟨ad,rfl,hab,c0,c1,c2,c3,c4,c5⟩:=Last.at_ (hA.below hv) hx;have HH:=qH (show xM nm xs=decide (x.name=nm) by unfold xM;rw [←HB.out,hx];rfl);clear hx;go_wp2_with fail;refine qS (lj x nm _) fun w1 hb1=>?_;have hce:=qH (@cmpS_eq x.name nm);obtain ⟨r,hr⟩:=zN (tA x.name nm);rw [←hr] at hce ⊢;clear hr;go_wp2_with fail;go_returns;refine RetT.mk ?_ (za hv hb1);rw [HH.out];have h2:(r == 0)=decide (x.name=nm):=by rw [Bool.eq_iff_iff,beq_iff_eq,decide_eq_true_eq];exact hce.out
      rw [←h2];rfl
    · have HH:=qH (show xM nm xs=false by unfold xM;rw [←HB.out,List.getElem?_eq_none (by rw [hn.out];omega)];rfl);go_wp2_with fail;go_returns;exact RetT.mk (by rw [HH.out];rfl) hv
theorem oB (A:Option Addr) (xs:List Last) (n c:Nat) (nm:ByteArray) (hn:Hid (xs.length=n)) (hm:(n:Int)≤1048576) (hp:Hid (xs.Pairwise vh)) (w:World) (hA:Arr w A (zd Last.cells xs)) :
 Calls Tryz.prog 127 #[.slice A n c,.string nm] w (RetT #[.int .i64 (lbN nm xs),.bool (xM nm xs)] w):=by
 go_enter Tryz.func127,Tryz.ntmps127;go_wp2_with fail;refine qS (cU A xs n c nm hn hm hp _ hA) fun w1 hb1=>?_;go_wp2_with fail;go_returns;exact RetT.mk rfl hb1
theorem kU {xs:List Last} {nm:ByteArray} (h:yz xs=false):yv xs nm=(0,1):=by unfold yv;rw [if_neg (by simp [h])]
theorem kW {xs:List Last} {nm:ByteArray} (h:yz xs=true) (h2:zo nm=false):yv xs nm=(0,2):=by unfold yv;rw [if_pos h,if_neg (by simp [h2])]
theorem kV {xs:List Last} {nm:ByteArray} (h:yz xs=true) (h2:zo nm=true) (h3:xM nm xs=false):yv xs nm=(0,3):=by unfold yv;rw [if_pos h,if_pos h2,if_neg (by simp [h3])]
theorem kT {xs:List Last} {nm:ByteArray} (h:yz xs=true) (h2:zo nm=true) (h3:xM nm xs=true):yv xs nm=((lbN nm xs:Int),0):=by unfold yv;rw [if_pos h,if_pos h2,if_pos h3]
theorem ak {nm:ByteArray} {xs:List Last} {k:Nat} {x:Last} (h:xs[k]?=some x):vO nm (xs.drop k) k=if x.name=nm then (k:Int) else vO nm (xs.drop (k + 1)) (k + 1):=by rw [yY h];rfl
theorem pr (A:Option Addr) (xs:List Last) (n c:Nat) (nm:ByteArray) (hn:Hid (xs.length=n)) (hm:(n:Int)≤1048576) (w:World) (hA:Arr w A (zd Last.cells xs)) :
 Calls Tryz.prog 225 #[.slice A n c,.string nm] w (Ret (.int .i64 (vO nm xs 0)) w):=by
 go_enter Tryz.func225,Tryz.ntmps225;go_wp2_with fail;have hR:=qH (show vO nm xs 0=vO nm (xs.drop 0) 0 from rfl)
 go_loopw [5] (fun i wr=>∃ k:Nat,k≤n∧i=.int .i64 k∧Hid (vO nm xs 0=vO nm (xs.drop k) k)∧Below w.heap.size w wr) (fun i _=>n - (intOf i).toNat)
 case atStart=>exact ⟨0,by omega,rfl,hR,Below.refl _ _⟩
 case round=>
  clear hR;obtain ⟨k,hk,rfl,hR,hbel⟩:=hrel;by_cases hlt:k < n
  · obtain ⟨x,hx⟩:=zx (xs:=xs) (k:=k) (by rw [hn.out];exact hlt);obtain ⟨ad,rfl,hab,c0,c1,c2,c3,c4,c5⟩:=Last.at_ (hA.below hbel) hx;have hR2:=qH (hR.out.trans (ak hx));clear hR hx c1 c2 c3 c4 c5;have hbb:(x.name.toList == nm.toList)=decide (x.name=nm):=yJ _ _;by_cases hq:x.name=nm
    · have hR3:=qH (hR2.out.trans (if_pos hq));rw [decide_eq_true hq] at hbb;clear hR2 hq;go_wp2_with fail;go_returns;exact Ret.mk (vi hR3.out.symm) hbel
    · have hR3:=qH (hR2.out.trans (if_neg hq));rw [decide_eq_false hq] at hbb;clear hR2 hq;go_wp2_with fail;exact ⟨⟨k + 1,by omega,by go_num,hR3,hbel⟩,by simp [intOf];omega⟩
  · have hR2:=qH (hR.out.trans (by rw [List.drop_eq_nil_of_le (by rw [hn.out];omega)];rfl:_=(-1:Int)));clear hR;go_wp2_with fail;go_returns;exact Ret.mk (vi hR2.out.symm) hbel
theorem js (A:Option Addr) (xs:List Last) (n c:Nat) (nm:ByteArray) (hn:Hid (xs.length=n)) (hm:(n:Int)≤1048576) (hs:Hid (∀ x ∈ xs,x.name.size≤9223372036854775807)) (hz:nm.size≤9223372036854775807) (w:World) (hA:Arr w A (zd Last.cells xs)) :
 Calls Tryz.prog 132 #[.slice A n c,.string nm] w (RetT #[.int .i64 (yv xs nm).1,.int .i64 (yv xs nm).2] w):=by
 have HA:=qH hA;go_enter Tryz.func132,Tryz.ntmps132;go_wp2_with fail;refine qS (uT A xs n c hn hm hs _ HA.out) fun W hv=>?_;cases ho:yz xs
 · have HP:=qH (kU (nm:=nm) ho);clear ho;go_wp2_with fail;go_returns;exact RetT.mk (by rw [HP.out];rfl) hv
 have HO:=qH ho;clear ho;go_wp2_with fail;refine (xD nm hz _).mono ?_;rintro e w' ⟨rfl,rfl⟩;cases hq:zo nm
 · have HP:=qH (kW HO.out hq);clear hq;go_wp2_with fail;go_returns;exact RetT.mk (by rw [HP.out];rfl) hv
 have HQ:=qH hq;clear hq;go_wp2_with fail;refine qS (oB A xs n c nm hn hm (qH (tH HO.out)) _ (HA.out.below hv)) fun W2 hb=>?_;replace hv:=za hv hb;cases hh:xM nm xs
 · have HP:=qH (kV HO.out HQ.out hh);clear hh;go_wp2_with fail;go_returns;exact RetT.mk (by rw [HP.out];rfl) hv
 have HP:=qH (kT HO.out HQ.out hh);clear hh;have hl0:(0:Int)≤(lbN nm xs:Int):=by omega
 have hl1:¬ (lbN nm xs:Int) < 0:=by omega
 go_wp2_with fail;go_returns;exact RetT.mk (by rw [HP.out];rfl) hv
theorem qY (A:Option Addr) (xs:List Last) (n c:Nat) (nm:ByteArray) (hn:Hid (xs.length=n)) (hm:(n:Int)≤1048576) (hs:Hid (∀ x ∈ xs,x.name.size≤9223372036854775807)) (hz:nm.size≤9223372036854775807) (w:World) (hA:Arr w A (zd Last.cells xs)) :
 Calls Tryz.prog 158 #[.slice A n c,.string nm] w (RetT #[.int .i64 (yv xs nm).1,.int .i64 (yv xs nm).2] w):=by
 have HA:=qH hA;go_enter Tryz.func158,Tryz.ntmps158;go_wp2_with fail;refine qS (pT A xs n c hn hm hs _ HA.out) fun W hv=>?_;cases ho:yz xs
 · have HP:=qH (kU (nm:=nm) ho);clear ho;go_wp2_with fail;go_returns;exact RetT.mk (by rw [HP.out];rfl) hv
 have HO:=qH ho;clear ho;go_wp2_with fail;refine (xn nm hz _).mono ?_;rintro e w' ⟨rfl,rfl⟩;cases hq:zo nm
 · have HP:=qH (kW HO.out hq);clear hq;go_wp2_with fail;go_returns;exact RetT.mk (by rw [HP.out];rfl) hv
 have HQ:=qH hq;clear hq;go_wp2_with fail;refine qS (pr A xs n c nm hn hm _ (HA.out.below hv)) fun W2 hb=>?_;replace hv:=za hv hb;rw [pm HO.out];cases hh:xM nm xs
 · have HP:=qH (kV HO.out HQ.out hh);clear hh;go_wp2_with fail;go_returns;exact RetT.mk (by rw [HP.out];rfl) hv
 have HP:=qH (kT HO.out HQ.out hh);clear hh;have hl0:(0:Int)≤(lbN nm xs:Int):=by omega
 have hl1:¬ (lbN nm xs:Int) < 0:=by omega
 go_wp2_with fail;go_returns;exact RetT.mk (by rw [HP.out];rfl) hv
end Go.Proofs.YtpiehlfffjhoaaaGreatDoor
