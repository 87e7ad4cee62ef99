/- Lemmas for the law on the console: the parts RdP,RdS,RdA,EntA. -/
import Derived.Test.YtpiehlfffjhoaaaGreatDoorQ1
import Derived.Test.YtpiehlfffjhoaaaGreatDoorQ0
import Derived.Lib.ParseIntB
import Derived.Lib.ItoaMem
import Derived.Lib.SplitLaws
import Derived.Lib.CutLaws
import Derived.Lib.IndexBytes
import Derived.Lib.Strings
namespace Go.Proofs.YtpiehlfffjhoaaaGreatDoor
open Go.RowKit
set_option maxRecDepth 100000
set_option maxHeartbeats 2000000
def yF (b:UInt8):Bool:=decide (48≤b.toNat) && decide (b.toNat≤57)
def xZ:List UInt8→Nat→Nat
 | [],a=>a
 | c :: r,a=>xZ r (a * 10 + (c.toNat - 48))
def yp:List UInt8→List UInt8
 | []=>[]
 | c :: r=>if c=45 then r else c :: r
def sgn:List UInt8→Nat→Int
 | [],n=>n
 | c :: _,n=>if c=45 then -(n:Int) else n
def xi (l:List UInt8):Int:=sgn l (xZ (yp l) 0)
def okN (l:List UInt8):Bool:=decide (1≤(yp l).length) && decide ((yp l).length≤18) && (yp l).all yF && decide (Lib.itoa (xi l)=l)
theorem isDig_iff {b:UInt8}:yF b=true ↔ 48≤b.toNat∧b.toNat≤57:=by simp [yF]
theorem za2:∀ (l:List UInt8) (a:Nat),l.all yF=true→xZ l a + 1≤(a + 1) * 10 ^ l.length:=by
 intro l
 induction l with
 | nil=>intro a _;simp [xZ]
 | cons c r ih=>
   intro a h;simp only [List.all_cons,Bool.and_eq_true] at h;have hd:=isDig_iff.1 h.1;have h1:=ih (a * 10 + (c.toNat - 48)) h.2;have h2:(a * 10 + (c.toNat - 48) + 1) * 10 ^ r.length≤((a + 1) * 10) * 10 ^ r.length:=Nat.mul_le_mul_right _ (by omega);have h3:(a + 1) * 10 ^ (r.length + 1)=(a + 1) * 10 * 10 ^ r.length:=by rw [Nat.pow_succ,Nat.mul_comm (10 ^ r.length) 10,←Nat.mul_assoc]
   simp only [xZ,List.length_cons];omega
theorem nL {k:Nat} (h:k≤18):10 ^ k≤1000000000000000000:=by
 have:(10:Nat) ^ k≤10 ^ 18:=Nat.pow_le_pow_right (by omega) h;simpa using this
theorem pR {l:List UInt8} (h:l.all yF=true) (hl:l.length≤18):xZ l 0 < 1000000000000000000:=by
 have h1:=za2 l 0 h;have h2:=nL hl;omega
theorem lh:∀ (l:List UInt8) (a:Nat),l.all yF=true→(a + 1) * 10 ^ l.length≤1000000000000000000→Lib.parseUintM 18446744073709551615 a l=.ok (xZ l a):=by
 intro l
 induction l with
 | nil=>intro a _ _;rfl
 | cons c r ih=>
   intro a h hb;simp only [List.all_cons,Bool.and_eq_true] at h;have hd:=isDig_iff.1 h.1;have e:(a + 1) * 10 ^ (c :: r).length=((a + 1) * 10) * 10 ^ r.length:=by rw [List.length_cons,Nat.pow_succ,Nat.mul_assoc,Nat.mul_comm (10 ^ r.length)]
   rw [e] at hb;have hp:1≤10 ^ r.length:=Nat.one_le_pow _ _ (by omega);have h2:(a + 1) * 10≤((a + 1) * 10) * 10 ^ r.length:=Nat.le_mul_of_pos_right _ hp;have h3:(a * 10 + (c.toNat - 48) + 1) * 10 ^ r.length≤((a + 1) * 10) * 10 ^ r.length:=Nat.mul_le_mul_right _ (by omega);unfold Lib.parseUintM;rw [if_pos hd,if_neg (by omega),if_neg (by omega)];exact ih _ h.2 (by omega)
theorem em:∀ (l:List UInt8) (a u:Nat),Lib.parseUintM 18446744073709551615 a l=.ok u→l.all yF=true∧u=xZ l a:=by
 intro l
 induction l with
 | nil=>intro a u h;simp only [Lib.parseUintM,Lib.NumEnd.ok.injEq] at h;exact ⟨rfl,h.symm⟩
 | cons c r ih=>
   intro a u h;unfold Lib.parseUintM at h;split at h
   · rename_i hd;split at h
     · cases h
     · split at h
       · cases h
       · have:=ih _ _ h;exact ⟨by simp only [List.all_cons,Bool.and_eq_true];exact ⟨isDig_iff.2 hd,this.1⟩,this.2⟩
   · cases h
theorem zcw {c:UInt8} {k:Nat} (hk:k < 256):c.toNat=k ↔ c=UInt8.ofNat k:=by
 constructor
 · intro h;apply UInt8.toNat_inj.1;rw [h,UInt8.toNat_ofNat'];omega
 · intro h;rw [h,UInt8.toNat_ofNat'];omega
theorem c45 {c:UInt8}:c.toNat=45 ↔ c=45:=zcw (by omega)
theorem je {l:List UInt8} (h1:1≤(yp l).length) (h2:(yp l).length≤18) (h3:(yp l).all yF=true):Lib.parseIntB 64 l=.ok (xi l):=by
 cases l with
 | nil=>simp [yp] at h1
 | cons c r=>
   by_cases hc:c=45
   · have hb:yp (c :: r)=r:=by simp [yp,hc]
     rw [hb] at h1 h2 h3;have hp:=lh r 0 h3 (by have:=nL h2;omega);have hv:=pR h3 h2;have hr:r≠[]:=by intro e;subst e;simp at h1
     unfold Lib.parseIntB;simp only [c45,hc,or_true,if_true];unfold Lib.parseUintB;rw [if_neg hr,show (2 ^ 64 - 1:Nat)=18446744073709551615 from rfl,hp];simp only [];rw [if_neg (by simp),if_neg (by simp;omega)];simp [xi,sgn,yp]
   · have hb:yp (c :: r)=c :: r:=by simp [yp,hc]
     rw [hb] at h1 h2 h3;have hp:=lh (c :: r) 0 h3 (by have:=nL h2;omega);have hv:=pR h3 h2;have hd:yF c=true:=by simp only [List.all_cons,Bool.and_eq_true] at h3;exact h3.1
     have hd':=isDig_iff.1 hd;have hn:¬ (c.toNat=43∨c.toNat=45):=by omega
     have hn45:¬ c.toNat=45:=by omega
     unfold Lib.parseIntB;have hn43:¬ c.toNat=43:=by omega
     simp only [hn43,hn45,or_false,if_false];unfold Lib.parseUintB;rw [if_neg (by simp),show (2 ^ 64 - 1:Nat)=18446744073709551615 from rfl,hp];simp only [];rw [if_neg (by simp;omega),if_neg (by simp)];simp [xi,sgn,yp,hc]
theorem okN_iff {l:List UInt8}:okN l=true ↔ (1≤(yp l).length∧(yp l).length≤18∧(yp l).all yF=true∧Lib.itoa (xi l)=l):=by
 simp only [okN,Bool.and_eq_true,decide_eq_true_eq,and_assoc]
theorem zbo {l:List UInt8} (h:(yp l).all yF=true) (hl:(yp l).length≤18):-1000000000000000000 < xi l∧xi l < 1000000000000000000:=by
 have:=pR h hl;unfold xi;cases l with
 | nil=>simp [sgn,yp,xZ]
 | cons c r=>
   simp only [sgn];split <;> omega
theorem uL:∀ u:Nat,(Lib.decDigits u).all yF=true∧1≤(Lib.decDigits u).length:=by
 intro u
 induction u using Nat.strongRecOn with
 | ind u ih=>
   rw [Lib.decDigits];split
   · rename_i h;refine ⟨?_,by simp⟩;simp only [List.all_cons,List.all_nil,Bool.and_true];rw [isDig_iff,UInt8.toNat_ofNat'];omega
   · rename_i h;refine ⟨?_,by simp⟩;simp only [List.all_append,List.all_cons,List.all_nil,Bool.and_true,Bool.and_eq_true];refine ⟨(ih (u / 10) (by omega)).1,?_⟩;rw [isDig_iff,UInt8.toNat_ofNat'];omega
theorem ab (l m:List UInt8):∀ a,xZ (l ++ m) a=xZ m (xZ l a):=by
 induction l with
 | nil=>intro a;rfl
 | cons c r ih=>intro a;simp only [List.cons_append,xZ];exact ih _
theorem km:∀ u:Nat,xZ (Lib.decDigits u) 0=u:=by
 intro u
 induction u using Nat.strongRecOn with
 | ind u ih=>
   rw [Lib.decDigits];split
   · rename_i h;simp only [xZ,UInt8.toNat_ofNat'];omega
   · rename_i h;rw [ab,ih (u / 10) (by omega)];simp only [xZ,UInt8.toNat_ofNat'];omega
theorem lZ {l:List UInt8} (h:l.all yF=true):yp l=l:=by
 cases l with
 | nil=>rfl
 | cons c r=>
   simp only [List.all_cons,Bool.and_eq_true] at h;have:=isDig_iff.1 h.1;have hc:¬ c=45:=fun e=>by have:=c45.2 e;omega
   simp [yp,hc]
theorem zbw {l:List UInt8} (h:l.all yF=true) (n:Nat):sgn l n=n:=by
 cases l with
 | nil=>rfl
 | cons c r=>
   simp only [List.all_cons,Bool.and_eq_true] at h;have:=isDig_iff.1 h.1;have hc:¬ c=45:=fun e=>by have:=c45.2 e;omega
   simp [sgn,hc]
theorem xr (v:Int):yp (Lib.itoa v)=Lib.decDigits v.natAbs∧xi (Lib.itoa v)=v:=by
 have hd:=uL v.natAbs;by_cases h:v < 0
 · obtain ⟨u,hu⟩:∃ u:Nat,v = -(u:Int):=⟨v.natAbs,by omega⟩
   subst hu;have hu1:1≤u:=by omega
   rw [show (-(u:Int)).natAbs=u from by omega] at hd ⊢;rw [Lib.itoa_neg u hu1];refine ⟨by simp [yp],?_⟩;simp [xi,sgn,yp,km]
 · obtain ⟨u,hu⟩:∃ u:Nat,v=(u:Int):=⟨v.natAbs,by omega⟩
   subst hu;rw [show ((u:Int)).natAbs=u from by omega] at hd ⊢;rw [Lib.itoa_nonneg u];refine ⟨lZ hd.1,?_⟩;unfold xi;rw [zbw hd.1,lZ hd.1,km]
theorem vX {v:Int} (h0:-1000000000000000000 < v) (h1:v < 1000000000000000000):okN (Lib.itoa v)=true:=by
 have h:=xr v;have hd:=uL v.natAbs;rw [okN_iff,h.1,h.2];refine ⟨hd.2,?_,hd.1,rfl⟩;rw [Lib.decDigits_length];have key:∀ (k u:Nat),u < 10 ^ (k + 1)→Lib.nDigits u≤k + 1:=by
  intro k
  induction k with
  | zero=>intro u hu;rw [Lib.nDigits_small (by simpa using hu)];exact Nat.le_refl _
  | succ k ih=>
    intro u hu;by_cases hs:u < 10
    · rw [Lib.nDigits_small hs];omega
    · rw [Lib.nDigits_big hs];have:=ih (u / 10) (by rw [Nat.pow_succ] at hu;exact Nat.div_lt_of_lt_mul (by omega));omega
 exact key 17 _ (by simp;omega)
theorem pE {l:List UInt8} (h:∀ v,Lib.parseIntB 64 l≠.ok v):okN l=false:=by
 cases ho:okN l
 · rfl
 · obtain ⟨h1,h2,h3,_⟩:=okN_iff.1 ho;exact absurd (je h1 h2 h3) (h _)
theorem zbW {l:List UInt8} {v:Int} (h:Lib.parseIntB 64 l=.ok v) (hne:Lib.itoa v≠l):okN l=false:=by
 cases ho:okN l
 · rfl
 · obtain ⟨h1,h2,h3,h4⟩:=okN_iff.1 ho;rw [je h1 h2 h3] at h;injection h with h;rw [h] at h4;exact absurd h4 hne
theorem zbV {l:List UInt8} {v:Int} (hl:(yp l).length≤18) (he:Lib.itoa v=l):okN l=true∧xi l=v:=by
 have h:=xr v;rw [he] at h;refine ⟨?_,h.2⟩;have hd:=uL v.natAbs;rw [okN_iff,h.2];exact ⟨by rw [h.1];exact hd.2,hl,by rw [h.1];exact hd.1,he⟩
theorem qE {l:List UInt8} (h:18 < (yp l).length):okN l=false:=by
 cases ho:okN l
 · rfl
 · obtain ⟨_,h2,_⟩:=okN_iff.1 ho;omega
theorem bJ (l:List UInt8):l.length≤(yp l).length + 1:=by
 cases l with
 | nil=>simp [yp]
 | cons c r=>simp only [yp];split <;> simp
theorem zab {l:List UInt8} {v:Int} (hl:(yp l).length≤18) (h:Lib.parseIntB 64 l=.ok v):-1000000000000000000 < v∧v < 1000000000000000000:=by
 cases l with
 | nil=>simp [Lib.parseIntB] at h
 | cons c r=>
   unfold Lib.parseIntB at h;simp only [] at h;obtain ⟨t,ht⟩:=zN (if c.toNat=43∨c.toNat=45 then r else c :: r);rw [←ht] at h;have htl:t.length≤18:=by
    rw [ht];simp only [yp] at hl;split
    · split at hl
      · exact hl
      · simp at hl;omega
    · rename_i hn;rw [if_neg (fun e=>hn (.inr (c45.2 e)))] at hl;exact hl
   match hu:Lib.parseUintB 64 t with
   | Lib.NumEnd.syntax=>rw [hu] at h;cases h
   | .range=>rw [hu] at h;cases h
   | .ok u=>
     rw [hu] at h;unfold Lib.parseUintB at hu;split at hu
     · cases hu
     · have hd:=em t 0 u hu;have hb:=pR hd.1 htl;rw [←hd.2] at hb;simp only [] at h;split at h
       · cases h
       · split at h
         · cases h
         · injection h with h;rw [←h];split <;> omega
theorem bn (l:List UInt8):Lib.trimPrefix l [45]=yp l:=by
 cases l with
 | nil=>simp [Lib.trimPrefix,Lib.hasPrefix,yp]
 | cons c r=>
   simp only [Lib.trimPrefix,Lib.hasPrefix,yp,List.isPrefixOf,Bool.and_true,beq_iff_eq,eq_comm (a:=(45:UInt8))];split <;> simp
def wH (p:List UInt8):List (List UInt8)→List (List UInt8)
 | []=>[p]
 | h :: t=>(p ++ h) :: t
def spl (c:UInt8):List UInt8→List (List UInt8)
 | []=>[[]]
 | b :: l=>if b=c then [] :: spl c l else wH [b] (spl c l)
theorem dC (p q:List UInt8) (L:List (List UInt8)) (h:L≠[]):wH p (wH q L)=wH (p ++ q) L:=by
 cases L with
 | nil=>exact absurd rfl h
 | cons a t=>simp [wH]
theorem ua (c:UInt8) (l:List UInt8):spl c l≠[]:=by
 cases l with
 | nil=>simp [spl]
 | cons b r=>
   simp only [spl];split
   · simp
   · cases spl c r <;> simp [wH]
theorem rU (c:UInt8):∀ l:List UInt8,(spl c l).length=l.count c + 1:=by
 intro l
 induction l with
 | nil=>rfl
 | cons b r ih=>
   simp only [spl];split
   · rename_i h;subst h;simp [ih]
   · rename_i h;have hg:∀ L:List (List UInt8),L≠[]→(wH [b] L).length=L.length:=by intro L hL;cases L with | nil=>exact absurd rfl hL | cons a t=>simp [wH]
     rw [hg _ (ua c r),ih,List.count_cons_of_ne h]
theorem nT (c:UInt8):∀ (l:List UInt8),Lib.splitK [c] 0 (Lib.count l [c]) l=spl c l:=by
 intro l
 induction l with
 | nil=>simp [Lib.count_one,Lib.splitK,spl]
 | cons b r ih=>
   rw [Lib.count_one] at ih ⊢;simp only [spl];split
   · rename_i h;subst h;rw [List.count_cons_self];unfold Lib.splitK;rw [Lib.index_one];simp [Lib.indexByte,ih]
   · rename_i h;rw [List.count_cons_of_ne h];cases hk:r.count c with
     | zero=>
       rw [hk] at ih;rw [←ih];simp [Lib.splitK,wH]
     | succ k=>
       rw [hk] at ih;rw [←ih];have hb:(b == c)=false:=by simpa using h
       unfold Lib.splitK;rw [Lib.index_one,Lib.index_one];have hr:Lib.indexByte (b :: r) c=if Lib.indexByte r c == -1 then -1 else Lib.indexByte r c + 1:=by
        rw [Lib.indexByte,hb];rfl
       rw [hr];by_cases hm:Lib.indexByte r c = -1
       · simp [hm,wH]
       · have hge:=Lib.indexByte_ge r c;obtain ⟨i,hi⟩:∃ i:Nat,Lib.indexByte r c=i:=⟨(Lib.indexByte r c).toNat,by omega⟩
         have h1:¬ ((i:Int) = -1):=by omega
         have h2:¬ ((i:Int) + 1 = -1):=by omega
         have h3:((i:Int) + 1).toNat=i + 1:=by omega
         simp [hi,h1,h2,h3,wH]
theorem zam {c:UInt8} {l x y z w:List UInt8} (h:spl c l=[x,y,z,w]):l=x ++ c :: (y ++ c :: (z ++ c :: w)):=by
 have join:∀ l:List UInt8,∀ L,spl c l=L→l=[c].intercalate L:=by
  intro l
  induction l with
  | nil=>intro L h;subst h;simp [spl,List.intercalate]
  | cons b r ih=>
    intro L h;have hr:=ih _ rfl;simp only [spl] at h;split at h
    · rename_i hb;subst h hb;cases hs:spl b r with
      | nil=>exact absurd hs (ua b r)
      | cons a t=>
        rw [hs] at hr;rw [hr];simp [List.intercalate]
    · subst h;cases hs:spl c r with
      | nil=>exact absurd hs (ua c r)
      | cons a t=>
        rw [hs] at hr;rw [hr];cases t <;> simp [List.intercalate,wH]
 have:=join l _ h;rw [this];simp [List.intercalate]
def zq (s:ByteArray):Int:=if okN s.data.toList=true then xi s.data.toList else 0
theorem wy {s:ByteArray} (h:okN s.data.toList=false):zq s=0:=by unfold zq;rw [h];rfl
theorem xc {s:ByteArray} (h:okN s.data.toList=true):zq s=xi s.data.toList:=by unfold zq;rw [h];rfl
theorem rR (s:ByteArray):-1000000000000000000 < zq s∧zq s < 1000000000000000000:=by
 cases h:okN s.data.toList
 · rw [wy h];omega
 · rw [xc h];exact zbo (okN_iff.1 h).2.2.1 (okN_iff.1 h).2.1
theorem ld {l:List UInt8} (h:(yp l).length < 1):okN l=false:=by
 cases ho:okN l
 · rfl
 · obtain ⟨h2,_⟩:=okN_iff.1 ho;omega
theorem gM {l:List UInt8} (h:(yp l).all yF=false):okN l=false:=by
 cases ho:okN l
 · rfl
 · rw [(okN_iff.1 ho).2.2.1] at h;exact absurd h (by simp)
theorem jb {l:List UInt8} (h1:1≤(yp l).length) (h2:(yp l).length≤18) (h3:(yp l).all yF=true):okN l=decide (Lib.itoa (xi l)=l):=by
 unfold okN;rw [decide_eq_true h1,decide_eq_true h2,h3,Bool.true_and,Bool.true_and,Bool.true_and]
theorem jf {v k d:Nat} (h:v + 1≤10 ^ k) (hd:d≤9) (hk:k < 18):10 * v + d + 1≤10 ^ (k + 1)∧10 * v + d < 1000000000000000000:=by
 have h1:10 ^ (k + 1)=10 * 10 ^ k:=by rw [Nat.pow_succ,Nat.mul_comm]
 have h2:=nL (k:=k + 1) (by omega);omega
theorem mH {t:ByteArray} {k:Nat} (h:k < t.size) (v:Nat):xZ (t.data.toList.drop k) v=xZ (t.data.toList.drop (k + 1)) (10 * v + (t[k].toNat - 48)):=by
 rw [yY (xU h)];simp only [xZ];rw [Nat.mul_comm]
theorem lX {t:ByteArray} {k:Nat} (h:k < t.size):(t.data.toList.drop k).all yF=(yF t[k] && (t.data.toList.drop (k + 1)).all yF):=by rw [yY (xU h),List.all_cons]
theorem zaT {s:ByteArray} (h:0 < s.size) (h45:¬ s[0].toNat=45):s.data.toList=yp s.data.toList∧∀ n,sgn s.data.toList n=n:=by
 have e0:s.data.toList=s[0] :: s.data.toList.drop 1:=by have:=yY (xU h);simpa using this
 have hc:¬ s[0]=45:=fun e=>h45 (c45.2 e);rw [e0];exact ⟨by simp [yp,hc],by intro n;simp [sgn,hc]⟩
theorem bK {s:ByteArray} (h:0 < s.size) (h45:s[0].toNat=45):(s.extract 1 s.size).data.toList=yp s.data.toList∧∀ n,sgn s.data.toList n = -(n:Int):=by
 have e0:s.data.toList=s[0] :: s.data.toList.drop 1:=by have:=yY (xU h);simpa using this
 have hc:s[0]=45:=c45.1 h45;have e1:(s.extract 1 s.size).data.toList=s.data.toList.drop 1:=by
  rw [ByteArray.data_extract,Array.toList_extract];simp [List.take_of_length_le]
 rw [e1];generalize s.data.toList.drop 1=r at e0;rw [e0];exact ⟨by simp [yp,hc],by intro n;simp [sgn,hc]⟩
theorem xl (s:ByteArray) (hs:s.size≤9223372036854775807) (w:World):Calls Tryz.prog 156 #[.string s] w (RetT #[.int .i64 (zq s),.bool (okN s.data.toList)] w):=by
 by_cases h0:s.size=0
 · have he:(s.toList == [])=true:=by rw [rn];simp only [h0];rfl
   have hnil:s.data.toList=[]:=List.eq_nil_of_length_eq_zero (by rw [zv];exact h0);have HO:=qH (show okN s.data.toList=false by rw [hnil];rfl);clear hnil;have hd1:(s.size:Int) < 1:=by omega
   go_enter Tryz.func156,Tryz.ntmps156;go_wp2_with fail;go_returns;exact RetT.mk (by rw [wy HO.out,HO.out];rfl) (Below.refl _ _)
 have he:(s.toList == [])=false:=by rw [rn];exact decide_eq_false h0
 have hp:0 < s.size:=by omega
 clear h0;by_cases h45:s[0].toNat=45
 · obtain ⟨hbt,hsg⟩:=bK hp h45;have hq:(s[0].toNat:Int)=45:=by omega
   have hsz:(s.extract 1 s.size).size < s.size:=by simp;omega
   obtain ⟨t,ht⟩:∃ t,s.extract 1 s.size=t:=⟨_,rfl⟩
   rw [ht] at hbt hsz;go_enter Tryz.func156,Tryz.ntmps156;have hts:t.size=(yp s.data.toList).length:=by rw [←zv];exact congrArg List.length hbt
   by_cases hl1:t.size < 1
   · have HO:=qH (ld (l:=s.data.toList) (by omega));clear hbt hsg hts;go_wp2_with fail
     all_goals
      go_returns;exact RetT.mk (by rw [wy HO.out,HO.out];rfl) (Below.refl _ _)
   have hl1':1≤(t.size:Int):=by omega
   have hdl:decide ((t.size:Int) < 1)=false:=decide_eq_false (by omega);by_cases hl2:18 < (t.size:Int)
   · have HO:=qH (qE (l:=s.data.toList) (by omega));clear hbt hsg hts;go_wp2_with fail
     all_goals
      go_returns;exact RetT.mk (by rw [wy HO.out,HO.out];rfl) (Below.refl _ _)
   have hl2':(t.size:Int)≤18:=by omega
   have HB:=qH hbt;have HG:=qH hsg;have HTS:=qH hts;have hR:=qH (show xZ (yp s.data.toList) 0=xZ (t.data.toList.drop 0) 0 by rw [List.drop_zero];exact congrArg (xZ · 0) hbt.symm);have hD:=qH (show (yp s.data.toList).all yF=(t.data.toList.drop 0).all yF by rw [List.drop_zero];exact congrArg (List.all · yF) hbt.symm);clear hbt hsg hts;go_wp2_with fail
   go_loop [5,6] (fun n i=>∃ (k v:Nat),k≤t.size∧i=.int .i64 k∧n=.int .i64 v∧v < 1000000000000000000∧Hid (v + 1≤10 ^ k)∧Hid (xZ (yp s.data.toList) 0=xZ (t.data.toList.drop k) v)∧Hid ((yp s.data.toList).all yF=(t.data.toList.drop k).all yF)) (fun _ i=>t.size - (intOf i).toNat)
   case atStart=>exact ⟨0,0,by omega,rfl,rfl,by omega,qH (by simp),hR,hD⟩
   case round=>
    clear hR hD;obtain ⟨k,v,hk,rfl,rfl,hv,hP,hR,hD⟩:=hrel;by_cases hlt:k < t.size
    · have hR2:=qH (hR.out.trans (mH hlt v));have hD2:=qH (hD.out.trans (lX hlt));clear hR hD;cases hd:sl t[k]
      · have HO:=qH (gM (l:=s.data.toList) (by rw [hD2.out,show yF t[k]=sl t[k] from rfl,hd,Bool.false_and]));go_wp2_with (go_at_call 218;refine (wM _ _).mono ?_;rintro e w' ⟨rfl,rfl⟩)
        go_returns;exact RetT.mk (by rw [wy HO.out,HO.out];rfl) (Below.refl _ _)
      · have hd2:=isDig_iff.1 (show yF t[k]=true from hd);have hD3:=qH (hD2.out.trans (by rw [show yF t[k]=sl t[k] from rfl,hd,Bool.true_and]));have hst:=jf (d:=t[k].toNat - 48) hP.out (by omega) (by omega);have HP2:=qH hst.1;have hb2:=hst.2;have hb3:(10:Int) * v + ((t[k].toNat:Int) - 48) < 1000000000000000000:=by omega
        have hd48:48≤(t[k].toNat:Int):=by omega
        have hd57:(t[k].toNat:Int)≤57:=by omega
        clear hD2 hP hst;go_wp2_with (go_at_call 218;refine (wM _ _).mono ?_;rintro e w' ⟨rfl,rfl⟩)
        exact ⟨⟨k + 1,10 * v + (t[k].toNat - 48),by omega,by go_num,vi (by omega),hb2,HP2,hR2,hD3⟩,by simp [intOf];omega⟩
    · have hkt:k=t.size:=by omega
      have HV:=qH (hR.out.trans (by rw [List.drop_eq_nil_of_le (by rw [zv];omega)];rfl:_=v));have HA:=qH (hD.out.trans (by rw [List.drop_eq_nil_of_le (by rw [zv];omega)];rfl:_=true));have HN:=qH (show xi s.data.toList = -(v:Int) by unfold xi;rw [HG.out,HV.out]);have HL:=qH (jb (l:=s.data.toList) (by rw [←HTS.out];omega) (by rw [←HTS.out];omega) HA.out);clear hR hD hP;go_wp2_with fail;refine qS (xf _ (by omega) (by omega) _) fun W hb=>?_;obtain ⟨u,hu⟩:∃ u:Int,u = -(v:Int):=⟨_,rfl⟩
      have hN2:=HN.out;rw [←hu] at hN2 ⊢;have hL2:=HL.out;rw [hN2] at hL2;clear hu HN HL;have hbq:((zm u).toList == s.toList)=decide (Lib.itoa u=s.data.toList):=by
       rw [yJ,Bool.eq_iff_iff,decide_eq_true_eq,decide_eq_true_eq];constructor
       · intro h;rw [←h];rfl
       · intro h;unfold zm;rw [h]
      have HL:=qH (hL2.trans hbq.symm);have HN:=qH hN2;clear hL2 hbq hN2;cases hq2:((zm u).toList == s.toList)
      · have HO:=qH (HL.out.trans hq2);go_wp2_with fail;go_returns;exact RetT.mk (by rw [wy HO.out,HO.out];rfl) hb
      · have HO:=qH (HL.out.trans hq2);go_wp2_with fail;go_returns;exact RetT.mk (by rw [xc HO.out,HO.out,HN.out];rfl) hb
 · have hne:¬ (s[0].toNat:Int)=45:=by omega
   obtain ⟨hbt,hsg⟩:=zaT hp h45;have hne2:((s[0].toNat:Int) == 45)=false:=by simpa using hne
   clear h45;go_enter Tryz.func156,Tryz.ntmps156;have hts:s.size=(yp s.data.toList).length:=by rw [←zv];exact congrArg List.length hbt
   by_cases hl1:s.size < 1
   · have HO:=qH (ld (l:=s.data.toList) (by omega));clear hbt hsg hts;go_wp2_with fail
     all_goals
      go_returns;exact RetT.mk (by rw [wy HO.out,HO.out];rfl) (Below.refl _ _)
   have hl1':1≤(s.size:Int):=by omega
   have hdl:decide ((s.size:Int) < 1)=false:=decide_eq_false (by omega);by_cases hl2:18 < (s.size:Int)
   · have HO:=qH (qE (l:=s.data.toList) (by omega));clear hbt hsg hts;go_wp2_with fail
     all_goals
      go_returns;exact RetT.mk (by rw [wy HO.out,HO.out];rfl) (Below.refl _ _)
   have hl2':(s.size:Int)≤18:=by omega
   have HB:=qH hbt;have HG:=qH hsg;have HTS:=qH hts;have hR:=qH (show xZ (yp s.data.toList) 0=xZ (s.data.toList.drop 0) 0 by rw [List.drop_zero];exact congrArg (xZ · 0) hbt.symm);have hD:=qH (show (yp s.data.toList).all yF=(s.data.toList.drop 0).all yF by rw [List.drop_zero];exact congrArg (List.all · yF) hbt.symm);clear hbt hsg hts;go_wp2_with fail
   go_loop [5,6] (fun n i=>∃ (k v:Nat),k≤s.size∧i=.int .i64 k∧n=.int .i64 v∧v < 1000000000000000000∧Hid (v + 1≤10 ^ k)∧Hid (xZ (yp s.data.toList) 0=xZ (s.data.toList.drop k) v)∧Hid ((yp s.data.toList).all yF=(s.data.toList.drop k).all yF)) (fun _ i=>s.size - (intOf i).toNat)
   case atStart=>exact ⟨0,0,by omega,rfl,rfl,by omega,qH (by simp),hR,hD⟩
   case round=>
    clear hR hD;obtain ⟨k,v,hk,rfl,rfl,hv,hP,hR,hD⟩:=hrel;by_cases hlt:k < s.size
    · have hR2:=qH (hR.out.trans (mH hlt v));have hD2:=qH (hD.out.trans (lX hlt));clear hR hD;cases hd:sl s[k]
      · have HO:=qH (gM (l:=s.data.toList) (by rw [hD2.out,show yF s[k]=sl s[k] from rfl,hd,Bool.false_and]));go_wp2_with (go_at_call 218;refine (wM _ _).mono ?_;rintro e w' ⟨rfl,rfl⟩)
        go_returns;exact RetT.mk (by rw [wy HO.out,HO.out];rfl) (Below.refl _ _)
      · have hd2:=isDig_iff.1 (show yF s[k]=true from hd);have hD3:=qH (hD2.out.trans (by rw [show yF s[k]=sl s[k] from rfl,hd,Bool.true_and]));have hst:=jf (d:=s[k].toNat - 48) hP.out (by omega) (by omega);have HP2:=qH hst.1;have hb2:=hst.2;have hb3:(10:Int) * v + ((s[k].toNat:Int) - 48) < 1000000000000000000:=by omega
        have hd48:48≤(s[k].toNat:Int):=by omega
        have hd57:(s[k].toNat:Int)≤57:=by omega
        clear hD2 hP hst;go_wp2_with (go_at_call 218;refine (wM _ _).mono ?_;rintro e w' ⟨rfl,rfl⟩)
        exact ⟨⟨k + 1,10 * v + (s[k].toNat - 48),by omega,by go_num,vi (by omega),hb2,HP2,hR2,hD3⟩,by simp [intOf];omega⟩
    · have hkt:k=s.size:=by omega
      have HV:=qH (hR.out.trans (by rw [List.drop_eq_nil_of_le (by rw [zv];omega)];rfl:_=v));have HA:=qH (hD.out.trans (by rw [List.drop_eq_nil_of_le (by rw [zv];omega)];rfl:_=true));have HN:=qH (show xi s.data.toList=(v:Int) by unfold xi;rw [HG.out,HV.out]);have HL:=qH (jb (l:=s.data.toList) (by rw [←HTS.out];omega) (by rw [←HTS.out];omega) HA.out);clear hR hD hP;go_wp2_with fail;refine qS (xf _ (by omega) (by omega) _) fun W hb=>?_;obtain ⟨u,hu⟩:∃ u:Int,u=(v:Int):=⟨_,rfl⟩
      have hN2:=HN.out;rw [←hu] at hN2 ⊢;have hL2:=HL.out;rw [hN2] at hL2;clear hu HN HL;have hbq:((zm u).toList == s.toList)=decide (Lib.itoa u=s.data.toList):=by
       rw [yJ,Bool.eq_iff_iff,decide_eq_true_eq,decide_eq_true_eq];constructor
       · intro h;rw [←h];rfl
       · intro h;unfold zm;rw [h]
      have HL:=qH (hL2.trans hbq.symm);have HN:=qH hN2;clear hL2 hbq hN2;cases hq2:((zm u).toList == s.toList)
      · have HO:=qH (HL.out.trans hq2);go_wp2_with fail;go_returns;exact RetT.mk (by rw [wy HO.out,HO.out];rfl) hb
      · have HO:=qH (HL.out.trans hq2);go_wp2_with fail;go_returns;exact RetT.mk (by rw [xc HO.out,HO.out,HN.out];rfl) hb
theorem jD {w w':World} {t:TypeId} (h:w'=w∨∃ k,w'=Lib.bytesWorld w t k):Below w.heap.size w w':=by
 rcases h with rfl | ⟨k,rfl⟩
 · exact Below.refl _ _
 · exact Lib.bytesWorld_below _ _ _
theorem xO (s:ByteArray) (hs:s.size≤281474976710656) (w:World) (hT:Tabs w):Calls Tryz.prog 33 #[.string s] w (RetT #[.int .i64 (zq s),.bool (okN s.data.toList)] w):=by
 have HT:=qH hT;clear hT;have hbl:=bJ s.data.toList;rw [zv] at hbl;by_cases h19:19 < (s.size:Int)
 · have HO:=qH (qE (l:=s.data.toList) (by omega));clear hbl;go_enter Tryz.func33,Tryz.ntmps33;go_wp2_with fail;go_returns;exact RetT.mk (by rw [wy HO.out,HO.out];rfl) (Below.refl _ _)
 have hd19:decide (19 < (s.size:Int))=false:=decide_eq_false h19;obtain ⟨t,ht⟩:∃ t:ByteArray,t=⟨(yp s.data.toList).toArray⟩:=⟨_,rfl⟩
 have hTr:=fun (w:World)=>Tryz.strings_TrimPrefix s ⟨#[45]⟩ w;rw [show (ByteArray.mk #[45]).data.toList=[45] from rfl,bn,←ht] at hTr;have hts:t.size=(yp s.data.toList).length:=by rw [ht];simp [ByteArray.size]
 replace hTr:=qH hTr;clear ht;by_cases h18:18 < (t.size:Int)
 · have HO:=qH (qE (l:=s.data.toList) (by omega));clear hbl hts;go_enter Tryz.func33,Tryz.ntmps33;go_wp2_with (go_at_call 66;refine (hTr.out _).mono ?_;rintro e w' ⟨rfl,rfl⟩)
   go_returns;exact RetT.mk (by rw [wy HO.out,HO.out];rfl) (Below.refl _ _)
 have hd18:decide (18 < (t.size:Int))=false:=decide_eq_false h18;have HL:=qH (show (yp s.data.toList).length≤18 by omega);clear hbl hts;obtain ⟨evs,hes,hes2⟩:=HT.out.syn;obtain ⟨evr,her,her2⟩:=HT.out.rng;match hp:Lib.parseIntB 64 s.data.toList with
 | Lib.NumEnd.syntax=>
   have HO:=qH (pE (l:=s.data.toList) (by intro v;rw [hp];intro h;cases h));have hPI:=qH (Tryz.strconv_ParseInt_10_at64_syntax s hs hp evs w hes hes2);clear hp hes hes2 her her2;go_enter Tryz.func33,Tryz.ntmps33;go_wp2_with (go_at_call 66;refine (hTr.out _).mono ?_;rintro e w' ⟨rfl,rfl⟩)
   refine hPI.out.mono ?_;rintro e W ⟨N,rfl,_,_,hb⟩;go_wp2_with fail;go_returns;exact RetT.mk (by rw [wy HO.out,HO.out];rfl) hb
 | .range=>
   have HO:=qH (pE (l:=s.data.toList) (by intro v;rw [hp];intro h;cases h));have hPI:=qH (Tryz.strconv_ParseInt_10_at64_range s hs hp evr w her her2);clear hp hes hes2 her her2;go_enter Tryz.func33,Tryz.ntmps33;go_wp2_with (go_at_call 66;refine (hTr.out _).mono ?_;rintro e w' ⟨rfl,rfl⟩)
   refine hPI.out.mono ?_;rintro e W ⟨N,rfl,_,_,hb⟩;go_wp2_with fail;go_returns;exact RetT.mk (by rw [wy HO.out,HO.out];rfl) hb
 | .ok v=>
   have hvb:=zab HL.out hp;have hv0:=hvb.1;have hv1:=hvb.2;clear hvb;have hPI:=qH (Tryz.strconv_ParseInt_10_at64_ok s (by omega) v hp w);have hbq:((zm v).toList == s.toList)=decide (Lib.itoa v=s.data.toList):=by
    rw [yJ,Bool.eq_iff_iff,decide_eq_true_eq,decide_eq_true_eq];constructor
    · intro h;rw [←h];rfl
    · intro h;unfold zm;rw [h]
   have HB:=qH hbq;have HP:=qH hp;clear hp hbq hes hes2 her her2;go_enter Tryz.func33,Tryz.ntmps33;go_wp2_with (go_at_call 66;refine (hTr.out _).mono ?_;rintro e w' ⟨rfl,rfl⟩)
   refine qS hPI.out fun W hW=>?_;have hb:=jD hW;clear hW;go_wp2_with fail;refine qS (xo v (by omega) (by omega) _ (HT.out.below hb).pow) fun W2 hb2=>?_;replace hb:=za hb hb2;clear hb2;cases hq2:((zm v).toList == s.toList)
   · have HO:=qH (zbW HP.out (of_decide_eq_false (HB.out.symm.trans hq2)));go_wp2_with fail;go_returns;exact RetT.mk (by rw [wy HO.out,HO.out];rfl) hb
   · have HO:=qH (zbV HL.out (of_decide_eq_true (HB.out.symm.trans hq2)));go_wp2_with fail;go_returns;exact RetT.mk (by rw [xc HO.out.1,HO.out.1,HO.out.2];rfl) hb
def yX (x:Entry):Bool:=inB x.day 0 100000 && zo x.what && inB x.value (-1000000) 1000000
theorem qA (n:Int) (w:World):Calls Tryz.prog 269 #[.int .i64 n] w (RetQ (.bool (inB n 0 100000)) w):=by
 go_enter Tryz.func269,Tryz.ntmps269;go_wp2_with (go_at_call 155;refine (xJ _ _ _ _).mono ?_;rintro e w' ⟨rfl,rfl⟩)
 go_returns;exact RetQ.mk rfl
theorem pa (x:Entry) (hs:x.what.size≤9223372036854775807) (w:World) :
 Calls Tryz.prog 211 #[.agg #[.int .i64 x.day,.string x.what,.int .i64 x.value]] w (Ret (.bool (yX x)) w):=by
 cases h1:inB x.day 0 100000
 · go_enter Tryz.func211,Tryz.ntmps211;go_wp2_with (first | (go_at_call 118;refine (xD _ hs _).mono ?_;rintro e w' ⟨rfl,rfl⟩) | (go_at_call 68;refine (xu _ _ _ _).mono ?_;rintro e w' ⟨rfl,rfl⟩))
   all_goals first | (exfalso;omega) | (go_returns;refine Ret.mk (vb ?_) (by go_grown);simp [yX,h1])
 cases h2:zo x.what
 · go_enter Tryz.func211,Tryz.ntmps211;go_wp2_with (first | (go_at_call 118;refine (xD _ hs _).mono ?_;rintro e w' ⟨rfl,rfl⟩) | (go_at_call 68;refine (xu _ _ _ _).mono ?_;rintro e w' ⟨rfl,rfl⟩))
   all_goals first | (exfalso;omega) | (go_returns;refine Ret.mk (vb ?_) (by go_grown);simp [yX,h1,h2])
 cases h3:inB x.value (-1000000) 1000000
 · go_enter Tryz.func211,Tryz.ntmps211;go_wp2_with (first | (go_at_call 118;refine (xD _ hs _).mono ?_;rintro e w' ⟨rfl,rfl⟩) | (go_at_call 68;refine (xu _ _ _ _).mono ?_;rintro e w' ⟨rfl,rfl⟩))
   all_goals first | (exfalso;omega) | (go_returns;refine Ret.mk (vb ?_) (by go_grown);simp [yX,h1,h2,h3])
 go_enter Tryz.func211,Tryz.ntmps211;go_wp2_with (first | (go_at_call 118;refine (xD _ hs _).mono ?_;rintro e w' ⟨rfl,rfl⟩) | (go_at_call 68;refine (xu _ _ _ _).mono ?_;rintro e w' ⟨rfl,rfl⟩))
 all_goals first | (exfalso;omega) | (go_returns;refine Ret.mk (vb ?_) (by go_grown);simp [yX,h1,h2,h3])
theorem mr (g:Addr) (x:Entry) (hs:x.what.size≤9223372036854775807) (w:World) (c0:w.cell? g=some (.int .i64 x.day)) (c1:w.cell? ⟨g.block,g.off + 1,none⟩=some (.string x.what)) (c2:w.cell? ⟨g.block,g.off + 2,none⟩=some (.int .i64 x.value)) :
 Calls Tryz.prog 229 #[.pointer (some g)] w (RetQ (.bool (yX x)) w):=by
 cases h1:inB x.day 0 100000
 · go_enter Tryz.func229,Tryz.ntmps229;go_wp2_with (first | (go_at_call 153;refine (xn _ hs _).mono ?_;rintro e w' ⟨rfl,rfl⟩) | (go_at_call 155;refine (xJ _ _ _ _).mono ?_;rintro e w' ⟨rfl,rfl⟩) | (go_at_call 269;refine (qA _ _).mono ?_;rintro e w' ⟨rfl,rfl⟩))
   all_goals first | (exfalso;omega) | (go_returns;refine RetQ.mk (vb ?_);simp [yX,h1])
 cases h2:zo x.what
 · go_enter Tryz.func229,Tryz.ntmps229;go_wp2_with (first | (go_at_call 153;refine (xn _ hs _).mono ?_;rintro e w' ⟨rfl,rfl⟩) | (go_at_call 155;refine (xJ _ _ _ _).mono ?_;rintro e w' ⟨rfl,rfl⟩) | (go_at_call 269;refine (qA _ _).mono ?_;rintro e w' ⟨rfl,rfl⟩))
   all_goals first | (exfalso;omega) | (go_returns;refine RetQ.mk (vb ?_);simp [yX,h1,h2])
 cases h3:inB x.value (-1000000) 1000000
 · go_enter Tryz.func229,Tryz.ntmps229;go_wp2_with (first | (go_at_call 153;refine (xn _ hs _).mono ?_;rintro e w' ⟨rfl,rfl⟩) | (go_at_call 155;refine (xJ _ _ _ _).mono ?_;rintro e w' ⟨rfl,rfl⟩) | (go_at_call 269;refine (qA _ _).mono ?_;rintro e w' ⟨rfl,rfl⟩))
   all_goals first | (exfalso;omega) | (go_returns;refine RetQ.mk (vb ?_);simp [yX,h1,h2,h3])
 go_enter Tryz.func229,Tryz.ntmps229;go_wp2_with (first | (go_at_call 153;refine (xn _ hs _).mono ?_;rintro e w' ⟨rfl,rfl⟩) | (go_at_call 155;refine (xJ _ _ _ _).mono ?_;rintro e w' ⟨rfl,rfl⟩) | (go_at_call 269;refine (qA _ _).mono ?_;rintro e w' ⟨rfl,rfl⟩))
 all_goals first | (exfalso;omega) | (go_returns;refine RetQ.mk (vb ?_);simp [yX,h1,h2,h3])
end Go.Proofs.YtpiehlfffjhoaaaGreatDoor
