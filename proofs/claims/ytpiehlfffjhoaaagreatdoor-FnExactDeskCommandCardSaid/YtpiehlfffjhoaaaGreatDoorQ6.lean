/- Lemmas for the law on the console: the parts RdP,RdS,RdA,EntA. -/
import Derived.Test.YtpiehlfffjhoaaaGreatDoorQ3
namespace Go.Proofs.YtpiehlfffjhoaaaGreatDoor
open Go.RowKit Go.Proofs.Tryz
set_option maxRecDepth 100000
set_option maxHeartbeats 2000000
def yG(b:UInt8):Bool:=decide (48<=b.toNat) && decide (b.toNat<=57)
def wa:List UInt8->Nat->Nat
 | [],a=>a
 | c :: r,a=>wa r (a * 10 + (c.toNat - 48))
def yo:List UInt8->List UInt8
 | []=>[]
 | c :: r=>if c=45 then r else c :: r
def sgn:List UInt8->Nat->Int
 | [],n=>n
 | c :: _,n=>if c=45 then -(n:Int) else n
def xk(l:List UInt8):Int:=sgn l (wa (yo l) 0)
def okN(l:List UInt8):Bool:=decide (1<=(yo l).length) && decide ((yo l).length<=18) && (yo l).all yG && decide (Lib.itoa (xk l)=l)
theorem isDig_iff{b:UInt8}:yG b=true ↔ 48<=b.toNat/\b.toNat<=57:=by simp [yG]
theorem zch:∀ (l:List UInt8) (a:Nat),l.all yG=true->wa l a + 1<=(a + 1) * 10 ^ l.length:=by
 intro l
 induction l with
 | nil=>intro a _;simp [wa]
 | cons c r ih=>
   intro a h;simp only [List.all_cons,Bool.and_eq_true] at h;have hd:=isDig_iff.1 h.1;have h1:=ih (a * 10 + (c.toNat - 48)) h.2;have h2:(a * 10 + (c.toNat - 48) + 1) * 10 ^ r.length<=((a + 1) * 10) * 10 ^ r.length:=Nat.mul_le_mul_right _ (by omega);have h3:(a + 1) * 10 ^ (r.length + 1)=(a + 1) * 10 * 10 ^ r.length:=by rw [Nat.pow_succ,Nat.mul_comm (10 ^ r.length) 10,<-Nat.mul_assoc]
   simp only [wa,List.length_cons];omega
theorem mp{k:Nat}(h:k<=18):10 ^ k<=1000000000000000000:=by
 have:(10:Nat) ^ k<=10 ^ 18:=Nat.pow_le_pow_right (by omega) h;simpa using this
theorem oD{l:List UInt8}(h:l.all yG=true)(hl:l.length<=18):wa l 0 < 1000000000000000000:=by
 have h1:=zch l 0 h;have h2:=mp hl;omega
theorem lO:∀ (l:List UInt8) (a:Nat),l.all yG=true->(a + 1) * 10 ^ l.length<=1000000000000000000->Lib.parseUintM 18446744073709551615 a l=.ok (wa l a):=by
 intro l
 induction l with
 | nil=>intro a _ _;rfl
 | cons c r ih=>
   intro a h hb;simp only [List.all_cons,Bool.and_eq_true] at h;have hd:=isDig_iff.1 h.1;have e:(a + 1) * 10 ^ (c :: r).length=((a + 1) * 10) * 10 ^ r.length:=by rw [List.length_cons,Nat.pow_succ,Nat.mul_assoc,Nat.mul_comm (10 ^ r.length)]
   rw [e] at hb;have hp:1<=10 ^ r.length:=Nat.one_le_pow _ _ (by omega);have h2:(a + 1) * 10<=((a + 1) * 10) * 10 ^ r.length:=Nat.le_mul_of_pos_right _ hp;have h3:(a * 10 + (c.toNat - 48) + 1) * 10 ^ r.length<=((a + 1) * 10) * 10 ^ r.length:=Nat.mul_le_mul_right _ (by omega);unfold Lib.parseUintM;rw [if_pos hd,if_neg (by omega),if_neg (by omega)];exact ih _ h.2 (by omega)
theorem dK:∀ (l:List UInt8) (a u:Nat),Lib.parseUintM 18446744073709551615 a l=.ok u->l.all yG=true/\u=wa l a:=by
 intro l
 induction l with
 | nil=>intro a u h;simp only [Lib.parseUintM,Lib.NumEnd.ok.injEq] at h;exact ⟨rfl,h.symm⟩
 | cons c r ih=>
   intro a u h;unfold Lib.parseUintM at h;split at h
   · rename_i hd;split at h
     ·cases h
     · split at h
       ·cases h
       ·have:=ih _ _ h;exact ⟨by simp only [List.all_cons,Bool.and_eq_true];exact ⟨isDig_iff.2 hd,this.1⟩,this.2⟩
   ·cases h
theorem zdT{c:UInt8}{k:Nat}(hk:k < 256):c.toNat=k ↔ c=UInt8.ofNat k:=by
 constructor
 ·intro h;apply UInt8.toNat_inj.1;rw [h,UInt8.toNat_ofNat'];omega
 ·intro h;rw [h,UInt8.toNat_ofNat'];omega
theorem c45{c:UInt8}:c.toNat=45 ↔ c=45:=zdT (by omega)
theorem jR{l:List UInt8}(h1:1<=(yo l).length)(h2:(yo l).length<=18)(h3:(yo l).all yG=true):Lib.parseIntB 64 l=.ok (xk l):=by
 cases l with
 | nil=>simp [yo] at h1
 | cons c r=>
   by_cases hc:c=45
   · have hb:yo (c :: r)=r:=by simp [yo,hc]
     rw [hb] at h1 h2 h3;have hp:=lO r 0 h3 (by have:=mp h2;omega);have hv:=oD h3 h2;have hr:r≠[]:=by intro e;subst e;simp at h1
     unfold Lib.parseIntB;simp only [c45,hc,or_true,if_true];unfold Lib.parseUintB;rw [if_neg hr,show (2 ^ 64 - 1:Nat)=18446744073709551615 from rfl,hp];simp only [];rw [if_neg (by simp),if_neg (by simp;omega)];simp [xk,sgn,yo]
   · have hb:yo (c :: r)=c :: r:=by simp [yo,hc]
     rw [hb] at h1 h2 h3;have hp:=lO (c :: r) 0 h3 (by have:=mp h2;omega);have hv:=oD h3 h2;have hd:yG c=true:=by simp only [List.all_cons,Bool.and_eq_true] at h3;exact h3.1
     have hd':=isDig_iff.1 hd;have hn:¬ (c.toNat=43\/c.toNat=45):=by omega
     have hn45:¬ c.toNat=45:=by omega
     unfold Lib.parseIntB;have hn43:¬ c.toNat=43:=by omega
     simp only [hn43,hn45,or_false,if_false];unfold Lib.parseUintB;rw [if_neg (by simp),show (2 ^ 64 - 1:Nat)=18446744073709551615 from rfl,hp];simp only [];rw [if_neg (by simp;omega),if_neg (by simp)];simp [xk,sgn,yo,hc]
theorem okN_iff{l:List UInt8}:okN l=true ↔ (1<=(yo l).length/\(yo l).length<=18/\(yo l).all yG=true/\Lib.itoa (xk l)=l):=by
 simp only [okN,Bool.and_eq_true,decide_eq_true_eq,and_assoc]
theorem zcD{l:List UInt8}(h:(yo l).all yG=true)(hl:(yo l).length<=18):-1000000000000000000 < xk l/\xk l < 1000000000000000000:=by
 have:=oD h hl;unfold xk;cases l with
 | nil=>simp [sgn,yo,wa]
 | cons c r=>
   simp only [sgn];split <;> omega
theorem uY:∀ u:Nat,(Lib.decDigits u).all yG=true/\1<=(Lib.decDigits u).length:=by
 intro u
 induction u using Nat.strongRecOn with
 | ind u ih=>
   rw [Lib.decDigits];split
   ·rename_i h;refine ⟨?_,by simp⟩;simp only [List.all_cons,List.all_nil,Bool.and_true];rw [isDig_iff,UInt8.toNat_ofNat'];omega
   ·rename_i h;refine ⟨?_,by simp⟩;simp only [List.all_append,List.all_cons,List.all_nil,Bool.and_true,Bool.and_eq_true];refine ⟨(ih (u / 10) (by omega)).1,?_⟩;rw [isDig_iff,UInt8.toNat_ofNat'];omega
theorem zaE(l m:List UInt8):∀ a,wa (l ++ m) a=wa m (wa l a):=by
 induction l with
 | nil=>intro a;rfl
 | cons c r ih=>intro a;simp only [List.cons_append,wa];exact ih _
theorem kY:∀ u:Nat,wa (Lib.decDigits u) 0=u:=by
 intro u
 induction u using Nat.strongRecOn with
 | ind u ih=>
   rw [Lib.decDigits];split
   ·rename_i h;simp only [wa,UInt8.toNat_ofNat'];omega
   ·rename_i h;rw [zaE,ih (u / 10) (by omega)];simp only [wa,UInt8.toNat_ofNat'];omega
theorem kR{l:List UInt8}(h:l.all yG=true):yo l=l:=by
 cases l with
 | nil=>rfl
 | cons c r=>
   simp only [List.all_cons,Bool.and_eq_true] at h;have:=isDig_iff.1 h.1;have hc:¬ c=45:=fun e=>by have:=c45.2 e;omega
   simp [yo,hc]
theorem zcL{l:List UInt8}(h:l.all yG=true)(n:Nat):sgn l n=n:=by
 cases l with
 | nil=>rfl
 | cons c r=>
   simp only [List.all_cons,Bool.and_eq_true] at h;have:=isDig_iff.1 h.1;have hc:¬ c=45:=fun e=>by have:=c45.2 e;omega
   simp [sgn,hc]
theorem xr(v:Int):yo (Lib.itoa v)=Lib.decDigits v.natAbs/\xk (Lib.itoa v)=v:=by
 have hd:=uY v.natAbs;by_cases h:v < 0
 · obtain ⟨u,hu⟩:∃ u:Nat,v = -(u:Int):=⟨v.natAbs,by omega⟩
   subst hu;have hu1:1<=u:=by omega
   rw [show (-(u:Int)).natAbs=u from by omega] at hd |-;rw [Lib.itoa_neg u hu1];refine ⟨by simp [yo],?_⟩;simp [xk,sgn,yo,kY]
 · obtain ⟨u,hu⟩:∃ u:Nat,v=(u:Int):=⟨v.natAbs,by omega⟩
   subst hu;rw [show ((u:Int)).natAbs=u from by omega] at hd |-;rw [Lib.itoa_nonneg u];refine ⟨kR hd.1,?_⟩;unfold xk;rw [zcL hd.1,kR hd.1,kY]
theorem uf{v:Int}(h0:-1000000000000000000 < v)(h1:v < 1000000000000000000):okN (Lib.itoa v)=true:=by
 have h:=xr v;have hd:=uY v.natAbs;rw [okN_iff,h.1,h.2];refine ⟨hd.2,?_,hd.1,rfl⟩;rw [Lib.decDigits_length];have key:∀ (k u:Nat),u < 10 ^ (k + 1)->Lib.nDigits u<=k + 1:=by
  intro k
  induction k with
  | zero=>intro u hu;rw [Lib.nDigits_small (by simpa using hu)];exact Nat.le_refl _
  | succ k ih=>
    intro u hu;by_cases hs:u < 10
    ·rw [Lib.nDigits_small hs];omega
    ·rw [Lib.nDigits_big hs];have:=ih (u / 10) (by rw [Nat.pow_succ] at hu;exact Nat.div_lt_of_lt_mul (by omega));omega
 exact key 17 _ (by simp;omega)
theorem oe{l:List UInt8}(h:∀ v,Lib.parseIntB 64 l≠.ok v):okN l=false:=by
 cases ho:okN l
 ·rfl
 ·obtain ⟨h1,h2,h3,_⟩:=okN_iff.1 ho;exact absurd (jR h1 h2 h3) (h _)
theorem zdc{l:List UInt8}{v:Int}(h:Lib.parseIntB 64 l=.ok v)(hne:Lib.itoa v≠l):okN l=false:=by
 cases ho:okN l
 ·rfl
 ·obtain ⟨h1,h2,h3,h4⟩:=okN_iff.1 ho;rw [jR h1 h2 h3] at h;injection h with h;rw [h] at h4;exact absurd h4 hne
theorem zdb{l:List UInt8}{v:Int}(hl:(yo l).length<=18)(he:Lib.itoa v=l):okN l=true/\xk l=v:=by
 have h:=xr v;rw [he] at h;refine ⟨?_,h.2⟩;have hd:=uY v.natAbs;rw [okN_iff,h.2];exact ⟨by rw [h.1];exact hd.2,hl,by rw [h.1];exact hd.1,he⟩
theorem pf{l:List UInt8}(h:18 < (yo l).length):okN l=false:=by
 cases ho:okN l
 ·rfl
 ·obtain ⟨_,h2,_⟩:=okN_iff.1 ho;omega
theorem zam(l:List UInt8):l.length<=(yo l).length + 1:=by
 cases l with
 | nil=>simp [yo]
 | cons c r=>simp only [yo];split <;> simp
theorem zbm{l:List UInt8}{v:Int}(hl:(yo l).length<=18)(h:Lib.parseIntB 64 l=.ok v):-1000000000000000000 < v/\v < 1000000000000000000:=by
 cases l with
 | nil=>simp [Lib.parseIntB] at h
 | cons c r=>
   unfold Lib.parseIntB at h;simp only [] at h;obtain ⟨t,ht⟩:=zN (if c.toNat=43\/c.toNat=45 then r else c :: r);rw [<-ht] at h;have htl:t.length<=18:=by
    rw [ht];simp only [yo] at hl;split
    · split at hl
      ·exact hl
      ·simp at hl;omega
    ·rename_i hn;rw [if_neg (fun e=>hn (.inr (c45.2 e)))] at hl;exact hl
   match hu:Lib.parseUintB 64 t with
   | Lib.NumEnd.syntax=>rw [hu] at h;cases h
   | .range=>rw [hu] at h;cases h
   | .ok u=>
     rw [hu] at h;unfold Lib.parseUintB at hu;split at hu
     ·cases hu
     · have hd:=dK t 0 u hu;have hb:=oD hd.1 htl;rw [<-hd.2] at hb;simp only [] at h;split at h
       ·cases h
       · split at h
         ·cases h
         ·injection h with h;rw [<-h];split <;> omega
theorem aV(l:List UInt8):Lib.trimPrefix l [45]=yo l:=by
 cases l with
 | nil=>simp [Lib.trimPrefix,Lib.hasPrefix,yo]
 | cons c r=>
   simp only [Lib.trimPrefix,Lib.hasPrefix,yo,List.isPrefixOf,Bool.and_true,beq_iff_eq,eq_comm (a:=(45:UInt8))];split <;> simp
def wL(p:List UInt8):List (List UInt8)->List (List UInt8)
 | []=>[p]
 | h :: t=>(p ++ h) :: t
def spl(c:UInt8):List UInt8->List (List UInt8)
 | []=>[[]]
 | b :: l=>if b=c then [] :: spl c l else wL [b] (spl c l)
theorem bz(p q:List UInt8)(L:List (List UInt8))(h:L≠[]):wL p (wL q L)=wL (p ++ q) L:=by
 cases L with
 | nil=>exact absurd rfl h
 | cons a t=>simp [wL]
theorem uk(c:UInt8)(l:List UInt8):spl c l≠[]:=by
 cases l with
 | nil=>simp [spl]
 | cons b r=>
   simp only [spl];split
   ·simp
   ·cases spl c r <;> simp [wL]
theorem qo(c:UInt8):∀ l:List UInt8,(spl c l).length=l.count c + 1:=by
 intro l
 induction l with
 | nil=>rfl
 | cons b r ih=>
   simp only [spl];split
   ·rename_i h;subst h;simp [ih]
   · rename_i h;have hg:∀ L:List (List UInt8),L≠[]->(wL [b] L).length=L.length:=by intro L hL;cases L with | nil=>exact absurd rfl hL | cons a t=>simp [wL]
     rw [hg _ (uk c r),ih,List.count_cons_of_ne h]
theorem mx(c:UInt8):∀ (l:List UInt8),Lib.splitK [c] 0 (Lib.count l [c]) l=spl c l:=by
 intro l
 induction l with
 | nil=>simp [Lib.count_one,Lib.splitK,spl]
 | cons b r ih=>
   rw [Lib.count_one] at ih |-;simp only [spl];split
   ·rename_i h;subst h;rw [List.count_cons_self];unfold Lib.splitK;rw [Lib.index_one];simp [Lib.indexByte,ih]
   · rename_i h;rw [List.count_cons_of_ne h];cases hk:r.count c with
     | zero=>
       rw [hk] at ih;rw [<-ih];simp [Lib.splitK,wL]
     | succ k=>
       rw [hk] at ih;rw [<-ih];have hb:(b == c)=false:=by simpa using h
       unfold Lib.splitK;rw [Lib.index_one,Lib.index_one];have hr:Lib.indexByte (b :: r) c=if Lib.indexByte r c == -1 then -1 else Lib.indexByte r c + 1:=by
        rw [Lib.indexByte,hb];rfl
       rw [hr];by_cases hm:Lib.indexByte r c = -1
       ·simp [hm,wL]
       · have hge:=Lib.indexByte_ge r c;obtain ⟨i,hi⟩:∃ i:Nat,Lib.indexByte r c=i:=⟨(Lib.indexByte r c).toNat,by omega⟩
         have h1:¬ ((i:Int) = -1):=by omega
         have h2:¬ ((i:Int) + 1 = -1):=by omega
         have h3:((i:Int) + 1).toNat=i + 1:=by omega
         simp [hi,h1,h2,h3,wL]
theorem zbx{c:UInt8}{l x y z w:List UInt8}(h:spl c l=[x,y,z,w]):l=x ++ c :: (y ++ c :: (z ++ c :: w)):=by
 have join:∀ l:List UInt8,∀ L,spl c l=L->l=[c].intercalate L:=by
  intro l
  induction l with
  | nil=>intro L h;subst h;simp [spl,List.intercalate]
  | cons b r ih=>
    intro L h;have hr:=ih _ rfl;simp only [spl] at h;split at h
    · rename_i hb;subst h hb;cases hs:spl b r with
      | nil=>exact absurd hs (uk b r)
      | cons a t=>
        rw [hs] at hr;rw [hr];simp [List.intercalate]
    · subst h;cases hs:spl c r with
      | nil=>exact absurd hs (uk c r)
      | cons a t=>
        rw [hs] at hr;rw [hr];cases t <;> simp [List.intercalate,wL]
 have:=join l _ h;rw [this];simp [List.intercalate]
def zq(s:ByteArray):Int:=if okN s.data.toList=true then xk s.data.toList else 0
theorem wB{s:ByteArray}(h:okN s.data.toList=false):zq s=0:=by unfold zq;rw [h];rfl
theorem xe{s:ByteArray}(h:okN s.data.toList=true):zq s=xk s.data.toList:=by unfold zq;rw [h];rfl
theorem qk(s:ByteArray):-1000000000000000000 < zq s/\zq s < 1000000000000000000:=by
 cases h:okN s.data.toList
 ·rw [wB h];omega
 ·rw [xe h];exact zcD (okN_iff.1 h).2.2.1 (okN_iff.1 h).2.1
theorem lM{l:List UInt8}(h:(yo l).length < 1):okN l=false:=by
 cases ho:okN l
 ·rfl
 ·obtain ⟨h2,_⟩:=okN_iff.1 ho;omega
theorem fW{l:List UInt8}(h:(yo l).all yG=false):okN l=false:=by
 cases ho:okN l
 ·rfl
 ·rw [(okN_iff.1 ho).2.2.1] at h;exact absurd h (by simp)
theorem jN{l:List UInt8}(h1:1<=(yo l).length)(h2:(yo l).length<=18)(h3:(yo l).all yG=true):okN l=decide (Lib.itoa (xk l)=l):=by
 unfold okN;rw [decide_eq_true h1,decide_eq_true h2,h3,Bool.true_and,Bool.true_and,Bool.true_and]
theorem jS{v k d:Nat}(h:v + 1<=10 ^ k)(hd:d<=9)(hk:k < 18):10 * v + d + 1<=10 ^ (k + 1)/\10 * v + d < 1000000000000000000:=by
 have h1:10 ^ (k + 1)=10 * 10 ^ k:=by rw [Nat.pow_succ,Nat.mul_comm]
 have h2:=mp (k:=k + 1) (by omega);omega
theorem ll{t:ByteArray}{k:Nat}(h:k < t.size)(v:Nat):wa (t.data.toList.drop k) v=wa (t.data.toList.drop (k + 1)) (10 * v + (t[k].toNat - 48)):=by
 rw [yM (xU h)];simp only [wa];rw [Nat.mul_comm]
theorem kP{t:ByteArray}{k:Nat}(h:k < t.size):(t.data.toList.drop k).all yG=(yG t[k] && (t.data.toList.drop (k + 1)).all yG):=by rw [yM (xU h),List.all_cons]
theorem zb8{s:ByteArray}(h:0 < s.size)(h45:¬ s[0].toNat=45):s.data.toList=yo s.data.toList/\∀ n,sgn s.data.toList n=n:=by
 have e0:s.data.toList=s[0] :: s.data.toList.drop 1:=by have:=yM (xU h);simpa using this
 have hc:¬ s[0]=45:=fun e=>h45 (c45.2 e);rw [e0];exact ⟨by simp [yo,hc],by intro n;simp [sgn,hc]⟩
theorem zan{s:ByteArray}(h:0 < s.size)(h45:s[0].toNat=45):(s.extract 1 s.size).data.toList=yo s.data.toList/\∀ n,sgn s.data.toList n = -(n:Int):=by
 have e0:s.data.toList=s[0] :: s.data.toList.drop 1:=by have:=yM (xU h);simpa using this
 have hc:s[0]=45:=c45.1 h45;have e1:(s.extract 1 s.size).data.toList=s.data.toList.drop 1:=by
  rw [ByteArray.data_extract,Array.toList_extract];simp [List.take_of_length_le]
 rw [e1];generalize s.data.toList.drop 1=r at e0;rw [e0];exact ⟨by simp [yo,hc],by intro n;simp [sgn,hc]⟩
theorem xm(s:ByteArray)(hs:s.size<=9223372036854775807)(w:World):Calls prog 156 #[.string s] w (RetT #[.int .i64 (zq s),.bool (okN s.data.toList)] w):=by
 by_cases h0:s.size=0
 · have he:(s.toList == [])=true:=by rw [rF];simp only [h0];rfl
   have hnil:s.data.toList=[]:=List.eq_nil_of_length_eq_zero (by rw [zu];exact h0);have HO:=qH (show okN s.data.toList=false by rw [hnil];rfl);clear hnil;have hd1:(s.size:Int) < 1:=by omega
   go_in;go_wp2;go_returns;exact RetT.mk (by rw [wB HO.out,HO.out];rfl) (Below.refl _ _)
 have he:(s.toList == [])=false:=by rw [rF];exact decide_eq_false h0
 have hp:0 < s.size:=by omega
 clear h0;by_cases h45:s[0].toNat=45
 · obtain ⟨hbt,hsg⟩:=zan hp h45;have hq:(s[0].toNat:Int)=45:=by omega
   have hsz:(s.extract 1 s.size).size < s.size:=by simp;omega
   obtain ⟨t,ht⟩:∃ t,s.extract 1 s.size=t:=⟨_,rfl⟩
   rw [ht] at hbt hsz;go_in;have hts:t.size=(yo s.data.toList).length:=by rw [<-zu];exact congrArg List.length hbt
   by_cases hl1:t.size < 1
   · have HO:=qH (lM (l:=s.data.toList) (by omega));clear hbt hsg hts;go_wp2_with fail
     all_goals
      go_returns;exact RetT.mk (by rw [wB HO.out,HO.out];rfl) (Below.refl _ _)
   have hl1':1<=(t.size:Int):=by omega
   have hdl:decide ((t.size:Int) < 1)=false:=decide_eq_false (by omega);by_cases hl2:18 < (t.size:Int)
   · have HO:=qH (pf (l:=s.data.toList) (by omega));clear hbt hsg hts;go_wp2_with fail
     all_goals
      go_returns;exact RetT.mk (by rw [wB HO.out,HO.out];rfl) (Below.refl _ _)
   have hl2':(t.size:Int)<=18:=by omega
   have HB:=qH hbt;have HG:=qH hsg;have HTS:=qH hts;have hR:=qH (show wa (yo s.data.toList) 0=wa (t.data.toList.drop 0) 0 by rw [List.drop_zero];exact congrArg (wa · 0) hbt.symm);have hD:=qH (show (yo s.data.toList).all yG=(t.data.toList.drop 0).all yG by rw [List.drop_zero];exact congrArg (List.all · yG) hbt.symm);clear hbt hsg hts;go_wp2_with fail
   go_loop [5,6] (fun n i=>∃ (k v:Nat),k<=t.size/\i=.int .i64 k/\n=.int .i64 v/\v < 1000000000000000000/\Hid (v + 1<=10 ^ k)/\Hid (wa (yo s.data.toList) 0=wa (t.data.toList.drop k) v)/\Hid ((yo s.data.toList).all yG=(t.data.toList.drop k).all yG)) (fun _ i=>t.size - (intOf i).toNat)
   case atStart=>exact ⟨0,0,by omega,rfl,rfl,by omega,qH (by simp),hR,hD⟩
   case round=>
    clear hR hD;obtain ⟨k,v,hk,rfl,rfl,hv,hP,hR,hD⟩:=hrel;by_cases hlt:k < t.size
    · have hR2:=qH (hR.out.trans (ll hlt v));have hD2:=qH (hD.out.trans (kP hlt));clear hR hD;cases hd:sD t[k]
      · have HO:=qH (fW (l:=s.data.toList) (by rw [hD2.out,show yG t[k]=sD t[k] from rfl,hd,Bool.false_and]));go_wp2_with (go_at_call 218;refine (wP _ _).mono ?_;rintro e w' ⟨rfl,rfl⟩)
        go_returns;exact RetT.mk (by rw [wB HO.out,HO.out];rfl) (Below.refl _ _)
      · have hd2:=isDig_iff.1 (show yG t[k]=true from hd);have hD3:=qH (hD2.out.trans (by rw [show yG t[k]=sD t[k] from rfl,hd,Bool.true_and]));have hst:=jS (d:=t[k].toNat - 48) hP.out (by omega) (by omega);have HP2:=qH hst.1;have hb2:=hst.2;have hb3:(10:Int) * v + ((t[k].toNat:Int) - 48) < 1000000000000000000:=by omega
        have hd48:48<=(t[k].toNat:Int):=by omega
        have hd57:(t[k].toNat:Int)<=57:=by omega
        clear hD2 hP hst;go_wp2_with (go_at_call 218;refine (wP _ _).mono ?_;rintro e w' ⟨rfl,rfl⟩)
        exact ⟨⟨k + 1,10 * v + (t[k].toNat - 48),by omega,by go_num,vi (by omega),hb2,HP2,hR2,hD3⟩,by simp [intOf];omega⟩
    · have hkt:k=t.size:=by omega
      have HV:=qH (hR.out.trans (by rw [List.drop_eq_nil_of_le (by rw [zu];omega)];rfl:_=v));have HA:=qH (hD.out.trans (by rw [List.drop_eq_nil_of_le (by rw [zu];omega)];rfl:_=true));have HN:=qH (show xk s.data.toList = -(v:Int) by unfold xk;rw [HG.out,HV.out]);have HL:=qH (jN (l:=s.data.toList) (by rw [<-HTS.out];omega) (by rw [<-HTS.out];omega) HA.out);clear hR hD hP;go_wp2_with fail;refine qS (xh _ (by omega) (by omega) _) fun W hb=>?_;obtain ⟨u,hu⟩:∃ u:Int,u = -(v:Int):=⟨_,rfl⟩
      have hN2:=HN.out;rw [<-hu] at hN2 |-;have hL2:=HL.out;rw [hN2] at hL2;clear hu HN HL;have hbq:((zm u).toList == s.toList)=decide (Lib.itoa u=s.data.toList):=by
       rw [yD,Bool.eq_iff_iff,decide_eq_true_eq,decide_eq_true_eq];constructor
       ·intro h;rw [<-h];rfl
       ·intro h;unfold zm;rw [h]
      have HL:=qH (hL2.trans hbq.symm);have HN:=qH hN2;clear hL2 hbq hN2;cases hq2:((zm u).toList == s.toList)
      ·have HO:=qH (HL.out.trans hq2);go_wp2;go_returns;exact RetT.mk (by rw [wB HO.out,HO.out];rfl) hb
      ·have HO:=qH (HL.out.trans hq2);go_wp2;go_returns;exact RetT.mk (by rw [xe HO.out,HO.out,HN.out];rfl) hb
 · have hne:¬ (s[0].toNat:Int)=45:=by omega
   obtain ⟨hbt,hsg⟩:=zb8 hp h45;have hne2:((s[0].toNat:Int) == 45)=false:=by simpa using hne
   clear h45;go_in;have hts:s.size=(yo s.data.toList).length:=by rw [<-zu];exact congrArg List.length hbt
   by_cases hl1:s.size < 1
   · have HO:=qH (lM (l:=s.data.toList) (by omega));clear hbt hsg hts;go_wp2_with fail
     all_goals
      go_returns;exact RetT.mk (by rw [wB HO.out,HO.out];rfl) (Below.refl _ _)
   have hl1':1<=(s.size:Int):=by omega
   have hdl:decide ((s.size:Int) < 1)=false:=decide_eq_false (by omega);by_cases hl2:18 < (s.size:Int)
   · have HO:=qH (pf (l:=s.data.toList) (by omega));clear hbt hsg hts;go_wp2_with fail
     all_goals
      go_returns;exact RetT.mk (by rw [wB HO.out,HO.out];rfl) (Below.refl _ _)
   have hl2':(s.size:Int)<=18:=by omega
   have HB:=qH hbt;have HG:=qH hsg;have HTS:=qH hts;have hR:=qH (show wa (yo s.data.toList) 0=wa (s.data.toList.drop 0) 0 by rw [List.drop_zero];exact congrArg (wa · 0) hbt.symm);have hD:=qH (show (yo s.data.toList).all yG=(s.data.toList.drop 0).all yG by rw [List.drop_zero];exact congrArg (List.all · yG) hbt.symm);clear hbt hsg hts;go_wp2_with fail
   go_loop [5,6] (fun n i=>∃ (k v:Nat),k<=s.size/\i=.int .i64 k/\n=.int .i64 v/\v < 1000000000000000000/\Hid (v + 1<=10 ^ k)/\Hid (wa (yo s.data.toList) 0=wa (s.data.toList.drop k) v)/\Hid ((yo s.data.toList).all yG=(s.data.toList.drop k).all yG)) (fun _ i=>s.size - (intOf i).toNat)
   case atStart=>exact ⟨0,0,by omega,rfl,rfl,by omega,qH (by simp),hR,hD⟩
   case round=>
    clear hR hD;obtain ⟨k,v,hk,rfl,rfl,hv,hP,hR,hD⟩:=hrel;by_cases hlt:k < s.size
    · have hR2:=qH (hR.out.trans (ll hlt v));have hD2:=qH (hD.out.trans (kP hlt));clear hR hD;cases hd:sD s[k]
      · have HO:=qH (fW (l:=s.data.toList) (by rw [hD2.out,show yG s[k]=sD s[k] from rfl,hd,Bool.false_and]));go_wp2_with (go_at_call 218;refine (wP _ _).mono ?_;rintro e w' ⟨rfl,rfl⟩)
        go_returns;exact RetT.mk (by rw [wB HO.out,HO.out];rfl) (Below.refl _ _)
      · have hd2:=isDig_iff.1 (show yG s[k]=true from hd);have hD3:=qH (hD2.out.trans (by rw [show yG s[k]=sD s[k] from rfl,hd,Bool.true_and]));have hst:=jS (d:=s[k].toNat - 48) hP.out (by omega) (by omega);have HP2:=qH hst.1;have hb2:=hst.2;have hb3:(10:Int) * v + ((s[k].toNat:Int) - 48) < 1000000000000000000:=by omega
        have hd48:48<=(s[k].toNat:Int):=by omega
        have hd57:(s[k].toNat:Int)<=57:=by omega
        clear hD2 hP hst;go_wp2_with (go_at_call 218;refine (wP _ _).mono ?_;rintro e w' ⟨rfl,rfl⟩)
        exact ⟨⟨k + 1,10 * v + (s[k].toNat - 48),by omega,by go_num,vi (by omega),hb2,HP2,hR2,hD3⟩,by simp [intOf];omega⟩
    · have hkt:k=s.size:=by omega
      have HV:=qH (hR.out.trans (by rw [List.drop_eq_nil_of_le (by rw [zu];omega)];rfl:_=v));have HA:=qH (hD.out.trans (by rw [List.drop_eq_nil_of_le (by rw [zu];omega)];rfl:_=true));have HN:=qH (show xk s.data.toList=(v:Int) by unfold xk;rw [HG.out,HV.out]);have HL:=qH (jN (l:=s.data.toList) (by rw [<-HTS.out];omega) (by rw [<-HTS.out];omega) HA.out);clear hR hD hP;go_wp2_with fail;refine qS (xh _ (by omega) (by omega) _) fun W hb=>?_;obtain ⟨u,hu⟩:∃ u:Int,u=(v:Int):=⟨_,rfl⟩
      have hN2:=HN.out;rw [<-hu] at hN2 |-;have hL2:=HL.out;rw [hN2] at hL2;clear hu HN HL;have hbq:((zm u).toList == s.toList)=decide (Lib.itoa u=s.data.toList):=by
       rw [yD,Bool.eq_iff_iff,decide_eq_true_eq,decide_eq_true_eq];constructor
       ·intro h;rw [<-h];rfl
       ·intro h;unfold zm;rw [h]
      have HL:=qH (hL2.trans hbq.symm);have HN:=qH hN2;clear hL2 hbq hN2;cases hq2:((zm u).toList == s.toList)
      ·have HO:=qH (HL.out.trans hq2);go_wp2;go_returns;exact RetT.mk (by rw [wB HO.out,HO.out];rfl) hb
      ·have HO:=qH (HL.out.trans hq2);go_wp2;go_returns;exact RetT.mk (by rw [xe HO.out,HO.out,HN.out];rfl) hb
theorem gM{w w':World}{t:TypeId}(h:w'=w\/∃ k,w'=Lib.bytesWorld w t k):Below w.heap.size w w':=by
 rcases h with rfl | ⟨k,rfl⟩
 ·exact Below.refl _ _
 ·exact Lib.bytesWorld_below _ _ _
theorem xO(s:ByteArray)(hs:s.size<=281474976710656)(w:World)(hT:Tabs w):Calls prog 33 #[.string s] w (RetT #[.int .i64 (zq s),.bool (okN s.data.toList)] w):=by
 have HT:=qH hT;clear hT;have hbl:=zam s.data.toList;rw [zu] at hbl;by_cases h19:19 < (s.size:Int)
 ·have HO:=qH (pf (l:=s.data.toList) (by omega));clear hbl;go_in;go_wp2;go_returns;exact RetT.mk (by rw [wB HO.out,HO.out];rfl) (Below.refl _ _)
 have hd19:decide (19 < (s.size:Int))=false:=decide_eq_false h19;obtain ⟨t,ht⟩:∃ t:ByteArray,t=⟨(yo s.data.toList).toArray⟩:=⟨_,rfl⟩
 have hTr:=fun (w:World)=>Tryz.strings_TrimPrefix s ⟨#[45]⟩ w;rw [show (ByteArray.mk #[45]).data.toList=[45] from rfl,aV,<-ht] at hTr;have hts:t.size=(yo s.data.toList).length:=by rw [ht];simp [ByteArray.size]
 replace hTr:=qH hTr;clear ht;by_cases h18:18 < (t.size:Int)
 · have HO:=qH (pf (l:=s.data.toList) (by omega));clear hbl hts;go_in;go_wp2_with (go_at_call 66;refine (hTr.out _).mono ?_;rintro e w' ⟨rfl,rfl⟩)
   go_returns;exact RetT.mk (by rw [wB HO.out,HO.out];rfl) (Below.refl _ _)
 have hd18:decide (18 < (t.size:Int))=false:=decide_eq_false h18;have HL:=qH (show (yo s.data.toList).length<=18 by omega);clear hbl hts;obtain ⟨evs,hes,hes2⟩:=HT.out.syn;obtain ⟨evr,her,her2⟩:=HT.out.rng
 match hp:Lib.parseIntB 64 s.data.toList with
 | Lib.NumEnd.syntax=>
   have HO:=qH (oe (l:=s.data.toList) (by intro v;rw [hp];intro h;cases h));have hPI:=qH (Tryz.strconv_ParseInt_10_at64_syntax s hs hp evs w hes hes2);clear hp hes hes2 her her2;go_in;go_wp2_with (go_at_call 66;refine (hTr.out _).mono ?_;rintro e w' ⟨rfl,rfl⟩)
   refine hPI.out.mono ?_;rintro e W ⟨N,rfl,_,_,hb⟩;go_wp2;go_returns;exact RetT.mk (by rw [wB HO.out,HO.out];rfl) hb
 | .range=>
   have HO:=qH (oe (l:=s.data.toList) (by intro v;rw [hp];intro h;cases h));have hPI:=qH (Tryz.strconv_ParseInt_10_at64_range s hs hp evr w her her2);clear hp hes hes2 her her2;go_in;go_wp2_with (go_at_call 66;refine (hTr.out _).mono ?_;rintro e w' ⟨rfl,rfl⟩)
   refine hPI.out.mono ?_;rintro e W ⟨N,rfl,_,_,hb⟩;go_wp2;go_returns;exact RetT.mk (by rw [wB HO.out,HO.out];rfl) hb
 | .ok v=>
   have hvb:=zbm HL.out hp;have hv0:=hvb.1;have hv1:=hvb.2;clear hvb;have hPI:=qH (Tryz.strconv_ParseInt_10_at64_ok s (by omega) v hp w);have hbq:((zm v).toList == s.toList)=decide (Lib.itoa v=s.data.toList):=by
    rw [yD,Bool.eq_iff_iff,decide_eq_true_eq,decide_eq_true_eq];constructor
    ·intro h;rw [<-h];rfl
    ·intro h;unfold zm;rw [h]
   have HB:=qH hbq;have HP:=qH hp;clear hp hbq hes hes2 her her2;go_in;go_wp2_with (go_at_call 66;refine (hTr.out _).mono ?_;rintro e w' ⟨rfl,rfl⟩)
   refine qS hPI.out fun W hW=>?_;have hb:=gM hW;clear hW;go_wp2_with fail;refine qS (xp v (by omega) (by omega) _ (HT.out.below hb).pow) fun W2 hb2=>?_;replace hb:=za hb hb2;clear hb2;cases hq2:((zm v).toList == s.toList)
   ·have HO:=qH (zdc HP.out (of_decide_eq_false (HB.out.symm.trans hq2)));go_wp2;go_returns;exact RetT.mk (by rw [wB HO.out,HO.out];rfl) hb
   ·have HO:=qH (zdb HL.out (of_decide_eq_true (HB.out.symm.trans hq2)));go_wp2;go_returns;exact RetT.mk (by rw [xe HO.out.1,HO.out.1,HO.out.2];rfl) hb
def xa(x:Entry):Bool:=inB x.day 0 100000 && zo x.what && inB x.value (-1000000) 1000000
theorem qY(n:Int)(w:World):Calls prog 269 #[.int .i64 n] w (RetQ (.bool (inB n 0 100000)) w):=by
 go_in;go_wp2_with (go_at_call 155;refine (xJ _ _ _ _).mono ?_;rintro e w' ⟨rfl,rfl⟩)
 go_returns;exact RetQ.mk rfl
theorem pC(x:Entry)(hs:x.what.size<=9223372036854775807)(w:World) :
 Calls prog 211 #[.agg #[.int .i64 x.day,.string x.what,.int .i64 x.value]] w (Ret (.bool (xa x)) w):=by
 cases h1:inB x.day 0 100000
 · go_in;go_wp2_with (first | (go_at_call 118;refine (xC _ hs _).mono ?_;rintro e w' ⟨rfl,rfl⟩) | (go_at_call 68;refine (xv _ _ _ _).mono ?_;rintro e w' ⟨rfl,rfl⟩))
   all_goals first | (exfalso;omega) | (go_returns;refine Ret.mk (vb ?_) (by go_grown);simp [xa,h1])
 cases h2:zo x.what
 · go_in;go_wp2_with (first | (go_at_call 118;refine (xC _ hs _).mono ?_;rintro e w' ⟨rfl,rfl⟩) | (go_at_call 68;refine (xv _ _ _ _).mono ?_;rintro e w' ⟨rfl,rfl⟩))
   all_goals first | (exfalso;omega) | (go_returns;refine Ret.mk (vb ?_) (by go_grown);simp [xa,h1,h2])
 cases h3:inB x.value (-1000000) 1000000
 · go_in;go_wp2_with (first | (go_at_call 118;refine (xC _ hs _).mono ?_;rintro e w' ⟨rfl,rfl⟩) | (go_at_call 68;refine (xv _ _ _ _).mono ?_;rintro e w' ⟨rfl,rfl⟩))
   all_goals first | (exfalso;omega) | (go_returns;refine Ret.mk (vb ?_) (by go_grown);simp [xa,h1,h2,h3])
 go_in;go_wp2_with (first | (go_at_call 118;refine (xC _ hs _).mono ?_;rintro e w' ⟨rfl,rfl⟩) | (go_at_call 68;refine (xv _ _ _ _).mono ?_;rintro e w' ⟨rfl,rfl⟩))
 all_goals first | (exfalso;omega) | (go_returns;refine Ret.mk (vb ?_) (by go_grown);simp [xa,h1,h2,h3])
theorem mP(g:Addr)(x:Entry)(hs:x.what.size<=9223372036854775807)(w:World)(c0:w.cell? g=some (.int .i64 x.day))(c1:w.cell? ⟨g.block,g.off + 1,none⟩=some (.string x.what))(c2:w.cell? ⟨g.block,g.off + 2,none⟩=some (.int .i64 x.value)) :
 Calls prog 229 #[.pointer (some g)] w (RetQ (.bool (xa x)) w):=by
 cases h1:inB x.day 0 100000
 · go_in;go_wp2_with (first | (go_at_call 153;refine (xn _ hs _).mono ?_;rintro e w' ⟨rfl,rfl⟩) | (go_at_call 155;refine (xJ _ _ _ _).mono ?_;rintro e w' ⟨rfl,rfl⟩) | (go_at_call 269;refine (qY _ _).mono ?_;rintro e w' ⟨rfl,rfl⟩))
   all_goals first | (exfalso;omega) | (go_returns;refine RetQ.mk (vb ?_);simp [xa,h1])
 cases h2:zo x.what
 · go_in;go_wp2_with (first | (go_at_call 153;refine (xn _ hs _).mono ?_;rintro e w' ⟨rfl,rfl⟩) | (go_at_call 155;refine (xJ _ _ _ _).mono ?_;rintro e w' ⟨rfl,rfl⟩) | (go_at_call 269;refine (qY _ _).mono ?_;rintro e w' ⟨rfl,rfl⟩))
   all_goals first | (exfalso;omega) | (go_returns;refine RetQ.mk (vb ?_);simp [xa,h1,h2])
 cases h3:inB x.value (-1000000) 1000000
 · go_in;go_wp2_with (first | (go_at_call 153;refine (xn _ hs _).mono ?_;rintro e w' ⟨rfl,rfl⟩) | (go_at_call 155;refine (xJ _ _ _ _).mono ?_;rintro e w' ⟨rfl,rfl⟩) | (go_at_call 269;refine (qY _ _).mono ?_;rintro e w' ⟨rfl,rfl⟩))
   all_goals first | (exfalso;omega) | (go_returns;refine RetQ.mk (vb ?_);simp [xa,h1,h2,h3])
 go_in;go_wp2_with (first | (go_at_call 153;refine (xn _ hs _).mono ?_;rintro e w' ⟨rfl,rfl⟩) | (go_at_call 155;refine (xJ _ _ _ _).mono ?_;rintro e w' ⟨rfl,rfl⟩) | (go_at_call 269;refine (qY _ _).mono ?_;rintro e w' ⟨rfl,rfl⟩))
 all_goals first | (exfalso;omega) | (go_returns;refine RetQ.mk (vb ?_);simp [xa,h1,h2,h3])
end Go.Proofs.YtpiehlfffjhoaaaGreatDoor
