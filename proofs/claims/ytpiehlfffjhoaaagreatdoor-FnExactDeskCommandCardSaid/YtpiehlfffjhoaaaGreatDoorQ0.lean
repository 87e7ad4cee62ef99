/- Lemmas for the law on the console: the parts Core,Zt. -/
import Derived.Test.YtpiehlfffjhoaaaGreatDoorProg
import Derived.WalkSpells
import Derived.WalkLawsBesides
import Derived.BigGuardPart
import Derived.Handy
import Derived.Lib.Hide
import Derived.Laws.CopyOwn
import Derived.Deep.RegionHeld3
import Derived.StillTailTactics
import Derived.BigQuiet
namespace Go.Proofs.YtpiehlfffjhoaaaGreatDoor
open Go.RowKit
set_option maxRecDepth 100000
def Ret(v:Value)(w:World)(e:Ending)(w':World):Prop:=e=.returned v/\Below w.heap.size w w'
theorem Ret.mk{v v':Value}{w w':World}(h:v'=v)(hb:Below w.heap.size w w'):Ret v w (.returned v') w':=⟨by rw [h],hb⟩
def RetQ(v:Value)(w:World)(e:Ending)(w':World):Prop:=e=.returned v/\w'=w
theorem RetQ.mk{v v':Value}{w:World}(h:v'=v):RetQ v w (.returned v') w:=⟨by rw [h],rfl⟩
theorem vi{k:IntKind}{a b:Int}(h:a=b):Value.int k a=Value.int k b:=by rw [h]
theorem vb{a b:Bool}(h:a=b):Value.bool a=Value.bool b:=by rw [h]
theorem vs{a b:ByteArray}(h:a=b):Value.string a=Value.string b:=by rw [h]
theorem zc{a w:World}(h:Below a.heap.size a w)(o:Obj):Below a.heap.size a (w.alloc o):=h.alloc h.size o
theorem za{a b c:World}(h:Below a.heap.size a b)(k:Below b.heap.size b c):Below a.heap.size a c:=h.trans (k.mono h.size)
theorem pE{a b c:World}(h:Below a.heap.size a b)(k:Below b.drew.heap.size b.drew c):Below a.heap.size a c:=za (b:=b.drew) h.drew k
theorem zk{a w:World}(h:Below a.heap.size a w){p:Addr}(hp:a.heap.size<=p.block)(u:Value):Below a.heap.size a (w.setCell p u):=h.setCell hp u
theorem zi{a w w':World}{row:Option Nat}(h:Below a.heap.size a w)(hg:w.grownBy w' row)(hr:∀ k,row=some k->a.heap.size<=k):Below a.heap.size a w':=h.grown hg h.size hr
theorem zb{a w:World}(h:Below a.heap.size a w){p:Addr}{v:Value}(hc:a.cell? p=some v):w.cell? p=some v:=(h.cell (block_lt_of_cell hc)).trans hc
theorem yN{a w:World}(h:Below a.heap.size a w)(row:Option Nat):a.grownBy w row:=⟨h.os,h.tape,h.output,h.size,fun i hi _=>h.block i hi⟩
theorem qc{a w:World}{row:Option Nat}(h:a.grownBy w row)(o:Obj):a.grownBy (w.alloc o) row:=
 ⟨h.os,h.tape,h.output,Nat.le_trans h.size (by simp),fun i hi hne=>(Below.heap_alloc w o i (Nat.lt_of_lt_of_le hi h.size)).trans (h.block i hi hne)⟩
theorem zF{a w:World}{g:Nat}(h:a.grownBy w (some g)){p:Addr}(hp:p.block=g\/a.heap.size<=p.block)(u:Value):a.grownBy (w.setCell p u) (some g):=
 ⟨h.os,h.tape,h.output,by simpa [World.setCell] using h.size,fun i hi hne=>(Below.heap_setCell w p u i (by
   rintro rfl;rcases hp with hp | hp
   ·exact hne (by rw [hp])
   ·omega)).trans (h.block i hi hne)⟩
theorem vw{a b c:World}{row:Option Nat}(h:a.grownBy b row)(k:b.grownBy c row):a.grownBy c row:=
 ⟨k.os.trans h.os,k.tape.trans h.tape,k.output.trans h.output,Nat.le_trans h.size k.size,fun i hi hne=>(k.block i (Nat.lt_of_lt_of_le hi h.size) hne).trans (h.block i hi hne)⟩
theorem xM{a b c:World}{row:Option Nat}(h:a.grownBy b row)(k:Below b.heap.size b c):a.grownBy c row:=vw h (yN k row)
def Blk(w:World)(g:Nat)(t:TypeId)(cs:Array Value):Prop:=w.heap[g]?=some (.cells cs t (0,0))
section
variable {w w':World} {g:Nat} {t:TypeId} {cs:Array Value}
theorem Blk.lt(h:Blk w g t cs):g < w.heap.size:=by
 rcases Nat.lt_or_ge g w.heap.size with hlt | hge
 ·exact hlt
 ·unfold Blk at h;rw [Array.getElem?_eq_none hge] at h;cases h
theorem Blk.cell(h:Blk w g t cs)(i:Nat):w.cell? ⟨g,i,none⟩=cs[i]?:=cell_of_row w g i cs t (0,0) h
theorem Blk.frozen(h:Blk w g t cs)(i:Nat):w.frozen? ⟨g,i,none⟩=false:=by
 unfold Blk at h;simp [World.frozen?,h]
theorem Blk.new(w:World)(t:TypeId)(cs:Array Value):Blk (w.alloc (.cells cs t)) w.heap.size t cs:=heap_alloc_new w _
theorem Blk.alloc(h:Blk w g t cs)(o:Obj):Blk (w.alloc o) g t cs:=(Below.heap_alloc w o g h.lt).trans h
theorem Blk.set_(h:Blk w g t cs)(i:Nat)(u:Value):Blk (w.setCell ⟨g,i,none⟩ u) g t (cs.setIfInBounds i u):=by
 unfold Blk at h |-;simp [World.setCell,Array.getElem?_modify,h]
theorem Blk.far(h:Blk w g t cs){p:Addr}(hp:g≠p.block)(u:Value):Blk (w.setCell p u) g t cs:=(Below.heap_setCell w p u g hp).trans h
theorem Blk.below(h:Blk w g t cs)(hb:Below w.heap.size w w'):Blk w' g t cs:=(hb.block g h.lt).trans h
theorem Blk.grown{row:Option Nat}(h:Blk w g t cs)(hb:w.grownBy w' row)(hg:some g≠row):Blk w' g t cs:=(hb.block g h.lt hg).trans h
end
theorem rj(a:Addr)(n:Nat):(a.add n).block=a.block:=by unfold Addr.add;split <;> rfl
theorem eB(a:Addr)(i j:Nat):(a.add i).add j=a.add (i + j):=by
 unfold Addr.add;by_cases hi:i=0 <;> by_cases hj:j=0 <;> simp [hi,hj,Nat.add_assoc]
theorem zaf(a:Addr)(i j:Nat)(hj:j≠0):a.add (i + j)=⟨(a.add i).block,(a.add i).off + j,none⟩:=by
 rw [<-eB];simp [Addr.add,hj]
def Arr(w:World)(A:Option Addr)(cs:List Value):Prop:=
 0 < cs.length->∃ ad,A=some ad/\ad.block < w.heap.size/\∀ j u,cs[j]?=some u->w.cell? (ad.add j)=some u
section
variable {w w':World} {A:Option Addr} {cs:List Value}
theorem Arr.nil(w:World)(A:Option Addr):Arr w A []:=fun h=>absurd h (by simp)
theorem Arr.at_(h:Arr w A cs){j:Nat}(hj:j < cs.length):∃ ad,A=some ad/\ad.block < w.heap.size/\∀ j u,cs[j]?=some u->w.cell? (ad.add j)=some u:=h (by omega)
theorem Arr.keep(h:Arr w A cs)(hs:w.heap.size<=w'.heap.size)(hk:∀ ad,A=some ad->∀ p:Addr,p.block=ad.block->p.block < w.heap.size->w'.cell? p=w.cell? p):Arr w' A cs:=fun hn=>by
 obtain ⟨ad,e,hb,hc⟩:=h hn;exact ⟨ad,e,by omega,fun j u hu=>(hk ad e _ (rj _ _) (by rw [rj];exact hb)).trans (hc j u hu)⟩
theorem Arr.below(h:Arr w A cs)(hb:Below w.heap.size w w'):Arr w' A cs:=h.keep hb.size fun _ _ _ _ hp=>hb.cell hp
theorem Arr.grown{row:Option Nat}(h:Arr w A cs)(hg:w.grownBy w' row)(hne:∀ ad,A=some ad->some ad.block≠row):Arr w' A cs:=
 h.keep hg.size fun ad e p hp hlt=>World.cell?_of_block (hg.block p.block hlt (by rw [hp];exact hne ad e))
theorem Arr.alloc(h:Arr w A cs)(o:Obj):Arr (w.alloc o) A cs:=h.below ((Below.refl _ _).alloc (Nat.le_refl _) o)
theorem Arr.own{base e size n c:Nat}(h:w.ownsRow base e size (.slice A n c) n cs):Arr w A cs:=fun hn=>by
 rcases h.2 with ⟨h1,h2⟩ | ⟨g,cap,cur,h1,_,hg,_⟩
 ·exfalso;have:=h.1;subst h2;simp at this;subst this;simp at hn
 ·have h1':=h1;simp only [Value.slice.injEq] at h1;obtain ⟨rfl,_,_⟩:=h1;exact ⟨_,rfl,(Array.getElem?_eq_some_iff.1 hg).1,h.cells (g:=g) rfl⟩
theorem Arr.take(h:Arr w A cs)(k:Nat):Arr w A (cs.take k):=fun hn=>by
 obtain ⟨ad,e,hb,hc⟩:=h (by simp at hn;omega);exact ⟨ad,e,hb,fun j u hu=>hc j u (by
  rw [List.getElem?_take] at hu;split at hu
  ·exact hu
  ·cases hu)⟩
end
theorem ze{w w':World}{base e size n:Nat}{v:Value}{cs:List Value}(h:w.ownsRow base e size v n cs)(hb:Below w.heap.size w w'):w'.ownsRow base e size v n cs:=
 h.kept (yN hb none) (by cases v.ownBlock <;> simp)
theorem yF{w:World}{base base' e size n:Nat}{v:Value}{cs:List Value}(h:w.ownsRow base e size v n cs)(hb:base'<=base):w.ownsRow base' e size v n cs:=by
 refine ⟨h.1,?_⟩;rcases h.2 with h2 | ⟨g,cap,cur,hv,hg,r⟩
 ·exact .inl h2
 ·exact .inr ⟨g,cap,cur,hv,by omega,r⟩
theorem wc{w:World}{base e size n:Nat}{v:Value}{cs:List Value}(h:w.ownsRow base e size v n cs):∃ A c,v=.slice A n c/\n<=c/\c<=maxLen:=by
 rcases h.2 with ⟨rfl,rfl⟩ | ⟨g,cap,cur,rfl,_,_,h1,h2,_⟩
 ·exact ⟨none,0,rfl,by omega,by simp [maxLen]⟩
 ·exact ⟨_,cap,rfl,h1,h2⟩
def zd{α:Type}(f:α->List Value)(xs:List α):List Value:=xs.flatMap f
theorem yK{α:Type}{f:α->List Value}{s:Nat}(hf:∀ x,(f x).length=s)(xs:List α):(zd f xs).length=xs.length * s:=by
 unfold zd
 induction xs with
 | nil=>simp
 | cons x r ih=>simp only [List.flatMap_cons,List.length_append,List.length_cons,hf,ih,Nat.succ_mul];omega
theorem rn{α:Type}{f:α->List Value}{s:Nat}(hf:∀ x,(f x).length=s):∀ (xs:List α) (k j:Nat) (x:α),xs[k]?=some x->j < s->(zd f xs)[k * s + j]?=(f x)[j]?:=by
 intro xs
 induction xs with
 | nil=>intro k j x h;simp at h
 | cons y r ih=>
   intro k j x h hj;cases k with
   | zero=>
     simp only [List.getElem?_cons_zero,Option.some.injEq] at h;subst h;simp only [zd,List.flatMap_cons,Nat.zero_mul,Nat.zero_add];rw [List.getElem?_append_left (by rw [hf];exact hj)]
   | succ k=>
     simp only [List.getElem?_cons_succ] at h;have:=ih k j x h hj;simp only [zd,List.flatMap_cons] at this |-;rw [List.getElem?_append_right (by rw [hf,Nat.succ_mul];omega),hf];rw [show (k + 1) * s + j - s=k * s + j from by rw [Nat.succ_mul];omega];exact this
theorem zY{α:Type}(f:α->List Value)(xs ys:List α):zd f (xs ++ ys)=zd f xs ++ zd f ys:=by simp [zd]
theorem xS{α:Type}(f:α->List Value)(x:α):zd f [x]=f x:=by simp [zd]
theorem Arr.elem{α:Type}{f:α->List Value}{s:Nat}(hf:∀ x,(f x).length=s){w:World}{A:Option Addr}{xs:List α}(h:Arr w A (zd f xs)){k:Nat}{x:α}(hk:xs[k]?=some x)(hs:0 < s) :
 ∃ ad,A=some ad/\ad.block < w.heap.size/\w.cell? (ad.add (k * s))=(f x)[0]?/\∀ j,j < s->j≠0->w.cell? ⟨(ad.add (k * s)).block,(ad.add (k * s)).off + j,none⟩=(f x)[j]?:=by
 have hkl:k < xs.length:=(List.getElem?_eq_some_iff.1 hk).1;obtain ⟨ad,e,hb,hc⟩:=h (by rw [yK hf];exact Nat.mul_pos (by omega) hs);have key:∀ j,j < s->w.cell? (ad.add (k * s + j))=(f x)[j]?:=by
  intro j hj;have h1:=rn hf xs k j x hk hj;have h2:(f x)[j]?=some ((f x)[j]'(by rw [hf];exact hj)):=List.getElem?_eq_getElem _;rw [h2] at h1 |-;exact hc _ _ h1
 exact ⟨ad,e,hb,by simpa using key 0 hs,fun j hj h0=>by rw [<-zaf _ _ _ h0];exact key j hj⟩
theorem yM{α:Type}{xs:List α}{k:Nat}{x:α}(h:xs[k]?=some x):xs.drop k=x :: xs.drop (k + 1):=by
 obtain ⟨hlt,rfl⟩:=List.getElem?_eq_some_iff.1 h;exact List.drop_eq_getElem_cons hlt
theorem zx{α:Type}{xs:List α}{k:Nat}(h:k < xs.length):∃ x,xs[k]?=some x:=⟨_,List.getElem?_eq_getElem h⟩
theorem yJ{α:Type}{xs:List α}{k:Nat}{x:α}(h:xs[k]?=some x):xs.take (k + 1)=xs.take k ++ [x]:=by
 obtain ⟨hlt,rfl⟩:=List.getElem?_eq_some_iff.1 h;exact List.take_succ_eq_append_getElem hlt
theorem tl(s t:ByteArray):s.toList=t.toList ↔ s=t:=by
 constructor
 ·intro h;rw [ByteArray.toList_eq,ByteArray.toList_eq] at h;cases s;cases t;simp only [ByteArray.mk.injEq];exact Array.ext' h
 ·intro h;rw [h]
theorem yD(s t:ByteArray):(s.toList == t.toList)=decide (s=t):=by
 rw [Bool.eq_iff_iff,beq_iff_eq,decide_eq_true_eq];exact tl s t
theorem rF(s:ByteArray):(s.toList == [])=decide (s.size=0):=by
 rw [ByteArray.toList_eq,Bool.eq_iff_iff,beq_iff_eq,decide_eq_true_eq,<-List.length_eq_zero_iff];simp
def xf:List Nat->Int->Int
 | [],l=>l
 | s :: r,l=>if l - s < 0 then -1 else xf r (l - s)
theorem oy{s:Nat}{r:List Nat}{l:Int}(h:l - s < 0):xf (s :: r) l = -1:=by simp only [xf];rw [if_pos h]
theorem ox{s:Nat}{r:List Nat}{l:Int}(h:0<=l - s):xf (s :: r) l=xf r (l - s):=by simp only [xf];rw [if_neg (by omega)]
theorem fq(a b:List Nat):∀ l:Int,0<=xf a l->xf (a ++ b) l=xf b (xf a l):=by
 induction a with
 | nil=>intro l _;rfl
 | cons s r ih=>
   intro l h;simp only [List.cons_append,xf] at h |-;by_cases hs:l - s < 0
   ·simp only [if_pos hs] at h;omega
   ·simp only [if_neg hs] at h |-;exact ih _ h
theorem mU(a b:List Nat):∀ l:Int,0<=l->xf a l < 0->xf (a ++ b) l = -1:=by
 induction a with
 | nil=>intro l h h';simp only [xf] at h';omega
 | cons s r ih=>
   intro l h0 h;simp only [List.cons_append,xf] at h |-;by_cases hs:l - s < 0
   ·simp only [if_pos hs]
   ·simp only [if_neg hs] at h |-;exact ih _ (by omega) h
theorem mV:∀ (a:List Nat) (l:Int),0<=l->xf a l<=l/\ -1<=xf a l:=by
 intro a
 induction a with
 | nil=>intro l h;simp only [xf];omega
 | cons s r ih=>
   intro l h;simp only [xf];by_cases hs:l - s < 0
   ·simp only [if_pos hs];omega
   ·simp only [if_neg hs];have:=ih (l - s) (by omega);omega
theorem hZ:∀ (a:List Nat) (l:Int),0<=xf a l->xf a l=l - (a.sum:Nat):=by
 intro a
 induction a with
 | nil=>intro l h;simp [xf]
 | cons s r ih=>
   intro l h;simp only [xf] at h |-;by_cases hs:l - s < 0
   ·simp only [if_pos hs] at h;omega
   ·simp only [if_neg hs] at h |-;rw [ih _ h];simp;omega
def szS{α:Type}(f:α->List Nat)(xs:List α)(l:Int):Int:=xf (xs.length :: xs.flatMap f) l
theorem wC{w:World}{base e size n g c:Nat}{cs:List Value}(h:w.ownsRow base e size (.slice (some ⟨g,0,none⟩) n c) n cs){j:Nat}(hj:j < cs.length):∃ u,w.cell? ⟨g,j,none⟩=some u:=
 ⟨_,(h.cellAt j (by rw [<-h.1];exact hj)).trans (List.getElem?_eq_getElem hj)⟩
def ur(l:List Value)(i:Nat):List Value->List Value
 | []=>l
 | u :: r=>ur (l.set i u) (i + 1) r
theorem mw:∀ (us l:List Value) (i:Nat),i + us.length<=l.length->ur l i us=l.take i ++ us ++ l.drop (i + us.length):=by
 intro us
 induction us with
 | nil=>intro l i _;simp [ur]
 | cons u r ih=>
   intro l i h;simp only [List.length_cons] at h;simp only [ur,List.length_cons];rw [ih (l.set i u) (i + 1) (by rw [List.length_set];omega)];rw [List.take_set,List.drop_set_of_lt (by omega)];have e1:(l.take (i + 1)).set i u=l.take i ++ [u]:=by
    rw [List.take_succ_eq_append_getElem (by omega)];rw [List.set_append_right _ _ (by simp;omega)];have:(l.take i).length=i:=by simp;omega
    rw [this];simp
   rw [e1,show i + 1 + r.length=i + (r.length + 1) from by omega];simp
theorem pK{α:Type}{f:α->List Value}{s:Nat}(hf:∀ x,(f x).length=s){xs:List α}{k n:Nat}{x:α}(hx:xs[k]?=some x)(hn:xs.length=n)(L:List Value)(hL:L.length=n * s) :
 ur (zd f (xs.take k) ++ L.drop (k * s)) (k * s) (f x)=zd f (xs.take (k + 1)) ++ L.drop ((k + 1) * s):=by
 have hk:k < n:=by rw [<-hn];exact (List.getElem?_eq_some_iff.1 hx).1
 have h1:(zd f (xs.take k)).length=k * s:=by rw [yK hf];congr 1;simp;omega
 have h2:(k + 1) * s=k * s + s:=Nat.succ_mul k s;have h3:(k + 1) * s<=n * s:=Nat.mul_le_mul_right s hk;rw [mw _ _ _ (by simp only [List.length_append,List.length_drop,h1,hf,hL];omega)];rw [List.take_left' h1,yJ hx,zY,xS,hf];rw [List.drop_append,h1];rw [show k * s + s - k * s=s from by omega,List.drop_eq_nil_of_le (by rw [h1];omega),List.drop_drop,h2];simp
theorem nr{α:Type}{f:α->List Value}{s:Nat}{xs:List α}{n:Nat}(hn:xs.length=n)(L:List Value)(hL:L.length=n * s):zd f (xs.take n) ++ L.drop (n * s)=zd f xs:=by
 rw [List.take_of_length_le (by omega),List.drop_eq_nil_of_le (by omega)];simp
def zcU(E size n:Nat)(cs:List Value)(w:World)(e:Ending)(w':World):Prop:=
 ∃ g,e=.returned (.slice (some ⟨g,0,none⟩) n n)/\w'.ownsRow w.heap.size E size (.slice (some ⟨g,0,none⟩) n n) n cs/\Below w.heap.size w w'
theorem aD{P:Program}(src dst e:TypeId)(hs:P.underlying src=some (.slice e))(he:P.underlying e=some (.int .u8))(hd:P.underlying dst=some .string)(W:World)(n:Int) :
 (convert src dst (.slice (some ⟨W.heap.size,0,none⟩) 1 1)).run P (W.alloc (.cells #[.int .u8 n] e))=.ok (.string ⟨#[UInt8.ofNat n.toNat]⟩) (W.alloc (.cells #[.int .u8 n] e)):=by
 rw [run_convert_bytes_string _ _ _ _ _ _ _ hs he hd,run_bytesToString _ _ _ _ [n] ?_]
 ·rfl
 · refine run_loadCells_list (P:=P) _ ⟨W.heap.size,0,none⟩ [.int .u8 n] ?_;intro j v hv
   match j,hv with
   | 0,hv=>simp only [List.getElem?_cons_zero,Option.some.injEq] at hv;subst hv;simp [Addr.add,World.cell?_alloc_at]
def wI{α:Type}(f:α->α->Bool):List α->List α->Bool
 | [],[]=>true
 | x :: xs,y :: ys=>f x y && wI f xs ys
 | _,_=>false
theorem fl{α:Type}(f:α->α->Bool):∀ xs ys:List α,xs.length≠ys.length->wI f xs ys=false:=by
 intro xs
 induction xs with
 | nil=>intro ys h;cases ys with
   | nil=>exact absurd rfl h
   | cons y ys=>rfl
 | cons x xs ih=>intro ys h;cases ys with
   | nil=>rfl
   | cons y ys=>simp only [wI];rw [ih ys (by simpa using h)];simp
theorem xu{w:World}{base e size n c:Nat}{A:Option Addr}{cs:List Value}(h:w.ownsRow base e size (.slice A n c) n cs)(hn:0 < n):∃ g,A=some ⟨g,0,none⟩:=by
 rcases h.2 with ⟨_,h2⟩ | ⟨g,cap,cur,hv,_⟩
 ·omega
 ·simp only [Value.slice.injEq] at hv;exact ⟨g,hv.1⟩
def nI(base E size:Nat)(A:Option Addr)(n c:Nat)(cs:List Value)(q:Int)(w:World)(e:Ending)(w':World):Prop:=
 e=.returned (.int .i64 q)/\w'.ownsRow base E size (.slice A n c) n cs/\w.grownBy w' (A.map (·.block))
def pa:Nat->Nat->List UInt8->List UInt8
 | 0,_,acc=>acc
 | f + 1,k,acc=>if k=0 then acc else pa f (k / 10) ((48 + UInt8.ofNat (k % 10)) :: acc)
def uM(k:Nat):ByteArray:=if k=0 then ⟨#[109,48]⟩ else ⟨(109 :: pa k k []).toArray⟩
def zp(x:Int):List Value:=[.int .i64 x]
def zt(x:ByteArray):List Value:=[.string x]
theorem yn{w:World}{A:Option Addr}{xs:List Int}{k:Nat}{x:Int}(h:Arr w A (zd zp xs))(hk:xs[k]?=some x):∃ ad,A=some ad/\ad.block < w.heap.size/\w.cell? (ad.add k)=some (.int .i64 x):=by
 obtain ⟨ad,e,hb,h0,_⟩:=h.elem (f:=zp) (s:=1) (fun _=>rfl) hk (by omega);exact ⟨ad,e,hb,by rw [Nat.mul_one] at h0;exact h0⟩
theorem zh{w:World}{A:Option Addr}{xs:List ByteArray}{k:Nat}{x:ByteArray}(h:Arr w A (zd zt xs))(hk:xs[k]?=some x):∃ ad,A=some ad/\ad.block < w.heap.size/\w.cell? (ad.add k)=some (.string x):=by
 obtain ⟨ad,e,hb,h0,_⟩:=h.elem (f:=zt) (s:=1) (fun _=>rfl) hk (by omega);exact ⟨ad,e,hb,by rw [Nat.mul_one] at h0;exact h0⟩
theorem zcR{α:Type}{f:α->List Nat}{xs:List α}{l:Int}(h0:0<=szS f xs l)(h1:l<=1048576):(xs.length:Int)<=1048576:=by
 have h2:=hZ _ _ h0;unfold szS at h0;simp only [List.sum_cons] at h2;have:xf (xs.length :: xs.flatMap f) l<=l - xs.length:=by
  have h3:=hZ _ _ h0;simp only [List.sum_cons] at h3;omega
 omega
theorem zdk{α:Type}(f:α->List Nat)(xs:List α)(l:Int)(h:0<=l):szS f xs l<=l/\ -1<=szS f xs l:=mV _ _ h
def RetT(vs:Array Value)(w:World)(e:Ending)(w':World):Prop:=e=.returned (.tuple vs)/\Below w.heap.size w w'
theorem RetT.mk{vs vs':Array Value}{w w':World}(h:vs'=vs)(hb:Below w.heap.size w w'):RetT vs w (.returned (.tuple vs')) w':=⟨by rw [h],hb⟩
theorem yy{w:World}{base e size n:Nat}{v:Value}{cs:List Value}(h:w.ownsRow base e size v n cs){p:Addr}(hp:∀ g,v.ownBlock=some g->g≠p.block)(u:Value):(w.setCell p u).ownsRow base e size v n cs:=
 h.kept (w':=w.setCell p u) (row:=some p.block) ⟨rfl,rfl,rfl,by simp [World.setCell],fun k _ hk=>Below.heap_setCell w p u k (fun e=>hk (by rw [e]))⟩ (by
  cases hv:v.ownBlock with
  | none=>exact .inl rfl
  | some g=>exact .inr (fun e=>hp g hv (by injection e)))
theorem zA{α:Type}(a:List α)(i:Nat)(x:α):a.toArray.setIfInBounds i x=(a.set i x).toArray:=List.setIfInBounds_toArray a i x
theorem zB{α:Type}(b:α)(l:List α)(x:α):(b :: l).set 0 x=x :: l:=List.set_cons_zero
theorem zC{α:Type}(b:α)(l:List α)(i:Nat)(x:α):(b :: l).set (i + 1) x=b :: l.set i x:=List.set_cons_succ
section
variable {P:Program} {md:Region.Mode} {ops:Array Oper} {Q:Exit->Act->World->Prop} {S:World->Prop} {fuel:Nat} {listed:Array Bool} {a:Act} {w:World}
theorem zT(i:Nat)(d:Tmp){v:Value}{op:Op}{ty:TypeId}{ps:String}{af gd:_}{a':Act}(hi:ops[i]?=some { dst:=some d,op:=op,type:=ty,pos:=ps,after:=af,guard:=gd })(hy:∀ w,S w->(execOp a.eval { dst:=some d,op:=op,type:=ty,pos:=ps,after:=af,guard:=gd }).run P w=.ok (.value v) w)(h:wpAnyH P md ops Q S fuel (listed.setIfInBounds i true) a' w)(hS:S w:=by assumption)(hs:Region.noSelect ops=true:=by as_aux_lemma=>kernel_rfl)(hf:Region.free md ops listed i=true:=by as_aux_lemma=>kernel_rfl)(hr:(Region.ready md ops listed).contains i=true:=by as_aux_lemma=>kernel_rfl)(hw:Region.wanted { dst:=some d,op:=op,type:=ty,pos:=ps,after:=af,guard:=gd } (yielded ops a.tmps)=true:=by as_aux_lemma=>kernel_rfl)(ha:a.put (some d) v=a':=by (try simp only [Act.put,zA,zB,zC]);rfl)(hQ:∀ c a w,Q (.panic c) (a.put (some d) v) w->Q (.panic c) a w:=by exact fun _ _ _ h=>h):wpAnyH P md ops Q S (fuel + 1) listed a w:=
 wpAnyH_take hi hs hf hr hQ (Or.inl ⟨hw,hy⟩) hS (ha ▸ h)
theorem zU(i:Nat)(d:Tmp){v:Value}{op:Op}{ty:TypeId}{ps:String}{af gd:_}{a':Act}(h:wpAnyH P md ops Q S fuel (listed.setIfInBounds i true) a' w)(hi:ops[i]?=some { dst:=some d,op:=op,type:=ty,pos:=ps,after:=af,guard:=gd }:=by rfl)(hS:S w:=by assumption)(hs:Region.noSelect ops=true:=by as_aux_lemma=>kernel_rfl)(hf:Region.free md ops listed i=true:=by as_aux_lemma=>kernel_rfl)(hr:(Region.ready md ops listed).contains i=true:=by as_aux_lemma=>kernel_rfl)(hw:Region.wanted { dst:=some d,op:=op,type:=ty,pos:=ps,after:=af,guard:=gd } (yielded ops a.tmps)=true:=by as_aux_lemma=>kernel_rfl)(hy:∀ w,S w->(execOp a.eval { dst:=some d,op:=op,type:=ty,pos:=ps,after:=af,guard:=gd }).run P w=.ok (.value v) w:=by intro w hSw;(try dsimp only at hSw);go_simp;try with_reducible rfl)(ha:a.put (some d) v=a':=by (try simp only [Act.put,zA,zB,zC]);rfl)(hQ:∀ c a w,Q (.panic c) (a.put (some d) v) w->Q (.panic c) a w:=by exact fun _ _ _ h=>h):wpAnyH P md ops Q S (fuel + 1) listed a w:=
 wpAnyH_take hi hs hf hr hQ (Or.inl ⟨hw,hy⟩) hS (ha ▸ h)
theorem zS(i:Nat)(d:Tmp){op:Op}{ty:TypeId}{ps:String}{af gd:_}{a':Act}(h:wpAnyH P md ops Q S fuel (listed.setIfInBounds i true) a' w)(hi:ops[i]?=some { dst:=some d,op:=op,type:=ty,pos:=ps,after:=af,guard:=gd }:=by rfl)(hS:S w:=by assumption)(hs:Region.noSelect ops=true:=by as_aux_lemma=>kernel_rfl)(hf:Region.free md ops listed i=true:=by as_aux_lemma=>kernel_rfl)(hr:(Region.ready md ops listed).contains i=true:=by as_aux_lemma=>kernel_rfl)(hw:Region.wanted { dst:=some d,op:=op,type:=ty,pos:=ps,after:=af,guard:=gd } (yielded ops a.tmps)=false:=by as_aux_lemma=>kernel_rfl)(ha:a.put (some d) undef=a':=by (try simp only [Act.put,zA,zB,zC]);rfl)(hQ:∀ c a w,Q (.panic c) (a.put (some d) undef) w->Q (.panic c) a w:=by exact fun _ _ _ h=>h):wpAnyH P md ops Q S (fuel + 1) listed a w:=
 wpAnyH_take hi hs hf hr hQ (Or.inr ⟨hw,rfl⟩) hS (ha ▸ h)
theorem zR(i:Nat)(d:Option Tmp){op:Op}{ty:TypeId}{ps:String}{af gd:_}(hi:ops[i]?=some { dst:=d,op:=op,type:=ty,pos:=ps,after:=af,guard:=gd })(h:∀ K':Act->World->Prop,Shut (∀ a w,S w->(S w->wpAnyH P md ops Q S fuel (listed.setIfInBounds i true) a w)->K' a w)->if Region.wanted { dst:=d,op:=op,type:=ty,pos:=ps,after:=af,guard:=gd } (yielded ops a.tmps)=true then Oper.wp P { dst:=d,op:=op,type:=ty,pos:=ps,after:=af,guard:=gd } a w K' Q else K' (a.put d undef) w)(hr:Region.ready md ops listed=[i]:=by as_aux_lemma=>kernel_rfl):wpAnyH P md ops Q S (fuel + 1) listed a w:=
 wpAnyH_ready hr (by simp) (AllReadyH.cons hi h AllReadyH.nil)
end
theorem qH{p:Prop}(h:p):Hid p:=Lib.hid h
theorem qC2{w:World}{g:Nat}{t:TypeId}{v0 v1:Value}(h:Blk w g t #[v0,v1]):w.cell? ⟨g,0,none⟩=some v0/\w.cell? ⟨g,1,none⟩=some v1:=⟨h.cell 0,h.cell 1⟩
theorem qC3{w:World}{g:Nat}{t:TypeId}{v0 v1 v2:Value}(h:Blk w g t #[v0,v1,v2]):w.cell? ⟨g,0,none⟩=some v0/\w.cell? ⟨g,1,none⟩=some v1/\w.cell? ⟨g,2,none⟩=some v2:=⟨h.cell 0,h.cell 1,h.cell 2⟩
theorem qC4{w:World}{g:Nat}{t:TypeId}{v0 v1 v2 v3:Value}(h:Blk w g t #[v0,v1,v2,v3]):w.cell? ⟨g,0,none⟩=some v0/\w.cell? ⟨g,1,none⟩=some v1/\w.cell? ⟨g,2,none⟩=some v2/\w.cell? ⟨g,3,none⟩=some v3:=⟨h.cell 0,h.cell 1,h.cell 2,h.cell 3⟩
theorem qC5{w:World}{g:Nat}{t:TypeId}{v0 v1 v2 v3 v4:Value}(h:Blk w g t #[v0,v1,v2,v3,v4]):w.cell? ⟨g,0,none⟩=some v0/\w.cell? ⟨g,1,none⟩=some v1/\w.cell? ⟨g,2,none⟩=some v2/\w.cell? ⟨g,3,none⟩=some v3/\w.cell? ⟨g,4,none⟩=some v4:=⟨h.cell 0,h.cell 1,h.cell 2,h.cell 3,h.cell 4⟩
theorem qC6{w:World}{g:Nat}{t:TypeId}{v0 v1 v2 v3 v4 v5:Value}(h:Blk w g t #[v0,v1,v2,v3,v4,v5]):w.cell? ⟨g,0,none⟩=some v0/\w.cell? ⟨g,1,none⟩=some v1/\w.cell? ⟨g,2,none⟩=some v2/\w.cell? ⟨g,3,none⟩=some v3/\w.cell? ⟨g,4,none⟩=some v4/\w.cell? ⟨g,5,none⟩=some v5:=⟨h.cell 0,h.cell 1,h.cell 2,h.cell 3,h.cell 4,h.cell 5⟩
theorem qC9{w:World}{g:Nat}{t:TypeId}{v0 v1 v2 v3 v4 v5 v6 v7 v8:Value}(h:Blk w g t #[v0,v1,v2,v3,v4,v5,v6,v7,v8]):w.cell? ⟨g,0,none⟩=some v0/\w.cell? ⟨g,1,none⟩=some v1/\w.cell? ⟨g,2,none⟩=some v2/\w.cell? ⟨g,3,none⟩=some v3/\w.cell? ⟨g,4,none⟩=some v4/\w.cell? ⟨g,5,none⟩=some v5/\w.cell? ⟨g,6,none⟩=some v6/\w.cell? ⟨g,7,none⟩=some v7/\w.cell? ⟨g,8,none⟩=some v8:=⟨h.cell 0,h.cell 1,h.cell 2,h.cell 3,h.cell 4,h.cell 5,h.cell 6,h.cell 7,h.cell 8⟩
theorem yY{w:World}{g:Nat}{t:TypeId}{v0 v1 v2 v3 v4 v5 v6 v7 v8 v9 v10 v11 v12 v13 v14:Value}(h:Blk w g t #[v0,v1,v2,v3,v4,v5,v6,v7,v8,v9,v10,v11,v12,v13,v14]):w.cell? ⟨g,0,none⟩=some v0/\w.cell? ⟨g,1,none⟩=some v1/\w.cell? ⟨g,2,none⟩=some v2/\w.cell? ⟨g,3,none⟩=some v3/\w.cell? ⟨g,4,none⟩=some v4/\w.cell? ⟨g,5,none⟩=some v5/\w.cell? ⟨g,6,none⟩=some v6/\w.cell? ⟨g,7,none⟩=some v7/\w.cell? ⟨g,8,none⟩=some v8/\w.cell? ⟨g,9,none⟩=some v9/\w.cell? ⟨g,10,none⟩=some v10/\w.cell? ⟨g,11,none⟩=some v11/\w.cell? ⟨g,12,none⟩=some v12/\w.cell? ⟨g,13,none⟩=some v13/\w.cell? ⟨g,14,none⟩=some v14:=⟨h.cell 0,h.cell 1,h.cell 2,h.cell 3,h.cell 4,h.cell 5,h.cell 6,h.cell 7,h.cell 8,h.cell 9,h.cell 10,h.cell 11,h.cell 12,h.cell 13,h.cell 14⟩
end Go.Proofs.YtpiehlfffjhoaaaGreatDoor
