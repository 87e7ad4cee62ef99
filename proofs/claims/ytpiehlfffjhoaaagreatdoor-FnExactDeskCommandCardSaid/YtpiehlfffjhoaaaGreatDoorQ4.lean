/- Lemmas for the law on the console: the parts DeskU,DkS,DkM,OutA. -/
import Derived.Test.YtpiehlfffjhoaaaGreatDoorQ3
import Derived.Deep.DeepCutAuto
namespace Go.Proofs.YtpiehlfffjhoaaaGreatDoor
open Go.RowKit Go.Proofs.Tryz
set_option maxRecDepth 100000
set_option maxHeartbeats 4000000
theorem wD{w:World}{base e size n g:Nat}{v:Value}{cs:List Value}(h:w.ownsRow base e size v n cs)(hp:∀ g',v.ownBlock=some g'->g'≠g)(u:Array Value):(w.setRow g u).ownsRow base e size v n cs:=
 h.kept (w':=w.setRow g u) (row:=some g) ⟨rfl,rfl,rfl,by simp,fun k _ hk=>setRow_other w g k u (fun e=>hk (by rw [e]))⟩ (by
  cases hv:v.ownBlock with
  | none=>exact .inl rfl
  | some g'=>exact .inr (fun e=>hp g' hv (Option.some.inj e)))
def zdW(f:Foot)(s:Style)(lg:ByteArray)(n:Nat)(cs:List Value)(w:World)(e:Ending)(w':World):Prop:=
 ∃ g,e=.returned (Value.agg #[.int .i64 f.length,.int .i64 f.b,.int .i64 f.i,.int .i64 f.h,.slice (some ⟨g,0,none⟩) n n,.string s.u,.string s.c,.string s.l,.string s.s,.int .i64 s.t,.int .i64 s.h,.int .i64 s.e,.int .i64 s.d,.bool s.q,.string lg])/\w'.ownsRow w.heap.size 100 6 (Value.slice (some ⟨g,0,none⟩) n n) n cs/\Below w.heap.size w w'
theorem zbI(f:Foot)(s:Style)(lg:ByteArray)(A:Option Addr)(xs:List Last)(n c:Nat)(hn:Hid (xs.length=n))(hm:(n:Int)<=1048576)(w:World)(hA:Arr w A (zd Last.cells xs)) :
 Calls prog 16 #[Value.agg #[.int .i64 f.length,.int .i64 f.b,.int .i64 f.i,.int .i64 f.h,.slice A n c,.string s.u,.string s.c,.string s.l,.string s.s,.int .i64 s.t,.int .i64 s.h,.int .i64 s.e,.int .i64 s.d,.bool s.q,.string lg]] w (zdW f s lg n (zd Last.cells xs) w):=by
 go_in;go_wp2_with fail;obtain ⟨W,hW⟩:=zN (((w.alloc (Obj.cells (cD f A n c s lg) 45)).alloc (Obj.cells cE 32)).alloc (Obj.cells cE 32));obtain ⟨g0,hg0⟩:=zN w.heap.size;obtain ⟨g1,hg1⟩:=zN (w.heap.size + 1);obtain ⟨g2,hg2⟩:=zN (w.heap.size + 1 + 1);have hv:Below w.heap.size w W:=by rw [hW];exact zc (zc (zc (Below.refl _ _) _) _) _
 have b0:Blk W g0 45 (cD f A n c s lg):=by rw [hW,hg0];exact ((Blk.new _ _ _).alloc _).alloc _
 have b1:Blk W g1 32 cE:=by rw [hW,hg1];refine Blk.alloc ?_ _;have h:=Blk.new (w.alloc (Obj.cells (cD f A n c s lg) 45)) 32 cE;simpa using h
 have b2:Blk W g2 32 cE:=by rw [hW,hg2];have h:=Blk.new ((w.alloc (Obj.cells (cD f A n c s lg) 45)).alloc (Obj.cells cE 32)) 32 cE;simpa using h
 rw [<-hW,<-hg2,<-hg1,<-hg0];have hsz:W.heap.size=g2 + 1:=by rw [hW,hg2];simp
 have hge1:w.heap.size<=g1:=by omega
 have hge2:w.heap.size<=g2:=by omega
 have h02:g0≠g2:=by omega
 have h12:g1≠g2:=by omega
 have h12':g1 < g2:=by omega
 clear hW hg2 hg1 hg0;refine qS (zbJ f _) fun W1 hb=>?_;have hs1:=hb.size;replace hv:=za hv hb;replace b0:=b0.below hb;replace b1:=b1.below hb;replace b2:=b2.below hb;clear hb;obtain ⟨k0,k1,k2,k3,k4,k5,k6,k7,k8,k9,k10,k11,k12,k13,k14⟩:=yY b0;have r0:W1.frozen? ⟨g2,0,none⟩=false:=b2.frozen 0;have r1:W1.frozen? ⟨g2,1,none⟩=false:=b2.frozen 1;have r2:W1.frozen? ⟨g2,2,none⟩=false:=b2.frozen 2;have r3:W1.frozen? ⟨g2,3,none⟩=false:=b2.frozen 3;obtain ⟨q0,q1,q2,q3,q4,q5,q6,q7,q8,q9,q10,q11,q12,q13,q14⟩:=yY b2;have H1:=qH hsz;have H2:=qH hs1;clear hsz hs1;go_wp2_with fail;clear k0 k1 k2 k3 k4 k5 k6 k7 k8 k9 k10 k11 k12 k13 k14 r0 r1 r2 r3 q0 q1 q2 q3 q4 q5 q6 q7 q8 q9 q10 q11 q12 q13 q14;refine (aS A xs n c hn hm _ (hA.below (zk (zk (zk (zk hv hge2 _) hge2 _) hge2 _) hge2 _))).mono ?_;rintro e W2 ⟨g,rfl,hown,hb⟩;have hgt:g2 < g:=by
  have h1:=(hown.lt g rfl).1;have h2:=H1.out;have h3:=H2.out;simp at h1;omega
 replace hown:=yF hown ((zk (zk (zk (zk hv hge2 _) hge2 _) hge2 _) hge2 _)).size;replace hv:=za (zk (zk (zk (zk hv hge2 _) hge2 _) hge2 _) hge2 _) hb;replace b0:=((((b0.far (p:=⟨g2,0,none⟩) h02 _).far (p:=⟨g2,1,none⟩) h02 _).far (p:=⟨g2,2,none⟩) h02 _).far (p:=⟨g2,3,none⟩) h02 _).below hb;replace b1:=((((b1.far (p:=⟨g2,0,none⟩) h12 _).far (p:=⟨g2,1,none⟩) h12 _).far (p:=⟨g2,2,none⟩) h12 _).far (p:=⟨g2,3,none⟩) h12 _).below hb;have b2':Blk W2 g2 32 #[.int .i64 f.length,.int .i64 f.b,.int .i64 f.i,.int .i64 f.h,.slice none 0 0,.string ⟨#[]⟩,.string ⟨#[]⟩,.string ⟨#[]⟩,.string ⟨#[]⟩,.int .i64 0,.int .i64 0,.int .i64 0,.int .i64 0,.bool false,.string ⟨#[]⟩]:=((((b2.set_ 0 _).set_ 1 _).set_ 2 _).set_ 3 _).below hb;clear hb b2;obtain ⟨k0,k1,k2,k3,k4,k5,k6,k7,k8,k9,k10,k11,k12,k13,k14⟩:=yY b0;have r4:=b2'.frozen 4;obtain ⟨q0,q1,q2,q3,q4,q5,q6,q7,q8,q9,q10,q11,q12,q13,q14⟩:=yY b2';have hgo2:∀ g',Value.ownBlock (Value.slice (some ⟨g,0,none⟩) n n)=some g'->g'≠g2:=by intro g' h;simp [Value.ownBlock] at h;omega
 have hgo1:∀ g',Value.ownBlock (Value.slice (some ⟨g,0,none⟩) n n)=some g'->g'≠g1:=by intro g' h;simp [Value.ownBlock] at h;omega
 go_wp2_with fail;clear k0 k1 k2 k3 k4 k5 k6 k7 k8 k9 k10 k11 k12 k13 k14 r4 q0 q1 q2 q3 q4 q5 q6 q7 q8 q9 q10 q11 q12 q13 q14;refine qS (aT s _) fun W3 hb=>?_;replace hown:=ze (yy (p:=⟨g2,4,none⟩) hown hgo2 _) hb;replace hv:=za (zk hv hge2 _) hb;replace b0:=(b0.far (p:=⟨g2,4,none⟩) h02 _).below hb;replace b1:=(b1.far (p:=⟨g2,4,none⟩) h12 _).below hb;have b2:Blk W3 g2 32 #[.int .i64 f.length,.int .i64 f.b,.int .i64 f.i,.int .i64 f.h,.slice (some ⟨g,0,none⟩) n n,.string ⟨#[]⟩,.string ⟨#[]⟩,.string ⟨#[]⟩,.string ⟨#[]⟩,.int .i64 0,.int .i64 0,.int .i64 0,.int .i64 0,.bool false,.string ⟨#[]⟩]:=(b2'.set_ 4 _).below hb;clear hb b2';have k14:=pt b0;have q5:=yc5 b2;have q6:=yc6 b2;have q7:=yc7 b2;have q8:=yc8 b2;have q9:=yc9 b2;have q10:=zdn b2;have q11:=zdo b2;have q12:=zdp b2;have q13:=zdq b2;have q14:=pt b2;have r5:W3.frozen? ⟨g2,5,none⟩=false:=b2.frozen 5;have r6:W3.frozen? ⟨g2,6,none⟩=false:=b2.frozen 6;have r7:W3.frozen? ⟨g2,7,none⟩=false:=b2.frozen 7;have r8:W3.frozen? ⟨g2,8,none⟩=false:=b2.frozen 8;have r9:W3.frozen? ⟨g2,9,none⟩=false:=b2.frozen 9;have r10:W3.frozen? ⟨g2,10,none⟩=false:=b2.frozen 10;have r11:W3.frozen? ⟨g2,11,none⟩=false:=b2.frozen 11;have r12:W3.frozen? ⟨g2,12,none⟩=false:=b2.frozen 12;have r13:W3.frozen? ⟨g2,13,none⟩=false:=b2.frozen 13;have r14:W3.frozen? ⟨g2,14,none⟩=false:=b2.frozen 14;replace bX:Blk (W3.setCell ⟨g2,5,none⟩ (Value.string s.u)) g2 32 #[.int .i64 f.length,.int .i64 f.b,.int .i64 f.i,.int .i64 f.h,.slice (some ⟨g,0,none⟩) n n,.string s.u,.string ⟨#[]⟩,.string ⟨#[]⟩,.string ⟨#[]⟩,.int .i64 0,.int .i64 0,.int .i64 0,.int .i64 0,.bool false,.string ⟨#[]⟩]:=b2.set_ 5 (Value.string s.u);replace bX:Blk ((W3.setCell ⟨g2,5,none⟩ (Value.string s.u)).setCell ⟨g2,6,none⟩ (Value.string s.c)) g2 32 #[Value.int .i64 f.length,Value.int .i64 f.b,Value.int .i64 f.i,Value.int .i64 f.h,Value.slice (some ⟨g,0,none⟩) n n,Value.string s.u,Value.string s.c,Value.string ⟨#[]⟩,Value.string ⟨#[]⟩,Value.int .i64 0,Value.int .i64 0,Value.int .i64 0,Value.int .i64 0,Value.bool false,Value.string ⟨#[]⟩]:=bX.set_ 6 (Value.string s.c);replace bX:Blk (((W3.setCell ⟨g2,5,none⟩ (Value.string s.u)).setCell ⟨g2,6,none⟩ (Value.string s.c)).setCell ⟨g2,7,none⟩ (Value.string s.l)) g2 32 #[Value.int .i64 f.length,Value.int .i64 f.b,Value.int .i64 f.i,Value.int .i64 f.h,Value.slice (some ⟨g,0,none⟩) n n,Value.string s.u,Value.string s.c,Value.string s.l,Value.string ⟨#[]⟩,Value.int .i64 0,Value.int .i64 0,Value.int .i64 0,Value.int .i64 0,Value.bool false,Value.string ⟨#[]⟩]:=bX.set_ 7 (Value.string s.l);replace bX:Blk ((((W3.setCell ⟨g2,5,none⟩ (Value.string s.u)).setCell ⟨g2,6,none⟩ (Value.string s.c)).setCell ⟨g2,7,none⟩ (Value.string s.l)).setCell ⟨g2,8,none⟩ (Value.string s.s)) g2 32 #[Value.int .i64 f.length,Value.int .i64 f.b,Value.int .i64 f.i,Value.int .i64 f.h,Value.slice (some ⟨g,0,none⟩) n n,Value.string s.u,Value.string s.c,Value.string s.l,Value.string s.s,Value.int .i64 0,Value.int .i64 0,Value.int .i64 0,Value.int .i64 0,Value.bool false,Value.string ⟨#[]⟩]:=bX.set_ 8 (Value.string s.s);replace bX:Blk (((((W3.setCell ⟨g2,5,none⟩ (Value.string s.u)).setCell ⟨g2,6,none⟩ (Value.string s.c)).setCell ⟨g2,7,none⟩ (Value.string s.l)).setCell ⟨g2,8,none⟩ (Value.string s.s)).setCell ⟨g2,9,none⟩ (Value.int .i64 s.t)) g2 32 #[Value.int .i64 f.length,Value.int .i64 f.b,Value.int .i64 f.i,Value.int .i64 f.h,Value.slice (some ⟨g,0,none⟩) n n,Value.string s.u,Value.string s.c,Value.string s.l,Value.string s.s,Value.int .i64 s.t,Value.int .i64 0,Value.int .i64 0,Value.int .i64 0,Value.bool false,Value.string ⟨#[]⟩]:=bX.set_ 9 (Value.int .i64 s.t);replace bX:Blk ((((((W3.setCell ⟨g2,5,none⟩ (Value.string s.u)).setCell ⟨g2,6,none⟩ (Value.string s.c)).setCell ⟨g2,7,none⟩ (Value.string s.l)).setCell ⟨g2,8,none⟩ (Value.string s.s)).setCell ⟨g2,9,none⟩ (Value.int .i64 s.t)).setCell ⟨g2,10,none⟩ (Value.int .i64 s.h)) g2 32 #[Value.int .i64 f.length,Value.int .i64 f.b,Value.int .i64 f.i,Value.int .i64 f.h,Value.slice (some ⟨g,0,none⟩) n n,Value.string s.u,Value.string s.c,Value.string s.l,Value.string s.s,Value.int .i64 s.t,Value.int .i64 s.h,Value.int .i64 0,Value.int .i64 0,Value.bool false,Value.string ⟨#[]⟩]:=bX.set_ 10 (Value.int .i64 s.h);replace bX:Blk (((((((W3.setCell ⟨g2,5,none⟩ (Value.string s.u)).setCell ⟨g2,6,none⟩ (Value.string s.c)).setCell ⟨g2,7,none⟩ (Value.string s.l)).setCell ⟨g2,8,none⟩ (Value.string s.s)).setCell ⟨g2,9,none⟩ (Value.int .i64 s.t)).setCell ⟨g2,10,none⟩ (Value.int .i64 s.h)).setCell ⟨g2,11,none⟩ (Value.int .i64 s.e)) g2 32 #[Value.int .i64 f.length,Value.int .i64 f.b,Value.int .i64 f.i,Value.int .i64 f.h,Value.slice (some ⟨g,0,none⟩) n n,Value.string s.u,Value.string s.c,Value.string s.l,Value.string s.s,Value.int .i64 s.t,Value.int .i64 s.h,Value.int .i64 s.e,Value.int .i64 0,Value.bool false,Value.string ⟨#[]⟩]:=bX.set_ 11 (Value.int .i64 s.e);replace bX:Blk ((((((((W3.setCell ⟨g2,5,none⟩ (Value.string s.u)).setCell ⟨g2,6,none⟩ (Value.string s.c)).setCell ⟨g2,7,none⟩ (Value.string s.l)).setCell ⟨g2,8,none⟩ (Value.string s.s)).setCell ⟨g2,9,none⟩ (Value.int .i64 s.t)).setCell ⟨g2,10,none⟩ (Value.int .i64 s.h)).setCell ⟨g2,11,none⟩ (Value.int .i64 s.e)).setCell ⟨g2,12,none⟩ (Value.int .i64 s.d)) g2 32 #[Value.int .i64 f.length,Value.int .i64 f.b,Value.int .i64 f.i,Value.int .i64 f.h,Value.slice (some ⟨g,0,none⟩) n n,Value.string s.u,Value.string s.c,Value.string s.l,Value.string s.s,Value.int .i64 s.t,Value.int .i64 s.h,Value.int .i64 s.e,Value.int .i64 s.d,Value.bool false,Value.string ⟨#[]⟩]:=bX.set_ 12 (Value.int .i64 s.d);replace bX:Blk (((((((((W3.setCell ⟨g2,5,none⟩ (Value.string s.u)).setCell ⟨g2,6,none⟩ (Value.string s.c)).setCell ⟨g2,7,none⟩ (Value.string s.l)).setCell ⟨g2,8,none⟩ (Value.string s.s)).setCell ⟨g2,9,none⟩ (Value.int .i64 s.t)).setCell ⟨g2,10,none⟩ (Value.int .i64 s.h)).setCell ⟨g2,11,none⟩ (Value.int .i64 s.e)).setCell ⟨g2,12,none⟩ (Value.int .i64 s.d)).setCell ⟨g2,13,none⟩ (Value.bool s.q)) g2 32 #[Value.int .i64 f.length,Value.int .i64 f.b,Value.int .i64 f.i,Value.int .i64 f.h,Value.slice (some ⟨g,0,none⟩) n n,Value.string s.u,Value.string s.c,Value.string s.l,Value.string s.s,Value.int .i64 s.t,Value.int .i64 s.h,Value.int .i64 s.e,Value.int .i64 s.d,Value.bool s.q,Value.string ⟨#[]⟩]:=bX.set_ 13 (Value.bool s.q);replace bX:Blk ((((((((((W3.setCell ⟨g2,5,none⟩ (Value.string s.u)).setCell ⟨g2,6,none⟩ (Value.string s.c)).setCell ⟨g2,7,none⟩ (Value.string s.l)).setCell ⟨g2,8,none⟩ (Value.string s.s)).setCell ⟨g2,9,none⟩ (Value.int .i64 s.t)).setCell ⟨g2,10,none⟩ (Value.int .i64 s.h)).setCell ⟨g2,11,none⟩ (Value.int .i64 s.e)).setCell ⟨g2,12,none⟩ (Value.int .i64 s.d)).setCell ⟨g2,13,none⟩ (Value.bool s.q)).setCell ⟨g2,14,none⟩ (Value.string lg)) g2 32 (cD f (some ⟨g,0,none⟩) n n s lg):=bX.set_ 14 (Value.string lg);have cX:Blk ((((((((((W3.setCell ⟨g2,5,none⟩ (Value.string s.u)).setCell ⟨g2,6,none⟩ (Value.string s.c)).setCell ⟨g2,7,none⟩ (Value.string s.l)).setCell ⟨g2,8,none⟩ (Value.string s.s)).setCell ⟨g2,9,none⟩ (Value.int .i64 s.t)).setCell ⟨g2,10,none⟩ (Value.int .i64 s.h)).setCell ⟨g2,11,none⟩ (Value.int .i64 s.e)).setCell ⟨g2,12,none⟩ (Value.int .i64 s.d)).setCell ⟨g2,13,none⟩ (Value.bool s.q)).setCell ⟨g2,14,none⟩ (Value.string lg)) g1 32 cE:=((((((((((b1.far (p:=⟨g2,5,none⟩) h12 (Value.string s.u)).far (p:=⟨g2,6,none⟩) h12 (Value.string s.c)).far (p:=⟨g2,7,none⟩) h12 (Value.string s.l)).far (p:=⟨g2,8,none⟩) h12 (Value.string s.s)).far (p:=⟨g2,9,none⟩) h12 (Value.int .i64 s.t)).far (p:=⟨g2,10,none⟩) h12 (Value.int .i64 s.h)).far (p:=⟨g2,11,none⟩) h12 (Value.int .i64 s.e)).far (p:=⟨g2,12,none⟩) h12 (Value.int .i64 s.d)).far (p:=⟨g2,13,none⟩) h12 (Value.bool s.q)).far (p:=⟨g2,14,none⟩) h12 (Value.string lg))
 have hvX:Below w.heap.size w ((((((((((W3.setCell ⟨g2,5,none⟩ (Value.string s.u)).setCell ⟨g2,6,none⟩ (Value.string s.c)).setCell ⟨g2,7,none⟩ (Value.string s.l)).setCell ⟨g2,8,none⟩ (Value.string s.s)).setCell ⟨g2,9,none⟩ (Value.int .i64 s.t)).setCell ⟨g2,10,none⟩ (Value.int .i64 s.h)).setCell ⟨g2,11,none⟩ (Value.int .i64 s.e)).setCell ⟨g2,12,none⟩ (Value.int .i64 s.d)).setCell ⟨g2,13,none⟩ (Value.bool s.q)).setCell ⟨g2,14,none⟩ (Value.string lg)):=(zk (p:=⟨g2,14,none⟩) (zk (p:=⟨g2,13,none⟩) (zk (p:=⟨g2,12,none⟩) (zk (p:=⟨g2,11,none⟩) (zk (p:=⟨g2,10,none⟩) (zk (p:=⟨g2,9,none⟩) (zk (p:=⟨g2,8,none⟩) (zk (p:=⟨g2,7,none⟩) (zk (p:=⟨g2,6,none⟩) (zk (p:=⟨g2,5,none⟩) hv hge2 (Value.string s.u)) hge2 (Value.string s.c)) hge2 (Value.string s.l)) hge2 (Value.string s.s)) hge2 (Value.int .i64 s.t)) hge2 (Value.int .i64 s.h)) hge2 (Value.int .i64 s.e)) hge2 (Value.int .i64 s.d)) hge2 (Value.bool s.q)) hge2 (Value.string lg))
 have hoX:World.ownsRow ((((((((((W3.setCell ⟨g2,5,none⟩ (Value.string s.u)).setCell ⟨g2,6,none⟩ (Value.string s.c)).setCell ⟨g2,7,none⟩ (Value.string s.l)).setCell ⟨g2,8,none⟩ (Value.string s.s)).setCell ⟨g2,9,none⟩ (Value.int .i64 s.t)).setCell ⟨g2,10,none⟩ (Value.int .i64 s.h)).setCell ⟨g2,11,none⟩ (Value.int .i64 s.e)).setCell ⟨g2,12,none⟩ (Value.int .i64 s.d)).setCell ⟨g2,13,none⟩ (Value.bool s.q)).setCell ⟨g2,14,none⟩ (Value.string lg)) w.heap.size 100 6 (Value.slice (some ⟨g,0,none⟩) n n) n (zd Last.cells xs):=(yy (p:=⟨g2,14,none⟩) (yy (p:=⟨g2,13,none⟩) (yy (p:=⟨g2,12,none⟩) (yy (p:=⟨g2,11,none⟩) (yy (p:=⟨g2,10,none⟩) (yy (p:=⟨g2,9,none⟩) (yy (p:=⟨g2,8,none⟩) (yy (p:=⟨g2,7,none⟩) (yy (p:=⟨g2,6,none⟩) (yy (p:=⟨g2,5,none⟩) hown hgo2 (Value.string s.u)) hgo2 (Value.string s.c)) hgo2 (Value.string s.l)) hgo2 (Value.string s.s)) hgo2 (Value.int .i64 s.t)) hgo2 (Value.int .i64 s.h)) hgo2 (Value.int .i64 s.e)) hgo2 (Value.int .i64 s.d)) hgo2 (Value.bool s.q)) hgo2 (Value.string lg))
 clear b0 b1 b2 hv hown;obtain ⟨X,hX⟩:=zN ((((((((((W3.setCell ⟨g2,5,none⟩ (Value.string s.u)).setCell ⟨g2,6,none⟩ (Value.string s.c)).setCell ⟨g2,7,none⟩ (Value.string s.l)).setCell ⟨g2,8,none⟩ (Value.string s.s)).setCell ⟨g2,9,none⟩ (Value.int .i64 s.t)).setCell ⟨g2,10,none⟩ (Value.int .i64 s.h)).setCell ⟨g2,11,none⟩ (Value.int .i64 s.e)).setCell ⟨g2,12,none⟩ (Value.int .i64 s.d)).setCell ⟨g2,13,none⟩ (Value.bool s.q)).setCell ⟨g2,14,none⟩ (Value.string lg));rw [<-hX] at bX cX hvX hoX;have HB:=qH bX;have HC:=qH cX;have HV:=qH hvX;have HO:=qH hoX;have HX:=qH hX;clear bX cX hvX hoX hX;go_wp2_with (refine wpList_load_row rfl 32 _ rfl g2 rfl 32 (cD f (some ⟨g,0,none⟩) n n s lg) (0,0) _ ?_ underlying32 rfl (by kernel_rfl) ?_;(rw [<-HX.out];exact HB.out);rw [<-HX.out];refine yS g1 (cD f (some ⟨g,0,none⟩) n n s lg) HC.out ?_)
 refine bodyPost_ret (results_cell_row (P:=prog) rfl _ _ g1 32 (cD f (some ⟨g,0,none⟩) n n s lg) (0,0) _ rfl ?_ underlying32 rfl (by kernel_rfl)) rfl ?_
 ·exact setRow_heap _ _ _ _ _ _ HC.out
 ·exact ⟨g,rfl,wD HO.out hgo1 _,below_setRow HV.out hge1 _⟩
theorem hU:∀ (l:List Nat) (q:Int),0<=xf l q->∀ s ∈ l,(s:Int)<=q
 | [],_,_,_,h=>by simp at h
 | a :: r,q,h,s,hs=>by
   by_cases h0:q - a < 0
   ·rw [oy h0] at h;omega
   · rw [ox (by omega)] at h;rcases List.mem_cons.1 hs with rfl | hs
     ·omega
     ·have:=hU r _ h s hs;omega
theorem om{P:Program}{eval:Operand->Value}{o:Oper}{w:World}(ty:TypeId)(x:Operand)(ho:o.op=.load ty x)(g:Nat)(hx:eval x=.pointer (some ⟨g,0,none⟩))(t:TypeId)(cs:Array Value)(d:TypeDesc)(hg:w.heap[g]?=some (.cells cs t (0,0)))(hu:P.underlying ty=some d)(hd:(match d with | .struct _ | .array _ _=>true | _=>false)=true)(hi:(P.info? ty).map (·.size)=some cs.size):(execOp eval o).run P w=.ok (.value (.agg cs)) w:=by
 unfold execOp;simp only [ho,hx,Instr.loadAt,Instr.sureAddr,Sem.run_bind,Sem.run_pure,Result.andThen_ok,run_loadVar_row w g t ty cs (0,0) d hg hu hd hi]
def zbU(P:Prop)(left:Int)(w:World)(e:Ending)(w':World):Prop:=∃ q:Int,e=.returned (.int .i64 q)/\q<=left/\(0<=q->P)/\Below w.heap.size w w'
def qm(n:Nat)(s:Style)(lg:ByteArray):Prop:=(n:Int)<=1048576/\lg.size<=1048576/\s.u.size<=1048576/\s.c.size<=1048576/\s.l.size<=1048576/\s.s.size<=1048576
theorem aO(f:Foot)(s:Style)(lg:ByteArray)(A:Option Addr)(xs:List Last)(n c:Nat)(left:Int)(hn:Hid (xs.length=n))(hm:n<=9223372036854775807)(hs:Hid (∀ x ∈ xs,x.name.size<=9223372036854775807))(hs0:s.u.size<=9223372036854775807)(hs1:s.c.size<=9223372036854775807)(hs2:s.l.size<=9223372036854775807)(hs3:s.s.size<=9223372036854775807)(hlg:lg.size<=9223372036854775807)(h0:0<=left)(hl:left<=1048576)(w:World)(hA:Arr w A (zd Last.cells xs)) :
 Calls prog 14 #[Value.agg #[.int .i64 f.length,.int .i64 f.b,.int .i64 f.i,.int .i64 f.h,.slice A n c,.string s.u,.string s.c,.string s.l,.string s.s,.int .i64 s.t,.int .i64 s.h,.int .i64 s.e,.int .i64 s.d,.bool s.q,.string lg],.int .i64 left] w (zbU (qm n s lg) left w):=by
 have hle:=zdk Last.sizes xs left h0;go_in;go_wp2_with fail;obtain ⟨W,hW⟩:=zN (w.alloc (Obj.cells (cD f A n c s lg) 45));obtain ⟨g0,hg0⟩:=zN w.heap.size;have hv:Below w.heap.size w W:=by rw [hW];exact zc (Below.refl _ _) _
 have b0:Blk W g0 45 (cD f A n c s lg):=by rw [hW,hg0];exact Blk.new _ _ _
 rw [<-hW,<-hg0];clear hW hg0;refine qS (aP A xs n c left hn hm hs h0 hl _ (hA.below hv)) fun W hb=>?_;replace hv:=za hv hb;replace b0:=b0.below hb;clear hb;obtain ⟨k0,k1,k2,k3,k4,k5,k6,k7,k8,k9,k10,k11,k12,k13,k14⟩:=yY b0;have hlen:=qH (fun h=>zcR (f:=Last.sizes) (xs:=xs) (l:=left) h hl);obtain ⟨q,hq'⟩:∃ q,q=szS Last.sizes xs left:=⟨_,rfl⟩
 rw [<-hq'] at hle hlen |-;clear hq';by_cases hq:q < 0
 ·go_wp2;go_returns;exact ⟨-1,rfl,by omega,by omega,hv⟩
 have hz:(n:Int)<=1048576:=by rw [<-hn.out];exact hlen.out (by omega)
 have hle2:=mV s.sizes q (by omega);have hall:=qH (hU s.sizes q);go_wp2_with fail;clear k0 k1 k2 k3 k4 k5 k6 k7 k8 k9 k10 k11 k12 k13 k14;refine qS (aQ s q hs0 hs1 hs2 hs3 (by omega) (by omega) _) fun W hb=>?_;replace hv:=za hv hb;replace b0:=b0.below hb;clear hb;obtain ⟨k0,k1,k2,k3,k4,k5,k6,k7,k8,k9,k10,k11,k12,k13,k14⟩:=yY b0;obtain ⟨r,hr'⟩:∃ r,r=xf s.sizes q:=⟨_,rfl⟩
 rw [<-hr'] at hle2 hall |-;clear hr';by_cases hr:r < 0
 ·go_wp2;go_returns;exact ⟨-1,rfl,by omega,by omega,hv⟩
 by_cases ht:r - (lg.size:Int) < 0
 ·go_wp2;go_returns;exact ⟨-1,rfl,by omega,by omega,hv⟩
 · have hh:=hall.out (by omega);have z0:=hh s.u.size (by simp [Style.sizes]);have z1:=hh s.c.size (by simp [Style.sizes]);have z2:=hh s.l.size (by simp [Style.sizes]);have z3:=hh s.s.size (by simp [Style.sizes]);have hP:qm n s lg:=by unfold qm;omega
   have HP:=qH hP;clear hP hh z0 z1 z2 z3 hall;go_wp2;go_returns;exact ⟨_,rfl,by omega,fun _=>HP.out,hv⟩
theorem tq(A B:Option Addr)(xs:List ByteArray)(n c d:Nat)(hn:Hid (xs.length=n))(hz:(n:Int)<=9223372036854775807)(w:World)(hA:Arr w A (zd zt xs))(hB:Arr w B (zd zt xs)) :
 Calls prog 18 #[.slice A n c,.slice B n d] w (Ret (.bool true) w):=by
 have h:=gY A B xs xs n n c d hn hn hz w hA hB
 rwa [decide_eq_true rfl] at h
theorem mh(f:Foot)(s:Style)(lg:ByteArray)(A:Option Addr)(n c base:Nat)(cs:List Value)(q:Int)(h0:0<=q)(h1:q + n * 6<=100000000)(hz:(n:Int)<=10000000)(w:World)(hO:w.ownsRow base 100 6 (.slice A n c) n cs) :
 Calls prog 19 #[Value.agg #[.int .i64 f.length,.int .i64 f.b,.int .i64 f.i,.int .i64 f.h,.slice A n c,.string s.u,.string s.c,.string s.l,.string s.s,.int .i64 s.t,.int .i64 s.h,.int .i64 s.e,.int .i64 s.d,.bool s.q,.string lg],.int .i64 q] w (nI base 100 6 A n c (zd (fun i:Nat=>Last.mkc (q + i * 6)) (List.range n)) (q + n * 6) w):=by
 go_in;go_wp2_with fail;obtain ⟨W,hW⟩:=zN (w.alloc (Obj.cells (cD f A n c s lg) 32));rw [<-hW];have hv:w.grownBy W (A.map (·.block)):=by rw [hW];exact qc (World.grownBy.refl _ _) _
 have hO2:W.ownsRow base 100 6 (.slice A n c) n cs:=by rw [hW];exact ze hO (zc (Below.refl _ _) _)
 clear hW hO;refine (fo A n c base cs q h0 h1 hz _ hO2).mono ?_;rintro e W1 ⟨rfl,hown,hg⟩;go_wp2;go_returns;exact ⟨rfl,hown,vw hv hg⟩
theorem di(f:Foot)(s:Style)(lg:ByteArray)(A:Option Addr)(n c:Nat)(q:Int)(h0:0<=q)(h1:q + n * 6<=100000000)(hz:(n:Int)<=10000000)(w:World)(hA:Arr w A (zd (fun i:Nat=>Last.mkc (q + i * 6)) (List.range n))) :
 Calls prog 21 #[Value.agg #[.int .i64 f.length,.int .i64 f.b,.int .i64 f.i,.int .i64 f.h,.slice A n c,.string s.u,.string s.c,.string s.l,.string s.s,.int .i64 s.t,.int .i64 s.h,.int .i64 s.e,.int .i64 s.d,.bool s.q,.string lg],.int .i64 q] w (Ret (.int .i64 (q + n * 6)) w):=by
 go_in;go_wp2_with fail;obtain ⟨W,hW⟩:=zN (w.alloc (Obj.cells (cD f A n c s lg) 32));rw [<-hW];have hv:Below w.heap.size w W:=by rw [hW];exact zc (Below.refl _ _) _
 clear hW;refine qS (fj A n c q h0 h1 hz _ (hA.below hv)) fun W1 hb=>?_;have hqq:¬ (q + (n:Int) * 6 < 0):=by omega
 go_wp2;go_returns;exact Ret.mk rfl (za hv hb)
def sE{α:Type}(p:α->Bool):List α->Int->Int
 | [],_=>-1
 | x :: r,i=>if p x=true then i else sE p r (i + 1)
theorem zaT{α:Type}(p:α->Bool):∀ (xs:List α) (i:Int),0<=i->(0<=sE p xs i ↔ xs.any p=true):=by
 intro xs
 induction xs with
 | nil=>intro i _;simp [sE]
 | cons x r ih=>
   intro i hi;by_cases hp:p x=true
   ·simp only [sE,List.any_cons,hp,Bool.true_or,if_true];simpa using hi
   ·simp only [sE,List.any_cons,Bool.eq_false_iff.2 hp,Bool.false_or];exact ih (i + 1) (by omega)
theorem zaS{α:Type}(p:α->Bool)(xs:List α)(i:Int)(hi:0<=i):decide (sE p xs i ≥ 0)=xs.any p:=by
 rw [Bool.eq_iff_iff,decide_eq_true_eq];exact zaT p xs i hi
theorem dJ(k lo hi:Int)(g1 g2:Nat)(w:World)(h1:w.cell? ⟨g1,0,none⟩=some (.int .i64 lo))(h2:w.cell? ⟨g2,0,none⟩=some (.int .i64 hi)) :
 Calls prog 184 #[.int .i64 k,.pointer (some ⟨g1,0,none⟩),.pointer (some ⟨g2,0,none⟩)] w (RetQ (.bool (!inB k lo hi)) w):=by
 go_in;go_wp2_with (go_at_call 68;refine (xv _ _ _ _).mono ?_;rintro e w' ⟨rfl,rfl⟩)
 go_returns;exact RetQ.mk rfl
theorem dl(A:Option Addr)(ps:List Int)(m d:Nat)(lo hi:Int)(g1 g2:Nat)(hn:Hid (ps.length=m))(hm:(m:Int)<=9223372036854775807)(w:World)(hl:Blk w g1 2 #[.int .i64 lo])(hh:Blk w g2 2 #[.int .i64 hi])(hA:Arr w A (zd zp ps)) :
 Calls prog 247 #[.slice A m d,.func (.func 184) #[] #[.pointer (some ⟨g1,0,none⟩),.pointer (some ⟨g2,0,none⟩)]] w (RetQ (.int .i64 (sE (fun k=>!inB k lo hi) ps 0)) w):=by
 have h1:=yc0 hl;have h2:=yc0 hh;go_in;go_wp2_with fail;have hR:=qH (show sE (fun k=>!inB k lo hi) ps 0=sE (fun k=>!inB k lo hi) (ps.drop 0) ((0:Nat):Int) from rfl)
 go_loopw [8] (fun i wr=>∃ k:Nat,k<=m/\i=.int .i64 k/\Hid (sE (fun k=>!inB k lo hi) ps 0=sE (fun k=>!inB k lo hi) (ps.drop k) k)/\wr=w) (fun i _=>m - (intOf i).toNat)
 case atStart=>exact ⟨0,by omega,rfl,hR,rfl⟩
 case round=>
  clear hR;obtain ⟨k,hk,rfl,hR,rfl⟩:=hrel;by_cases hlt:k < m
  · obtain ⟨y,hy⟩:=zx (xs:=ps) (k:=k) (by rw [hn.out];exact hlt);obtain ⟨ad,rfl,hab,c0⟩:=yn hA hy;have hR2:=qH (hR.out.trans (by rw [yM hy];rfl:_=if (!inB y lo hi)=true then (k:Int) else sE (fun k=>!inB k lo hi) (ps.drop (k + 1)) (k + 1)));clear hR hy;go_wp2_with fail;refine (dJ y lo hi g1 g2 _ h1 h2).mono ?_;rintro e w1 ⟨rfl,rfl⟩;cases hq:(!inB y lo hi)
    ·have HQ:=qH hq;clear hq;go_wp2_with fail;exact ⟨⟨k + 1,by omega,by go_num,qH (hR2.out.trans (by rw [HQ.out];rfl)),True.intro⟩,by simp [intOf];omega⟩
    ·have HQ:=qH hq;clear hq;go_wp2;go_returns;refine RetQ.mk (vi ?_);rw [hR2.out,HQ.out];rfl
  ·have hR2:=qH (hR.out.trans (by rw [List.drop_eq_nil_of_le (by rw [hn.out];omega)];rfl:_ = -1));clear hR;go_wp2;go_returns;refine RetQ.mk (vi ?_);rw [hR2.out]
theorem kr(A:Option Addr)(ps:List Int)(m d:Nat)(lo hi:Int)(g1 g2:Nat)(hn:Hid (ps.length=m))(hm:(m:Int)<=9223372036854775807)(w:World)(hl:Blk w g1 2 #[.int .i64 lo])(hh:Blk w g2 2 #[.int .i64 hi])(hA:Arr w A (zd zp ps)) :
 Calls prog 183 #[.slice A m d,.func (.func 184) #[] #[.pointer (some ⟨g1,0,none⟩),.pointer (some ⟨g2,0,none⟩)]] w (RetQ (.bool (!ps.all (fun k=>inB k lo hi))) w):=by
 go_in;go_wp2_with fail;refine (dl A ps m d lo hi g1 g2 hn hm _ hl hh hA).mono ?_;rintro e w1 ⟨rfl,rfl⟩;go_wp2;go_returns;refine RetQ.mk (vb ?_);have h:=zaS (fun k=>!inB k lo hi) ps 0 (by omega);rw [List.all_eq_not_any_not,Bool.not_not];exact h
theorem oj(A:Option Addr)(ps:List Int)(m d:Nat)(lo hi:Int)(hn:Hid (ps.length=m))(hm:(m:Int)<=9223372036854775807)(w:World)(hA:Arr w A (zd zp ps)) :
 Calls prog 116 #[.slice A m d,.int .i64 lo,.int .i64 hi] w (Ret (.bool (!ps.all (fun k=>inB k lo hi))) w):=by
 have hl:Blk ((w.alloc (Obj.cells #[.int .i64 lo] 2)).alloc (Obj.cells #[.int .i64 hi] 2)) w.heap.size 2 #[Value.int .i64 lo]:=(Blk.new _ _ _).alloc _;have hh:Blk ((w.alloc (Obj.cells #[.int .i64 lo] 2)).alloc (Obj.cells #[.int .i64 hi] 2)) (w.heap.size + 1) 2 #[Value.int .i64 hi]:=by
  have h:=Blk.new (w.alloc (Obj.cells #[.int .i64 lo] 2)) 2 #[Value.int .i64 hi];simpa using h
 go_in;go_wp2_with fail;refine (kr A ps m d lo hi _ _ hn hm _ hl hh ((hA.alloc _).alloc _)).mono ?_;rintro e w1 ⟨rfl,rfl⟩;go_wp2;go_returns;exact Ret.mk rfl (zc (zc (Below.refl _ _) _) _)
theorem vY{w:World}{g:Nat}{t:TypeId}{C:Array Value}(h:Blk w g t C):Arr w (some ⟨g,0,none⟩) C.toList:=fun _=>by
 refine ⟨_,rfl,h.lt,fun j u hu=>?_⟩;have hadd:(⟨g,0,none⟩:Addr).add j=⟨g,j,none⟩:=by unfold Addr.add;split <;> simp_all
 rw [hadd,h.cell j];simpa using hu
def ym(f:Foot):Bool:=inB f.length 500 5000 && inB f.b 500 5000 && inB f.i 500 5000 && inB f.h 500 5000
def zdz(f:Foot)(w:World)(e:Ending)(w':World):Prop:=∃ g,e=.returned (.slice (some ⟨g,0,none⟩) 4 4)/\Blk w' g 2 (cF f)/\Below w.heap.size w w'
theorem sU(f:Foot)(w:World):Calls prog 94 #[.agg #[.int .i64 f.length,.int .i64 f.b,.int .i64 f.i,.int .i64 f.h]] w (zdz f w):=by
 go_in;go_wp2;go_returns;exact ⟨_,rfl,by have h:=Blk.new (w.alloc (Obj.cells (cF f) 27)) 2 (cF f);simpa using h,zc (zc (Below.refl _ _) _) _⟩
theorem uA(f:Foot)(w:World):Calls prog 60 #[.agg #[.int .i64 f.length,.int .i64 f.b,.int .i64 f.i,.int .i64 f.h]] w (Ret (.bool (ym f)) w):=by
 have hf:ym f=[f.length,f.b,f.i,f.h].all (fun k=>inB k 500 5000):=by simp [ym,Bool.and_assoc]
 have HF:=qH hf;clear hf;go_in;go_wp2_with fail;refine (sU f _).mono ?_;rintro e W ⟨g,rfl,hB,hb⟩;have hv:=za (zc (Below.refl w.heap.size w) _) hb;clear hb;go_wp2_with fail;refine qS (oj (some ⟨g,0,none⟩) [f.length,f.b,f.i,f.h] 4 4 500 5000 (qH rfl) (by omega) _ (vY hB)) fun W2 hb=>?_;replace hv:=za hv hb;clear hb hB;go_wp2;go_returns;exact Ret.mk (vb (by rw [HF.out];simp)) hv
theorem qX(n:Int)(w:World):Calls prog 148 #[.int .i64 n] w (RetQ (.bool (inB n 500 5000)) w):=by
 go_in;go_wp2_with fail;refine (xJ _ _ _ _).mono ?_;rintro e w' ⟨rfl,rfl⟩;go_wp2;go_returns;exact RetQ.mk rfl
theorem rN(f:Foot)(w:World):Calls prog 91 #[.agg #[.int .i64 f.length,.int .i64 f.b,.int .i64 f.i,.int .i64 f.h]] w (Ret (.bool (ym f)) w):=by
 have hf:ym f=(inB f.length 500 5000 && inB f.b 500 5000 && inB f.i 500 5000 && inB f.h 500 5000):=rfl;have H1:=fun w=>qX f.length w;have H2:=fun w=>qX f.b w;have H3:=fun w=>qX f.i w;have H4:=fun w=>qX f.h w;obtain ⟨b1,e1⟩:=zN (inB f.length 500 5000);obtain ⟨b2,e2⟩:=zN (inB f.b 500 5000);obtain ⟨b3,e3⟩:=zN (inB f.i 500 5000);obtain ⟨b4,e4⟩:=zN (inB f.h 500 5000);rw [<-e1] at H1 hf;rw [<-e2] at H2 hf;rw [<-e3] at H3 hf;rw [<-e4] at H4 hf;replace H1:=qH H1;replace H2:=qH H2;replace H3:=qH H3;replace H4:=qH H4;have HP:=qH hf;clear hf e1 e2 e3 e4;obtain ⟨W,hW⟩:=zN (w.alloc (Obj.cells (cF f) 27));obtain ⟨g,hg⟩:=zN w.heap.size;have hv:Below w.heap.size w W:=by rw [hW];exact zc (Below.refl _ _) _
 have hB:Blk W g 27 (cF f):=by rw [hW,hg];exact Blk.new _ _ _
 have HW:=qH hW;have HG:=qH hg;clear hW hg;obtain ⟨k0,k1,k2,k3⟩:=qC4 hB;clear hB;go_in;go_upto_region 1 with fail;rw [<-HW.out,<-HG.out];clear HW HG;cases b1
 · skip
   go_wp2_with fail;refine qR (H1.out _) ?_;go_wp2;go_returns;exact Ret.mk (vb (by rw [HP.out];rfl)) hv
 cases b2
 · skip
   go_wp2_with fail;refine qR (H1.out _) ?_;go_wp2_with fail;refine qR (H2.out _) ?_;go_wp2;go_returns;exact Ret.mk (vb (by rw [HP.out];rfl)) hv
 cases b3
 · skip
   go_wp2_with fail;refine qR (H1.out _) ?_;go_wp2_with fail;refine qR (H2.out _) ?_;go_wp2_with fail;refine qR (H3.out _) ?_;go_wp2;go_returns;exact Ret.mk (vb (by rw [HP.out];rfl)) hv
 cases b4
 · skip
   go_wp2_with fail;refine qR (H1.out _) ?_;go_wp2_with fail;refine qR (H2.out _) ?_;go_wp2_with fail;refine qR (H3.out _) ?_;go_wp2_with fail;refine qR (H4.out _) ?_;go_wp2;go_returns;exact Ret.mk (vb (by rw [HP.out];rfl)) hv
 · skip
   go_wp2_with fail;refine qR (H1.out _) ?_;go_wp2_with fail;refine qR (H2.out _) ?_;go_wp2_with fail;refine qR (H3.out _) ?_;go_wp2_with fail;refine qR (H4.out _) ?_;go_wp2;go_returns;exact Ret.mk (vb (by rw [HP.out];rfl)) hv
end Go.Proofs.YtpiehlfffjhoaaaGreatDoor
