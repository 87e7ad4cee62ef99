/- Lemmas for the law on the console: the parts Money,DecI,Tabs,TabsR,Src,Byt,Zs,Own,DeskA,Neq,SameL,DeskS,DeskT. -/
import Derived.Test.YtpiehlfffjhoaaaGreatDoorQ2
import Derived.Test.YtpiehlfffjhoaaaGreatDoorShelf
import Derived.Lib.AppendIntMem
import Derived.Test.YtpiehlfffjhoaaaGreatDoorCards
import Derived.Test.YtpiehlfffjhoaaaGreatDoorTie
import Derived.LaidMore
import Derived.HandedShaped
import Derived.Lay
namespace Go.Proofs.YtpiehlfffjhoaaaGreatDoor
open Go.RowKit Go.Proofs.Tryz
set_option maxRecDepth 100000
set_option maxHeartbeats 2000000
def Pow10(w : World) : Prop := Lib.TabIs prog w "internal/strconv.uint64pow10" .u64 Lib.pow10Tab
theorem g_pow10 : prog.globalNamed "internal/strconv.uint64pow10" = some 5 := by kernel_rfl
theorem Pow10.lt{w:World}(h:Pow10 w):5 < w.heap.size:=by
 have h1:=Lib.TabIs.cell h g_pow10 0 (by rw [Lib.pow10Tab_length];omega);exact block_lt_of_cell h1
theorem Pow10.below{w w':World}(h:Pow10 w)(hb:Below w.heap.size w w'):Pow10 w':=var?_below hb g_pow10 h.lt h
theorem dB:∀ u:Nat,Lib.nDigits u<=u + 1:=by
 intro u
 induction u using Nat.strongRecOn with
 | ind u ih=>
   by_cases h:u < 10
   ·rw [Lib.nDigits_small h];omega
   ·rw [Lib.nDigits_big h];have:=ih (u / 10) (by omega);omega
theorem xp(n:Int)(h0:-1000000000000000000<=n)(h1:n<=1000000000000000000)(w:World)(hT:Pow10 w):Calls prog 38 #[.int .i64 n] w (Ret (.string (zm n)) w):=by
 have HT:=qH hT;clear hT;go_in;go_wp2_with fail;refine (Tryz.strconv_FormatInt_10 n (by omega) (by omega) _ HT.out).mono ?_;rintro e W ⟨rfl,k,os,rfl⟩;go_wp2;go_returns;exact Ret.mk rfl (Lib.below_grow _ w (Nat.le_refl _) k os)
def IfaceAt(w:World)(g:Nat):Prop:=∃ ev,w.cell? ⟨g,0,none⟩=some ev/\(ev=.nilIface\/∃ te pe,ev=.iface te pe)
theorem IfaceAt.below{w w':World}{g:Nat}(h:IfaceAt w g)(hb:Below w.heap.size w w'):IfaceAt w' g:=by
 obtain ⟨ev,hc,he⟩:=h;exact ⟨ev,zb hb hc,he⟩
structure Tabs (w:World):Prop where
 pow:Pow10 w
 len:∃ m,w.cell? ⟨2,0,none⟩=some (.int .i64 m)
 syn:IfaceAt w 3
 rng:IfaceAt w 4
theorem Tabs.below{w w':World}(h:Tabs w)(hb:Below w.heap.size w w'):Tabs w':=by
 obtain ⟨m,hm⟩:=h.len;exact ⟨h.pow.below hb,⟨m,zb hb hm⟩,h.syn.below hb,h.rng.below hb⟩
end Go.Proofs.YtpiehlfffjhoaaaGreatDoor
namespace Go.Proofs.YtpiehlfffjhoaaaGreatDoor
open Go.ChangeShapes Go.WideShapes Go.ChangeAt Go.RowKit Go.Deep Go.Joins Go.Proofs.Tryz
set_option maxRecDepth 100000
set_option maxHeartbeats 2000000
theorem oO{H:Type}{enc:TypeId × Value->H}{a:Assume}{C:Checked}{os:Os}{f:FuncId}{fn:Func}{s:ChangeSpec}{conds:List PathCond}{apart fresh handsOn again:Bool}{X:World->Array Value->Prop}(hX:∀ (w w':World) (args:Array Value),w.heap=w'.heap->X w args->X w' args)(own:ownKnob C.prog.godebug=none)(started:os.Started)(noInit:C.prog.inits.idxOf? f=none)(hfn:C.prog.funcs[f]?=some fn)(witness:∃ (w:World) (tape:Tape) (i:Input),w.os=os/\(w.forCall tape i).Shaped C.prog/\i.vars=[]/\Input.okWide C.prog (w.forCall tape i) .any w.heap.size f i /\
   ((s.pre enc C.prog fn conds apart (w.forCall tape i).memory i.args/\X (w.forCall tape i).memory i.args)/\sizedMet enc C.prog fn (OpenSpec.ofChange s) apart (w.forCall tape i).memory i.args)/\a.holds C.prog (lone (Frame.enter C.prog f i.args .normal) [] (w.forCall tape i)))(contract:∀ (W:World) (base:Nat) (args:Array Value) (ds gs:List (DataW H)) (before:List MemPlace),
   (∀ (j:Nat) t v,fn.params[j]?=some t->args[j]?=some v->Value.okWide C.prog W .any base t v) ->
   DataW.Whole enc C.prog fn.params.toList s.vars apart W args.toList ds gs before ->
   X W args->W.ShapedOpen C.prog ->
   Calls C.prog f args W fun e W'=>∃ v,e=.returned v/\s.post enc C.prog fn apart fresh handsOn again W args v W') :
 ReturnsInHanded a C os f .any (fun w args=>(s.pre enc C.prog fn conds apart w args/\X w args)/\sizedMet enc C.prog fn (OpenSpec.ofChange s) apart w args) (s.post enc C.prog fn apart fresh handsOn again):=by
 refine returnsInHanded_of_calls own started noInit witness fun w tape i _ hsh _ hok hpre _=>?_;obtain ⟨_,_,_,g,hg,_,_,_,_,hval⟩:=hok;obtain rfl:=Option.some.inj (hg.symm.trans hfn);obtain ⟨⟨⟨ds,gs,before,hw,_⟩,hx⟩,_⟩:=hpre;refine (contract (w.forCall tape i) w.heap.size i.args ds gs before hval (DataW.Whole.of_heap (w':=w.forCall tape i) (by rfl) hw) (hX _ _ _ (by rfl) hx) hsh).mono fun e W' ⟨v,he,hp⟩=>?_;subst he;exact ChangeSpec.post_blind hp
theorem t_pow10:(prog.globals[5]?).map (·.type)=some 273:=by kernel_rfl
theorem zdF:prog.cellsOf 89=1:=by kernel_rfl
theorem zca:prog.cellsOf 273=20:=by kernel_rfl
theorem dL:(Rows.laid_internal_strconv_uint64pow10:DataW Unit)=Lib.tabData .u64 Lib.pow10Tab:=by kernel_rfl
theorem g_syn : prog.globalNamed "strconv.ErrSyntax" = some 3 := by kernel_rfl
theorem g_rng : prog.globalNamed "strconv.ErrRange" = some 4 := by kernel_rfl
theorem t_syn:(prog.globals[3]?).map (·.type)=some 103:=by kernel_rfl
theorem t_rng:(prog.globals[4]?).map (·.type)=some 103:=by kernel_rfl
theorem zc9{W:World}(hsh:W.ShapedOpen prog):∃ m,W.cell? ⟨2,0,none⟩=some (.int .i64 m):=Go.Proofs.cell_of_shapedOpen_int (zero:=#[.int .i64 0]) (t:=3) hsh (of_decide_eq_true (by kernel_rfl)) (by kernel_rfl) rfl (by kernel_rfl) (by kernel_rfl) underlying3
def bvS(b:UInt8):Value:=.int .u8 b.toNat
def Src(w:World)(g q:Nat):Prop:=
 ∃ (C:Option Addr) (n c:Nat) (cs:List UInt8) (k:Nat) (sd:Int),Blk w g 91 #[.slice C n c,.int .i64 k,.int .u64 sd]/\Arr w C (cs.map bvS)/\cs.length=n/\n<=1048576/\k<=q/\0<=sd/\sd<=18446744073709551615/\∀ ad,C=some ad->ad.block < g
theorem Src.step{w w0 w':World}{g q n c k:Nat}{C:Option Addr}{cs:List UInt8}{sd sd':Int}(hB:Blk w g 91 #[.slice C n c,.int .i64 k,.int .u64 sd])(hA:Arr w C (cs.map bvS))(hn:cs.length=n)(hnb:n<=1048576)(hk:k<=q)(h0:0<=sd')(h1:sd'<=18446744073709551615)(hC:∀ ad,C=some ad->ad.block < g)(hw0:Below w.heap.size w w0)(hw:Below ((w0.setCell ⟨g,1,none⟩ (.int .i64 ((k:Int) + 1))).setCell ⟨g,2,none⟩ (.int .u64 sd')).heap.size ((w0.setCell ⟨g,1,none⟩ (.int .i64 ((k:Int) + 1))).setCell ⟨g,2,none⟩ (.int .u64 sd')) w') :
 Src w' g (q + 1)/\w.grownBy w' (some g):=by
 have hB1:=(((hB.below hw0).set_ 1 (.int .i64 ((k:Int) + 1))).set_ 2 (.int .u64 sd')).below hw;have hg:w.grownBy ((w0.setCell ⟨g,1,none⟩ (.int .i64 ((k:Int) + 1))).setCell ⟨g,2,none⟩ (.int .u64 sd')) (some g):=zF (zF (yN hw0 (some g)) (.inl rfl) _) (.inl rfl) _;have hg2:=xM hg hw;refine ⟨⟨C,n,c,cs,k + 1,sd',?_,hA.grown hg2 (fun ad e h=>absurd (Option.some.inj h) (Nat.ne_of_lt (hC ad e))),hn,hnb,by omega,h0,h1,hC⟩,hg2⟩;have e:((k + 1:Nat):Int)=(k:Int) + 1:=by omega
 rw [e];exact hB1
theorem Src.more{w:World}{g q q':Nat}(h:Src w g q)(hq:q<=q'):Src w g q':=by
 obtain ⟨C,n,c,cs,k,sd,hB,hA,hn,hnb,hk,s0,s1,hC⟩:=h;exact ⟨C,n,c,cs,k,sd,hB,hA,hn,hnb,by omega,s0,s1,hC⟩
theorem Src.lt{w:World}{g q:Nat}(h:Src w g q):g < w.heap.size:=by
 obtain ⟨C,n,c,cs,k,sd,hB,_⟩:=h;exact hB.lt
theorem Src.below{w w':World}{g q:Nat}(h:Src w g q)(hb:Below w.heap.size w w'):Src w' g q:=by
 obtain ⟨C,n,c,cs,k,sd,hB,hA,hn,hnb,hk,s0,s1,hC⟩:=h;exact ⟨C,n,c,cs,k,sd,hB.below hb,hA.below hb,hn,hnb,hk,s0,s1,hC⟩
theorem Src.far{w:World}{g q:Nat}(h:Src w g q){p:Addr}(hp:g < p.block)(u:Value):Src (w.setCell p u) g q:=by
 obtain ⟨C,n,c,cs,k,sd,hB,hA,hn,hnb,hk,s0,s1,hC⟩:=h;exact ⟨C,n,c,cs,k,sd,hB.far (by omega) u,hA.grown (zF (g:=p.block) (World.grownBy.refl w _) (.inl rfl) u) (fun ad e h=>by have:=hC ad e;injection h;omega),hn,hnb,hk,s0,s1,hC⟩
theorem Src.kept{w w':World}{g q k:Nat}(h:Src w g q)(hb:w.grownBy w' (some k))(hk:g < k):Src w' g q:=by
 obtain ⟨C,n,c,cs,j,sd,hB,hA,hn,hnb,hj,s0,s1,hC⟩:=h;exact ⟨C,n,c,cs,j,sd,hB.grown hb (by intro e;injection e;omega),hA.grown hb (fun ad e h=>by have:=hC ad e;injection h;omega),hn,hnb,hj,s0,s1,hC⟩
theorem Src.over{w w':World}{g q:Nat}{row:Option Nat}(h:Src w g q)(hb:w.grownBy w' row)(hr:∀ i,row=some i->g < i):Src w' g q:=by
 obtain ⟨C,n,c,cs,j,sd,hB,hA,hn,hnb,hj,s0,s1,hC⟩:=h;exact ⟨C,n,c,cs,j,sd,hB.grown hb (fun e=>by have:=hr g e.symm;omega),hA.grown hb (fun ad e h=>by have:=hC ad e;have:=hr ad.block h.symm;omega),hn,hnb,hj,s0,s1,hC⟩
end Go.Proofs.YtpiehlfffjhoaaaGreatDoor
namespace Go.Proofs.YtpiehlfffjhoaaaGreatDoor
open Go.ChangeShapes Go.WideShapes Go.ChangeAt Go.RowKit Go.Deep Go.Joins Go.Proofs.Tryz
set_option maxRecDepth 100000
set_option maxHeartbeats 2000000
theorem qR{P:Program}{f:FuncId}{args:Array Value}{w:World}{v:Value}{Q:Ending->World->Prop}(h:Calls P f args w (RetQ v w))(k:Q (.returned v) w):Calls P f args w Q:=
 h.mono (fun e w' h=>by obtain ⟨rfl,rfl⟩:=h;exact k)
theorem qS{P:Program}{f:FuncId}{args:Array Value}{w:World}{v:Value}{R:World->Prop}{Q:Ending->World->Prop}(h:Calls P f args w (fun e w'=>e=.returned v/\R w'))(k:∀ w',R w'->Q (.returned v) w'):Calls P f args w Q:=
 h.mono (fun e w' h=>by obtain ⟨rfl,h⟩:=h;exact k _ h)
theorem zN{α:Sort _}(e:α):∃ z,z=e:=⟨e,rfl⟩
section
variable {P:Program} {ops:Array Oper} {rest:List Oper} {o:Oper} {a a':Act} {w:World} {Q:Exit->Act->World->Prop}
theorem yS(g:Nat)(cells:Array Value){old:Array Value}{t ty:TypeId}{x y:Operand}(hg:Blk w g t old)(h:wpList P ops Q rest (a.put o.dst undef) (w.setRow g cells))(hgd:o.guard=none:=by exact rfl)(ho:o.op=.store ty x y:=by exact rfl)(hx:a.eval x=.pointer (some ⟨g,0,none⟩):=by exact rfl)(hy:a.eval y=.agg cells:=by exact rfl)(hi:(P.info? ty).map (·.size)=some cells.size:=by kernel_rfl)(hold:old.size=cells.size:=by exact rfl)(h1:cells.all (·.oneCell')=true:=by simp [Value.oneCell']):wpList P ops Q (o :: rest) a w:=
 wpList_store_row hgd ty x y ho g cells hx hy t old hg hi hold h1 h
theorem yL(g:Nat){cs:Array Value}{t ty:TypeId}{x:Operand}{d:TypeDesc}(hg:Blk w g t cs)(hu:P.underlying ty=some d)(h:wpList P ops Q rest (a.put o.dst (.agg cs)) w)(hgd:o.guard=none:=by exact rfl)(ho:o.op=.load ty x:=by exact rfl)(hx:a.eval x=.pointer (some ⟨g,0,none⟩):=by exact rfl)(hd:(match d with | .struct _ | .array _ _=>true | _=>false)=true:=by exact rfl)(hi:(P.info? ty).map (·.size)=some cs.size:=by kernel_rfl):wpList P ops Q (o :: rest) a w:=
 wpList_load_row hgd ty x ho g hx t cs (0,0) d hg hu hd hi h
variable {md:Region.Mode} {S:World->Prop} {fuel:Nat} {listed:Array Bool}
theorem zH(S:World->Prop){id:Nat}(hS:S w.drew)(h:S w.drew->wpAnyH P .any ops Q S ops.size (Array.replicate ops.size false) a w.drew)(hm:P.follows .mixedOrders=true:=by as_aux_lemma=>kernel_rfl):(Code.region id ops true).wp P Q a w:=
 wp_region_held_drew hm hS h
theorem zD(h:Q .normal a w)(hr:Region.ready md ops listed=[]:=by as_aux_lemma=>kernel_rfl):wpAnyH P md ops Q S fuel listed a w:=wpAnyH_done hr h fuel
theorem zK{R K:Act->World->Prop}(hK:Shut (∀ a w,S w->(S w->R a w)->K a w))(hS:S w)(h:S w->R a' w)(ha:a=a':=by (try simp only [Act.put,zA,zB,zC]);exact rfl):K a w:=
 ha ▸ hK.out a w hS (fun hs=>ha ▸ h hs)
end
abbrev cL (x:Last):Array Value:=#[.string x.name,.int .i64 x.length,.int .i64 x.b,.int .i64 x.i,.int .i64 x.h,.int .i64 x.p]
abbrev cM:Array Value:=#[.string ⟨#[]⟩,.int .i64 0,.int .i64 0,.int .i64 0,.int .i64 0,.int .i64 0]
abbrev cS (x:Style):Array Value:=#[.string x.u,.string x.c,.string x.l,.string x.s,.int .i64 x.t,.int .i64 x.h,.int .i64 x.e,.int .i64 x.d,.bool x.q]
abbrev cT:Array Value:=#[.string ⟨#[]⟩,.string ⟨#[]⟩,.string ⟨#[]⟩,.string ⟨#[]⟩,.int .i64 0,.int .i64 0,.int .i64 0,.int .i64 0,.bool false]
abbrev cF (x:Foot):Array Value:=#[.int .i64 x.length,.int .i64 x.b,.int .i64 x.i,.int .i64 x.h]
abbrev cH (x:Last):Array Value:=#[.int .i64 x.length,.int .i64 x.b,.int .i64 x.i,.int .i64 x.h]
abbrev cG:Array Value:=#[.int .i64 0,.int .i64 0,.int .i64 0,.int .i64 0]
abbrev cD (f:Foot) (A:Option Addr) (n c:Nat) (s:Style) (lg:ByteArray):Array Value:=#[.int .i64 f.length,.int .i64 f.b,.int .i64 f.i,.int .i64 f.h,.slice A n c,.string s.u,.string s.c,.string s.l,.string s.s,.int .i64 s.t,.int .i64 s.h,.int .i64 s.e,.int .i64 s.d,.bool s.q,.string lg]
abbrev cE:Array Value:=#[.int .i64 0,.int .i64 0,.int .i64 0,.int .i64 0,.slice none 0 0,.string ⟨#[]⟩,.string ⟨#[]⟩,.string ⟨#[]⟩,.string ⟨#[]⟩,.int .i64 0,.int .i64 0,.int .i64 0,.int .i64 0,.bool false,.string ⟨#[]⟩]
theorem yc0{w:World}{g:Nat}{t:TypeId}{v0:Value}{r:List Value}(h:Blk w g t (v0 :: r).toArray):w.cell? ⟨g,0,none⟩=some v0:=(h.cell 0).trans (by simp)
theorem yc1{w:World}{g:Nat}{t:TypeId}{v0 v1:Value}{r:List Value}(h:Blk w g t (v0 :: v1 :: r).toArray):w.cell? ⟨g,1,none⟩=some v1:=(h.cell 1).trans (by simp)
theorem yc2{w:World}{g:Nat}{t:TypeId}{v0 v1 v2:Value}{r:List Value}(h:Blk w g t (v0 :: v1 :: v2 :: r).toArray):w.cell? ⟨g,2,none⟩=some v2:=(h.cell 2).trans (by simp)
theorem yc3{w:World}{g:Nat}{t:TypeId}{v0 v1 v2 v3:Value}{r:List Value}(h:Blk w g t (v0 :: v1 :: v2 :: v3 :: r).toArray):w.cell? ⟨g,3,none⟩=some v3:=(h.cell 3).trans (by simp)
theorem yc4{w:World}{g:Nat}{t:TypeId}{v0 v1 v2 v3 v4:Value}{r:List Value}(h:Blk w g t (v0 :: v1 :: v2 :: v3 :: v4 :: r).toArray):w.cell? ⟨g,4,none⟩=some v4:=(h.cell 4).trans (by simp)
theorem yc5{w:World}{g:Nat}{t:TypeId}{v0 v1 v2 v3 v4 v5:Value}{r:List Value}(h:Blk w g t (v0 :: v1 :: v2 :: v3 :: v4 :: v5 :: r).toArray):w.cell? ⟨g,5,none⟩=some v5:=(h.cell 5).trans (by simp)
theorem yc6{w:World}{g:Nat}{t:TypeId}{v0 v1 v2 v3 v4 v5 v6:Value}{r:List Value}(h:Blk w g t (v0 :: v1 :: v2 :: v3 :: v4 :: v5 :: v6 :: r).toArray):w.cell? ⟨g,6,none⟩=some v6:=(h.cell 6).trans (by simp)
theorem yc7{w:World}{g:Nat}{t:TypeId}{v0 v1 v2 v3 v4 v5 v6 v7:Value}{r:List Value}(h:Blk w g t (v0 :: v1 :: v2 :: v3 :: v4 :: v5 :: v6 :: v7 :: r).toArray):w.cell? ⟨g,7,none⟩=some v7:=(h.cell 7).trans (by simp)
theorem yc8{w:World}{g:Nat}{t:TypeId}{v0 v1 v2 v3 v4 v5 v6 v7 v8:Value}{r:List Value}(h:Blk w g t (v0 :: v1 :: v2 :: v3 :: v4 :: v5 :: v6 :: v7 :: v8 :: r).toArray):w.cell? ⟨g,8,none⟩=some v8:=(h.cell 8).trans (by simp)
theorem yc9{w:World}{g:Nat}{t:TypeId}{v0 v1 v2 v3 v4 v5 v6 v7 v8 v9:Value}{r:List Value}(h:Blk w g t (v0 :: v1 :: v2 :: v3 :: v4 :: v5 :: v6 :: v7 :: v8 :: v9 :: r).toArray):w.cell? ⟨g,9,none⟩=some v9:=(h.cell 9).trans (by simp)
theorem zdn{w:World}{g:Nat}{t:TypeId}{v0 v1 v2 v3 v4 v5 v6 v7 v8 v9 v10:Value}{r:List Value}(h:Blk w g t (v0 :: v1 :: v2 :: v3 :: v4 :: v5 :: v6 :: v7 :: v8 :: v9 :: v10 :: r).toArray):w.cell? ⟨g,10,none⟩=some v10:=(h.cell 10).trans (by simp)
theorem zdo{w:World}{g:Nat}{t:TypeId}{v0 v1 v2 v3 v4 v5 v6 v7 v8 v9 v10 v11:Value}{r:List Value}(h:Blk w g t (v0 :: v1 :: v2 :: v3 :: v4 :: v5 :: v6 :: v7 :: v8 :: v9 :: v10 :: v11 :: r).toArray):w.cell? ⟨g,11,none⟩=some v11:=(h.cell 11).trans (by simp)
theorem zdp{w:World}{g:Nat}{t:TypeId}{v0 v1 v2 v3 v4 v5 v6 v7 v8 v9 v10 v11 v12:Value}{r:List Value}(h:Blk w g t (v0 :: v1 :: v2 :: v3 :: v4 :: v5 :: v6 :: v7 :: v8 :: v9 :: v10 :: v11 :: v12 :: r).toArray):w.cell? ⟨g,12,none⟩=some v12:=(h.cell 12).trans (by simp)
theorem zdq{w:World}{g:Nat}{t:TypeId}{v0 v1 v2 v3 v4 v5 v6 v7 v8 v9 v10 v11 v12 v13:Value}{r:List Value}(h:Blk w g t (v0 :: v1 :: v2 :: v3 :: v4 :: v5 :: v6 :: v7 :: v8 :: v9 :: v10 :: v11 :: v12 :: v13 :: r).toArray):w.cell? ⟨g,13,none⟩=some v13:=(h.cell 13).trans (by simp)
theorem pt{w:World}{g:Nat}{t:TypeId}{v0 v1 v2 v3 v4 v5 v6 v7 v8 v9 v10 v11 v12 v13 v14:Value}{r:List Value}(h:Blk w g t (v0 :: v1 :: v2 :: v3 :: v4 :: v5 :: v6 :: v7 :: v8 :: v9 :: v10 :: v11 :: v12 :: v13 :: v14 :: r).toArray):w.cell? ⟨g,14,none⟩=some v14:=(h.cell 14).trans (by simp)
theorem gj{w:World}{g:Nat}{t:TypeId}{v0 v1 v2 v3 v4 v5 v6 v7 v8 v9 v10 v11 v12 v13 v14 v15:Value}{r:List Value}(h:Blk w g t (v0 :: v1 :: v2 :: v3 :: v4 :: v5 :: v6 :: v7 :: v8 :: v9 :: v10 :: v11 :: v12 :: v13 :: v14 :: v15 :: r).toArray):w.cell? ⟨g,15,none⟩=some v15:=(h.cell 15).trans (by simp)
theorem nF{w:World}{g:Nat}{t:TypeId}{v0 v1 v2 v3 v4 v5 v6 v7 v8 v9 v10 v11 v12 v13 v14 v15 v16:Value}{r:List Value}(h:Blk w g t (v0 :: v1 :: v2 :: v3 :: v4 :: v5 :: v6 :: v7 :: v8 :: v9 :: v10 :: v11 :: v12 :: v13 :: v14 :: v15 :: v16 :: r).toArray):w.cell? ⟨g,16,none⟩=some v16:=(h.cell 16).trans (by simp)
theorem uz{w:World}{g:Nat}{t:TypeId}{v0 v1 v2 v3 v4 v5 v6 v7 v8 v9 v10 v11 v12 v13 v14 v15 v16 v17:Value}{r:List Value}(h:Blk w g t (v0 :: v1 :: v2 :: v3 :: v4 :: v5 :: v6 :: v7 :: v8 :: v9 :: v10 :: v11 :: v12 :: v13 :: v14 :: v15 :: v16 :: v17 :: r).toArray):w.cell? ⟨g,17,none⟩=some v17:=(h.cell 17).trans (by simp)
theorem yq{w:World}{ad:Addr}{k:Nat}{x:Option Value}(h:w.cell? (ad.add k)=x)(hk:k≠0:=by decide):w.cell? ⟨ad.block,ad.off + k,none⟩=x:=by
 unfold Addr.add at h
 rwa [if_neg hk] at h
def Own(w:World)(lo hi E size n:Nat)(v:Value)(cs:List Value):Prop:=w.ownsRow lo E size v n cs/\lo<=hi/\hi<=w.heap.size/\∀ k,v.ownBlock=some k->k < hi
theorem yr{w:World}{base e size n:Nat}{v:Value}{cs:List Value}(h:w.ownsRow base e size v n cs):∀ k,v.ownBlock=some k->k < w.heap.size:=by
 intro k hk;rcases wc h with ⟨A,c,hv,_⟩
 subst hv;rcases h.2 with ⟨hv,_⟩ | ⟨g,cap,cur,hv,_,hh⟩
 ·rw [hv] at hk;simp [Value.ownBlock] at hk
 · rw [hv] at hk;have hgk:g=k:=by simpa [Value.ownBlock] using hk
   subst hgk;simp only [World.ownsRow,hv] at h;cases Nat.lt_or_ge g w.heap.size with
   | inl hlt=>exact hlt
   | inr hge=>exfalso;simp_all
theorem Own.of{w w':World}{e size n:Nat}{v:Value}{cs:List Value}(h:w'.ownsRow w.heap.size e size v n cs)(hb:Below w.heap.size w w'):Own w' w.heap.size w'.heap.size e size n v cs:=
 ⟨h,hb.size,Nat.le_refl _,yr h⟩
theorem Own.named{w w':World}{e size n:Nat}{v:Value}{cs:List Value}(h:w'.ownsRow w.heap.size e size v n cs)(hb:Below w.heap.size w w'):∃ lo hi,Own w' lo hi e size n v cs/\Hid (lo=w.heap.size)/\Hid (hi=w'.heap.size):=
 ⟨_,_,Own.of h hb,qH rfl,qH rfl⟩
theorem Own.below{w w':World}{lo hi e size n:Nat}{v:Value}{cs:List Value}(h:Own w lo hi e size n v cs)(hb:Below w.heap.size w w'):Own w' lo hi e size n v cs:=
 ⟨ze h.1 hb,h.2.1,Nat.le_trans h.2.2.1 hb.size,h.2.2.2⟩
theorem Own.drew{w:World}{lo hi e size n:Nat}{v:Value}{cs:List Value}(h:Own w lo hi e size n v cs):Own w.drew lo hi e size n v cs:=h.below (Below.refl _ _).drew
theorem Own.grown{w w':World}{lo hi e size n:Nat}{v:Value}{cs:List Value}{row:Option Nat}(h:Own w lo hi e size n v cs)(hg:w.grownBy w' row)(hr:∀ k,row=some k->hi<=k\/k < lo):Own w' lo hi e size n v cs:=
 ⟨h.1.kept hg (by
   cases hv:v.ownBlock with
   | none=>exact .inl rfl
   | some g=>
     refine .inr (fun e=>?_);have h1:=h.2.2.2 g hv;have h2:=zn h.1 g hv;rcases hr g e.symm with h3 | h3 <;> omega),h.2.1,Nat.le_trans h.2.2.1 hg.size,h.2.2.2⟩
theorem Own.row{w:World}{lo hi e size n c:Nat}{A:Option Addr}{cs:List Value}(h:Own w lo hi e size n (.slice A n c) cs):∀ k,A.map (·.block)=some k->lo<=k/\k < hi:=by
 intro k hk;cases A with
 | none=>simp at hk
 | some a=>
   have:(Value.slice (some a) n c).ownBlock=some k:=by simpa [Value.ownBlock] using hk
   exact ⟨zn h.1 k this,h.2.2.2 k this⟩
theorem Own.arr{w:World}{lo hi e size n c:Nat}{A:Option Addr}{cs:List Value}(h:Own w lo hi e size n (.slice A n c) cs):Arr w A cs:=Arr.own h.1
theorem Own.marked{w w':World}{lo hi e size n c:Nat}{A:Option Addr}{cs cs':List Value}(h:Own w lo hi e size n (.slice A n c) cs)(hg:w.grownBy w' (A.map (·.block)))(ho:w'.ownsRow lo e size (.slice A n c) n cs'):Own w' lo hi e size n (.slice A n c) cs':=
 ⟨ho,h.2.1,Nat.le_trans h.2.2.1 hg.size,h.2.2.2⟩
theorem kZ(f f2:Foot)(s s2:Style)(lg lg2:ByteArray)(A B:Option Addr)(xs ys:List Last)(n m c d:Nat)(hn:Hid (xs.length=n))(hm:Hid (ys.length=m))(hz:(n:Int)<=1048576)(w:World)(hA:Arr w A (zd Last.cells xs))(hB:Arr w B (zd Last.cells ys)) :
 Calls prog 17 #[Value.agg #[.int .i64 f.length,.int .i64 f.b,.int .i64 f.i,.int .i64 f.h,.slice A n c,.string s.u,.string s.c,.string s.l,.string s.s,.int .i64 s.t,.int .i64 s.h,.int .i64 s.e,.int .i64 s.d,.bool s.q,.string lg],Value.agg #[.int .i64 f2.length,.int .i64 f2.b,.int .i64 f2.i,.int .i64 f2.h,.slice B m d,.string s2.u,.string s2.c,.string s2.l,.string s2.s,.int .i64 s2.t,.int .i64 s2.h,.int .i64 s2.e,.int .i64 s2.d,.bool s2.q,.string lg2]] w (Ret (.bool (f.beq f2 && wI Last.beq xs ys && s.beq s2 && decide (lg=lg2))) w):=by
 go_in;go_wp2_with fail;obtain ⟨W,hW⟩:=zN ((w.alloc (Obj.cells (cD f A n c s lg) 32)).alloc (Obj.cells (cD f2 B m d s2 lg2) 32));obtain ⟨g0,hg0⟩:=zN w.heap.size;obtain ⟨g1,hg1⟩:=zN (w.heap.size + 1);have hv:Below w.heap.size w W:=by rw [hW];exact zc (zc (Below.refl _ _) _) _
 have h0:Blk W g0 32 (cD f A n c s lg):=by rw [hW,hg0];exact (Blk.new _ _ _).alloc _
 have h1:Blk W g1 32 (cD f2 B m d s2 lg2):=by rw [hW,hg1];have h:=Blk.new (w.alloc (Obj.cells (cD f A n c s lg) 32)) 32 (cD f2 B m d s2 lg2);simpa using h
 rw [<-hW,<-hg1,<-hg0];clear hW hg0 hg1;refine qS (zaF f f2 _) fun W hb=>?_;replace hv:=za hv hb;replace h0:=h0.below hb;replace h1:=h1.below hb;clear hb;obtain ⟨k0,k1,k2,k3,k4,k5,k6,k7,k8,k9,k10,k11,k12,k13,k14⟩:=yY h0;obtain ⟨q0,q1,q2,q3,q4,q5,q6,q7,q8,q9,q10,q11,q12,q13,q14⟩:=yY h1;cases hf:f.beq f2
 ·have HF:=qH hf;clear hf;go_wp2;go_returns;exact Ret.mk (vb (by rw [HF.out];rfl)) hv
 have HF:=qH hf;clear hf;go_wp2_with fail;refine qS (cK A B xs ys n m c d hn hm hz _ (hA.below hv) (hB.below hv)) fun W hb=>?_;replace hv:=za hv hb;replace h0:=h0.below hb;replace h1:=h1.below hb;clear hb;obtain ⟨k0,k1,k2,k3,k4,k5,k6,k7,k8,k9,k10,k11,k12,k13,k14⟩:=yY h0;obtain ⟨q0,q1,q2,q3,q4,q5,q6,q7,q8,q9,q10,q11,q12,q13,q14⟩:=yY h1;cases hl:wI Last.beq xs ys
 ·have HL:=qH hl;clear hl;go_wp2;go_returns;exact Ret.mk (vb (by rw [HF.out,HL.out];rfl)) hv
 have HL:=qH hl;clear hl;go_wp2_with fail;refine qS (cN s s2 _) fun W hb=>?_;replace hv:=za hv hb;replace h0:=h0.below hb;replace h1:=h1.below hb;clear hb;obtain ⟨k0,k1,k2,k3,k4,k5,k6,k7,k8,k9,k10,k11,k12,k13,k14⟩:=yY h0;obtain ⟨q0,q1,q2,q3,q4,q5,q6,q7,q8,q9,q10,q11,q12,q13,q14⟩:=yY h1;cases hs:s.beq s2
 ·have HS:=qH hs;clear hs;go_wp2;go_returns;exact Ret.mk (vb (by rw [HF.out,HL.out,HS.out];rfl)) hv
 have HS:=qH hs;clear hs;by_cases hlg:lg=lg2
 · subst hlg;have he:(!lg.toList == lg.toList)=false:=by simp
   go_wp2;go_returns;exact Ret.mk (vb (by rw [HF.out,HL.out,HS.out];simp)) hv
 · have he:(!lg.toList == lg2.toList)=true:=by rw [yD];simp [hlg]
   go_wp2;go_returns;exact Ret.mk (vb (by rw [HF.out,HL.out,HS.out,decide_eq_false hlg];rfl)) hv
end Go.Proofs.YtpiehlfffjhoaaaGreatDoor
