/- Part of a proof of a law of the layer of trees. -/
import Derived.Test.YtenmnhnlcnmloaaGreatQa36
import Derived.Test.YtenmnhnlcnmloaaGreatQa23
import Derived.Test.YtenmnhnlcnmloaaGreatQa40
import Derived.Test.YtenmnhnlcnmloaaGreatQa01
set_option linter.unusedVariables false
set_option linter.unusedSimpArgs false
set_option maxHeartbeats 8000000
set_option maxRecDepth 8000
namespace Go.Dav
open Go Go.RowKit
def Kz(B:bD)(ba:Option Addr)(bl bc:Nat)(ta:Option Addr)(tl tc:Nat):List Value:=[.slice ba bl bc, .bool B.ends, .slice ta tl tc]
def N7(w:World)(r:List aP×Int)(e:Ending)(w':World):Prop:=
 (∃a n c,e= .returned (.tuple #[.slice a n c, .int .i64 r.2])/\aY w' (λb=>b<w'.heap.size) a n c r.1/\(r.2≠0->a=none/\n=0/\c=0))/\Below w.heap.size w w'
theorem au.Xt{W:World}{S:Nat->Prop}{a:Option Addr}{n c D:Nat}{l:List UInt8}{o o':Obj}(h:au W S a n c l)(h2:W.heap[D]? =some o)(h3:o.isCells=false):au (W.putObj D o') S a n c l:=
 ⟨⟨h.at_.hlen,h.at_.hcap,h.at_.hmax,h.at_.hfew,λi x hx=>by
  obtain⟨b,p,k1,k2,k3⟩:=h.at_.hat i x hx;obtain⟨ob,hb,hc⟩:=pG k3;exact⟨b,p,k1,by simpa using k2,by rw[World.cell?_of_block (lS k2 (λe=>by subst e;rw[h2]at hb;cases hb;rw[h3]at hc;cases hc))];exact k3⟩,h.at_.hnil⟩,h.in_⟩
theorem aY.Xt{W:World}{S:Nat->Prop}{a:Option Addr}{n c D:Nat}{l:List aP}{o o':Obj}(h:aY W S a n c l)(h2:W.heap[D]? =some o)(h3:o.isCells=false):aY (W.putObj D o') S a n c l:=
 ⟨h.hlen,h.hcap,h.hmax,h.hfew,λi x hx=>by
  obtain⟨b,p,ka,kl,kc,va,vl,vc,k1,k2,k3,c0,c1,c2,c3,g1,g2,g3⟩:=h.hat i x hx;obtain⟨ob,hb,hc⟩:=pG c0;have hbk:=lS (W:=W) (D:=D) (o:=o') k2 (λe=>by subst e;rw[h2]at hb;cases hb;rw[h3]at hc;cases hc);have cc:=λj=>World.cell?_of_block (a:=⟨b,j,none⟩) hbk;exact⟨b,p,ka,kl,kc,va,vl,vc,k1,by simpa using k2,k3,(cc _).trans c0,(cc _).trans c1,(cc _).trans c2,(cc _).trans c3,g1.Xt h2 h3,g2.Xt h2 h3,g3⟩,h.hnil⟩
def I8:aP:=⟨[],[],false,0⟩
def Ur(F:aB)(t:mP)(k:List UInt8):aP×Int:=
 if (uo F t ⟨k,true,k++[0]⟩ false 1).2≠0 then(I8,(uo F t ⟨k,true,k++[0]⟩ false 1).2)else match (uo F t ⟨k,true,k++[0]⟩ false 1).1 with
  |[]=>(I8,4)
  |x::_=>(x,0)
def QK(w:World)(r:aP×Int)(e:Ending)(w':World):Prop:=
 (∃v,e= .returned (.tuple #[v, .int .i64 r.2])/\jh w' (λb=>b<w'.heap.size) r.1 v)/\Below w.heap.size w w'
def RgS(l:List aP)(v:Value)(W:World):Prop:=∃a n c,v= .slice a n c/\aY W (λ_=>True) a n c l
def RgT(r:List aP×Int)(v:Value)(W:World):Prop:=∃s,v= .tuple #[s, .int .i64 r.2]/\RgS r.1 s W
theorem RgS.later{l:List aP}:∀v W W',RgS l v W->Below W.heap.size W W'->RgS l v W':=λ_ _ _ ⟨a,n,c,h1,h2⟩ hb=>⟨a,n,c,h1,h2.ext1 hb⟩
theorem RgT.later{r:List aP×Int}:∀v W W',RgT r v W->Below W.heap.size W W'->RgT r v W':=λ_ _ _ ⟨s,h1,h2⟩ hb=>⟨s,h1,RgS.later _ _ _ h2 hb⟩
def BdV(B:Nat)(ka:Option Addr)(kl kc:Nat)(k:List UInt8)(v:Value)(W:World):Prop:=∃a n c,v= .agg #[.slice ka kl kc, .bool true, .slice a n c]/\au W (λb=>B<=b) a n c k
theorem BdV.later{B:Nat}{ka:Option Addr}{kl kc:Nat}{k:List UInt8}:∀v W W',BdV B ka kl kc k v W->Below W.heap.size W W'->BdV B ka kl kc k v W':=λ_ _ _ ⟨a,n,c,h1,h2⟩ hb=>⟨a,n,c,h1,h2.ext hb⟩
def wkI(c:UInt8):aP:=⟨[c],[],false,0⟩
def wkB:pY:=⟨[],[wkI 97,wkI 98,wkI 99,wkI 100,wkI 101,wkI 102,wkI 103],[0],⟨0,0⟩⟩
def wkF:aB:=(qW wkB).1
def wkT:mP:=⟨102,1,⟨7,0,0,0,0⟩⟩
theorem Vk:(qW wkB).2=wkT:=kR
theorem Vl{α β:Type}{b:β}:∀p:α×β,p.2=b->p=(p.1,b)
 |(_,_),h=>by cases h;rfl
theorem Vm:qW wkB=(wkF,wkT):=Vl _ Vk
theorem TB:wkF.right=true:=kR
theorem Xu:Ur wkF wkT [100]=(wkI 100,0):=kR
theorem Vo:Ur wkF wkT [100,97]=(I8,4):=kR
theorem TD:uo wkF wkT ⟨[98],true,[101]⟩ true 2=([wkI 100,wkI 99],0):=kR
theorem Vp:(jo wkF.all 102 1).map (λM=>M.kids.length)=some 2:=kR
theorem TF:(goT wkF noB false wkT).2=0:=kR
theorem TG:(goT wkF noB false ⟨102,1,⟨8,0,0,0,0⟩⟩).2=260:=kR
theorem QL:(bD.mk [98] false []).holdsB [98,97]=true:=kR
end Go.Dav
namespace Go.Proofs.YtenmnhnlcnmloaaGreat
open Go.RowKit Go.Dav Go.Shelf
attribute [local go_sem] Gives dG ite_val ay Oper.semAt_some
set_option maxRecDepth 100000 in
theorem BD(F:aB)(fa la:Option Addr)(fl fc ll lc:Nat)(t:mP)(B:bD)(ba ta:Option Addr)(bl bc tl tc:Nat)(turned:Bool)(most:Int)(w:World)(hF:lF w fa fl fc la ll lc F)(ha:eY t.at_)(hf:t.red.fits)(hB1:BytesAt w ba bl bc B.from_)(hB2:BytesAt w ta tl tc B.to_):
  Calls Tryz.prog 24 #[.agg #[.slice fa fl fc, .slice la ll lc, .int .i64 F.fuse, .int .i64 F.fault, .bool F.off], .agg (fU t).toArray, .agg (Kz B ba bl bc ta tl tc).toArray, .bool turned, .int .i64 most] w (N7 w (uo F t B turned most)):=by
 have HF:=Hd hF;have HA:=Hd ha;have HFF:=Hd hf;have HBF:=Hd hB1;have HBT:=Hd hB2;obtain⟨en,hen⟩:∃z,B.ends=z:=⟨_,rfl⟩;have HEN:=Hd hen;have hck:∀W,Below w.heap.size w W->Calls Tryz.prog 58 #[.agg #[.slice fa fl fc, .slice la ll lc, .int .i64 F.fuse, .int .i64 F.fault, .bool F.off]] W λe w'=>e= .returned (.int .i64 F.err)/\Below W.heap.size W w':=λW hb=>kP F fa la fl fc ll lc W (hF.ext hb);have HCK:=Hd hck;unfold Kz;rw[hen];obtain⟨R,hR⟩:∃z,uo F t B turned most=z:=⟨_,rfl⟩;rw[hR];have HRP:=Hd hR;clear hF ha hf hB1 hB2 hck hen hR;unfold fU;refine(callsIn_wide (n:=4)).1 ?_;refine callsIn_of_wp_marks Tryz.func24 rfl trivial (wpIn_wide.2 ?_) rfl;simp only[Tryz.ntmps24,List.size_toArray,List.length_cons,List.length_nil,Nat.reduceAdd,Nat.reduceSub,Array.replicate_succ,Array.replicate_zero,List.push_toArray,List.append_toArray,List.nil_append,List.cons_append];by_cases hm:most=0
 .subst hm;go_wp2_with fail;try (go_step3;go_wp2_with fail)
  try (go_step3;go_wp2_with fail)
  refine(HCK.o _ (by exact bW)).mono ?_;rintro e w4 ⟨rfl,hb4⟩;have hb0:Below w.heap.size w w4:=by have hb5:=hb4;exact(by have hz:=hb5;exact bV)
  have HB0:=Hd hb0;clear hb4 hb0;go_wp2_with fail;try rw[Exit.noGoto_ret]
  refine⟨.tuple #[.slice none 0 0, .int .i64 F.err],by simp[results,Tryz.results24,go_sem],?_⟩;rw[<- HRP.o];unfold uo;rw[if_pos rfl];exact⟨⟨none,0,0,rfl,aY.nil_,λ_=>⟨rfl,rfl,rfl⟩⟩,HB0.o⟩
 .have hmm:(most==0)=false:=beq_eq_false_iff_ne.2 hm;go_wp2_with fail;try (go_step3;go_wp2_with fail)
  try (go_step3;go_wp2_with fail)
  have hit:=D5 (w.heap.size+1+1+1+1) t;unfold fU at hit;refine(hit _).mono ?_;rintro e w4 ⟨rfl,rfl⟩;clear hit;go_wp2_with fail;obtain⟨L,hL⟩:∃L,(((((((w.alloc (.cells [.slice fa fl fc, .slice la ll lc, .int .i64 F.fuse, .int .i64 F.fault, .bool F.off].toArray 32)).alloc (.cells (fU t).toArray 37)).alloc (.cells #[.slice ba bl bc, .bool en, .slice ta tl tc] 28)).alloc (.cells #[.int .i64 most] 3)).alloc (.cells #[.slice ba bl bc, .bool en, .slice ta tl tc, .slice fa fl fc, .slice la ll lc, .int .i64 F.fuse, .int .i64 F.fault, .bool F.off, .bool turned, .slice none 0 0, .bool false, .int .i64 0] 116)).alloc (.cells #[.slice none 0 0] 23)).alloc (.cells #[.pointer (some ⟨w.heap.size+1+1+1+1,0,none⟩)] 113)).alloc (.cells (fU t).toArray 37)=L:=⟨_,rfl⟩;have hsz:L.heap.size=w.heap.size+1+1+1+1+1+1+1+1:=by rw[<- hL];simp
  have hbL:Below w.heap.size w L:=by rw[<- hL];unfold fU;exact bW
  have hbm:Blk L (w.heap.size+1+1+1) [.int .i64 most] 3:=by rw[<- hL];exact((((Blk.new' _ _ _ (by simp)).alloc _).alloc _).alloc _).alloc _
  have hbq:Blk L (w.heap.size+1+1+1+1) [.slice ba bl bc, .bool en, .slice ta tl tc, .slice fa fl fc, .slice la ll lc, .int .i64 F.fuse, .int .i64 F.fault, .bool F.off, .bool turned, .slice none 0 0, .bool false, .int .i64 0] 116:=by rw[<- hL];exact(((Blk.new' _ _ _ (by simp)).alloc _).alloc _).alloc _
  have hbo:Blk L (w.heap.size+1+1+1+1+1) [.slice none 0 0] 23:=by rw[<- hL];exact((Blk.new' _ _ _ (by simp)).alloc _).alloc _
  have hbw:Blk L (w.heap.size+1+1+1+1+1+1) [.pointer (some ⟨w.heap.size+1+1+1+1,0,none⟩)] 113:=by rw[<- hL];exact(Blk.new' _ _ _ (by simp)).alloc _
  have hbt:Blk L (w.heap.size+1+1+1+1+1+1+1) (fU t) 37:=by rw[<- hL];exact Blk.new' _ _ _ (by simp)
  have hnp:∀b,¬mO L (w.heap.size+1+1+1+1+1) b:=λb ⟨o,n,c,h⟩=>by
   have hc:=hbo.cells;rw[show L.cell? ⟨w.heap.size+1+1+1+1+1,0,none⟩=some (.slice none 0 0) by simp[go_sem,hc]]at h;cases h
  have hvd:Vd (w.heap.size+1+1+1+1) (w.heap.size+1+1+1+1+1) L:=⟨oM,oM,oM,hnp _,λb h=>(hnp b h).elim⟩;have hsf:∀b,b<L.heap.size->b≠w.heap.size+1+1+1+1+1->b≠w.heap.size+1+1+1+1->Sf (w.heap.size+1+1+1+1) (w.heap.size+1+1+1+1+1) L b:=λb h1 h2 h3=>⟨h1,h3,h2,hnp b⟩;have hold:∀b,b<w.heap.size->Sf (w.heap.size+1+1+1+1) (w.heap.size+1+1+1+1+1) L b:=λb h=>hsf b oM oM oM;have hwk:WkS L (w.heap.size+1+1+1+1) 116 (Sf (w.heap.size+1+1+1+1) (w.heap.size+1+1+1+1+1) L) ⟨ba,bl,bc,ta,tl,tc,fa,fl,fc,la,ll,lc⟩ B F turned none 0 none 0 0:=
   ⟨by unfold wkC;rw[HEN.o];exact hbq,au.nil_,(HBF.o.s.ext hbL).mono hold,(HBT.o.s.ext hbL).mono hold,((HF.o.s).ext hbL).mono hold⟩
  have hseq:=Bc (ob:=w.heap.size+1+1+1+1+1) (wb:=w.heap.size+1+1+1+1+1+1) (tb:=w.heap.size+1+1+1+1+1+1+1) (m:=4-1) t L hvd hwk (hsf _ oM oM oM) hbw hbt HA.o HFF.o;have hrow0:Rf (w.heap.size+1+1+1+1) (w.heap.size+1+1+1+1+1) L.heap.size 23 60 [] L:=⟨.slice none 0 0,[],hbo,World.ownsRow_nil _ _ _ _,aS.nil,hvd⟩;have UM:=Hd hseq;have HSZ:=Hd hsz;have HBL:=Hd hbL;have HBM:=Hd hbm;have Zi:=Hd hrow0;unfold fU at hL;rw[hL];clear hL hsz hbL hbm hbq hbo hbw hbt hnp hvd hsf hold hwk hseq hrow0;refine wpIn_wide.1 (qO (n:=4) rfl rfl dC (gf:=92) (lb:= #[.pointer (some ⟨w.heap.size+1+1+1+1+1+1,0,none⟩), .pointer (some ⟨w.heap.size+1+1+1+1+1+1+1,0,none⟩)]) rfl trivial yI (λb e=>by have:=HSZ.o;omega) UM.o KpQ.t (KpQ.b (by have:=HSZ.o;omega)) (λ_ _ h0 h=>KpQ.of_below (by have:=HSZ.o;omega) h) (λ_=>rfl)
   (λx W l o o' h0 h2 h3 h=>h.put (by have:=HSZ.o;omega) h2 h3) (λxs W l o o' h0 h2 h3 h=>⟨h.1,h.2.imp λ_ h=>h.put (by have:=HSZ.o;omega) h2 h3⟩) (λxs W l o o' h0 h2 h3 h=>⟨h.1,h.2.imp λ_ h=>h.put (by have:=HSZ.o;omega) h2 h3⟩)
   (λpre W=>(Rf (w.heap.size+1+1+1+1) (w.heap.size+1+1+1+1+1) L.heap.size 23 60 pre W/\Blk W (w.heap.size+1+1+1) [.int .i64 most] 3)/\Below w.heap.size w W/\¬(0<most/\most<=(pre.length:Int)))
   (λc pre W=>Rf (w.heap.size+1+1+1+1) (w.heap.size+1+1+1+1+1) L.heap.size 23 60 pre W/\Below w.heap.size w W/\(c= .exit 0/\most=(pre.length:Int)))
   (OwnFrom.and (OwnFrom.and (Own.from (Rf.own dC) _) (Own.from (Ah _ _ _) _)) (OwnFrom.and (ownFrom_below (Nat.le_refl _) (by have:=HSZ.o;omega)) (ownFrom_pure _ _)))
   (λc=>OwnFrom.and (Own.from (Rf.own dC) _) (OwnFrom.and (ownFrom_below (Nat.le_refl _) (by have:=HSZ.o;omega)) (ownFrom_pure _ _)))
   (λs A B h k=>⟨⟨h.1.1.only k (by have:=HSZ.o;omega),h.1.2.aQ k oM⟩,h.2.1.trans (k.below h.2.1.size (λb e=>oM)),h.2.2⟩) (λc s A B h k=>⟨h.1.only k (by have:=HSZ.o;omega),h.2.1.trans (k.below h.2.1.size (λb e=>oM)),h.2.2⟩) ⟨⟨Zi.o,HBM.o⟩,HBL.o,by rintro⟨h1,h2⟩;simp at h2;omega⟩
   (λx a' W=>∃bb ka kl kc va vl vc,x.2= .agg #[.slice ka kl kc, .slice va vl vc, .bool x.1.int, .int .i64 x.1.n]/\(au W (Sf (w.heap.size+1+1+1+1) (w.heap.size+1+1+1+1+1) W) ka kl kc x.1.key/\au W (Sf (w.heap.size+1+1+1+1) (w.heap.size+1+1+1+1+1) W) va vl vc x.1.value/\eY x.1.n)/\Blk W bb [.slice ka kl kc, .slice va vl vc, .bool x.1.int, .int .i64 x.1.n] 60/\bb≠w.heap.size+1+1+1+1+1/\a'= { tmps:= #[.agg #[.slice fa fl fc, .slice la ll lc, .int .i64 F.fuse, .int .i64 F.fault, .bool F.off], .agg #[.int .i64 t.at_, .int .i64 t.depth, .int .i64 t.red.c, .int .i64 t.red.n, .int .i64 (hi t.red.s), .int .u64 (lo t.red.s), .int .i64 t.red.l, .int .i64 t.red.m], .agg #[.slice ba bl bc, .bool en, .slice ta tl tc], .bool turned, .int .i64 most, .pointer (some ⟨w.heap.size,0,none⟩), .pointer (some ⟨w.heap.size+1,0,none⟩), .pointer (some ⟨w.heap.size+1+1,0,none⟩),undef, .pointer (some ⟨w.heap.size+1+1+1,0,none⟩), .slice none 0 0, .int .i64 0, .pointer (some ⟨w.heap.size+1+1+1+1,0,none⟩), .pointer (some ⟨w.heap.size+1+1+1+1+1,0,none⟩), .pointer (some ⟨bb,0,none⟩), .agg #[.slice ba bl bc, .bool en, .slice ta tl tc], .agg #[.slice fa fl fc, .slice la ll lc, .int .i64 F.fuse, .int .i64 F.fault, .bool F.off], .bool turned, .agg #[.slice ba bl bc, .bool en, .slice ta tl tc, .slice fa fl fc, .slice la ll lc, .int .i64 F.fuse, .int .i64 F.fault, .bool F.off, .bool turned, .slice none 0 0, .bool false, .int .i64 0], .pointer (some ⟨w.heap.size+1+1+1+1,0,none⟩), .int .i64 most, .bool false,undef,undef, .pointer (some ⟨w.heap.size+1+1+1+1,0,none⟩), .agg #[.int .i64 t.at_, .int .i64 t.depth, .int .i64 t.red.c, .int .i64 t.red.n, .int .i64 (hi t.red.s), .int .u64 (lo t.red.s), .int .i64 t.red.l, .int .i64 t.red.m], .func (.func 92) #[] #[.pointer (some ⟨w.heap.size+1+1+1+1+1+1,0,none⟩), .pointer (some ⟨w.heap.size+1+1+1+1+1+1+1,0,none⟩)], .agg #[.slice ka kl kc, .slice va vl vc, .bool x.1.int, .int .i64 x.1.n],undef,undef,undef,undef,undef,undef,undef,undef,undef,undef,undef,undef,undef,undef,undef,undef,undef,undef],defers:=[]})
   (λx a' W l o o' h0 h2 h3 h=>by
    obtain⟨bb,ka,kl,kc,va,vl,vc,e1,⟨e2,e3,e4⟩,e5,e6,e7⟩:=h;have k:KpQ (w.heap.size+1+1+1+1+1) (pQ (w.heap.size+1+1+1+1) (w.heap.size+1+1+1+1+1)) W (W.putObj l o'):=KpQ.put (by have:=HSZ.o;omega) h2 h3;refine⟨bb,ka,kl,kc,va,vl,vc,e1,⟨e2.go k,e3.go k,e4⟩,?_,e6,e7⟩;exact((grownBy_putObj' W l o').block bb e5.lt (λe=>by have e':bb=l:=Option.some.inj e;subst e';rw[show W.heap[bb]? =_ from e5]at h2;cases h2;cases h3)).trans e5)
   ?assign ?body ?done ?stop)
  case assign=>
   intro m l pre x W K hI hX hWs hK;have hX0:=hX;obtain⟨ka,kl,kc,va,vl,vc,hxe,h1,h2,h3⟩:=hX0;have HK:=Hd hK;have HI:=Hd hI;have HX:=Hd hX;have HXE:=Hd hxe;have HX3:=Hd (And.intro h1 (And.intro h2 h3));have HWS:=Hd hWs;obtain⟨xi,hxi⟩:∃z,x.1.int=z:=⟨_,rfl⟩;obtain⟨xn,hxn⟩:∃z,x.1.n=z:=⟨_,rfl⟩;have HXI:=Hd hxi;have HXN:=Hd hxn;dsimp only[iP.encs];rw[hxe,hxi,hxn];clear hK hI hX h1 h2 h3 hxe hWs hxi hxn;gi_wp2;have bx:Below W.heap.size W (W.alloc (.cells #[.slice ka kl kc, .slice va vl vc, .bool xi, .int .i64 xn] 60)):=bW;obtain⟨v,cs,hv,how,hcl,hvd⟩:=HI.o.1.1;have kx:KpQ (w.heap.size+1+1+1+1+1) (pQ (w.heap.size+1+1+1+1) (w.heap.size+1+1+1+1+1)) W (W.alloc (.cells #[.slice ka kl kc, .slice va vl vc, .bool xi, .int .i64 xn] 60)):=hvd.below bx;exact HK.o _ _ bx ⟨⟨HI.o.1.1.only (aA.of_below bx) (by have:=HSZ.o;omega),HI.o.1.2.ext bx⟩,HI.o.2.1.trans (bx.mono HI.o.2.1.size),HI.o.2.2⟩ (HX.o.go kx) ⟨W.heap.size,ka,kl,kc,va,vl,vc,HXE.o,⟨HX3.o.1.go kx,HX3.o.2.1.go kx,HX3.o.2.2⟩,by rw[HXI.o,HXN.o];exact Blk.new _ _ _,by have:=hvd.ho;omega,by rw[HXI.o,HXN.o]⟩
  case body=>
   rintro m l pre x a' W ⟨⟨⟨v,cs,hv,how,hcl,hvd⟩,hbm⟩,hbel,hnm⟩ hX ⟨bb,ka,kl,kc,va,vl,vc,hxe,⟨h1,h2,h3⟩,hbb,hne,rfl⟩ hlt hWs;have HGL:=Hd (show pre.length<10077696 from Nat.lt_of_lt_of_le hlt (Ku F B turned t));obtain⟨xi,hxi⟩:∃z,x.1.int=z:=⟨_,rfl⟩;obtain⟨xn,hxn⟩:∃z,x.1.n=z:=⟨_,rfl⟩;rw[hxi,hxn]at hbb;rw[hxi,hxn];have HXI:=Hd hxi;have HXN:=Hd hxn;have HV:=Hd hv;have HOW:=Hd how;have HCL:=Hd hcl;have HVD:=Hd hvd;have Zj:=Hd hbm;have Oj:=Hd hbel;have HNM:=Hd hnm;have HX3:=Hd (And.intro h1 (And.intro h2 h3));have HWS:=Hd hWs;have vc0:=hv.cell;have vl0:=hv.lt;have b0:=hbb.cells;have b0l:=hbb.lt;have m0:=hbm.lt;obtain⟨i0,hi0,hz0,hz1,hz2⟩:=info_parts jm;have HA4:=Hd (show Below W.heap.size W (W.alloc (.cells #[.slice ka kl kc, .slice va vl vc, .bool xi, .int .i64 xn] 60))from(Below.refl _ W).alloc (Nat.le_refl _) _);have HOA:=Hd (how.alloc (.cells #[.slice ka kl kc, .slice va vl vc, .bool xi, .int .i64 xn] 60));have HSR:=Hd ((eG (n:=1) (size:=4) (base:=W.heap.size) (xs:=[.slice ka kl kc, .slice va vl vc, .bool xi, .int .i64 xn]) (Blk.new W [_,_,_,_] 60) (Nat.le_refl _) rfl (by unfold maxLen;omega)).cells (g:=W.heap.size) rfl);clear hv how hcl hvd hbm hbel hnm hX hxe h1 h2 h3 hbb hne hlt hWs hxi hxn;by_cases hms:(pre.length:Int)+1=most
   .have hmb:((pre.length:Int)+1==most)=true:=beq_iff_eq.2 hms;have HMS:=Hd hms;clear hms;gi_wp2_with (gi_at_builtin;refine lY rfl (.tmp 28) (.tmp 30) 23 rfl L.heap.size 60 i0 _ 4 64 Tryz.underlying23 hi0 hz0 hz1 hz2 rfl dC v pre.length cs rfl HOA.o ⟨W.heap.size,0,none⟩ 1 1 [.slice ka kl kc, .slice va vl vc, .bool xi, .int .i64 xn] rfl rfl HSR.o (by intro u hu;simp at hu;rcases hu with rfl|rfl|rfl|rfl<;>rfl) oM (by have:=HGL.o;unfold maxLen;omega) (by have:=HGL.o;omega) (by have:=HWS.o;simp;omega) ?_;intro g cap w6 hown' hgrow hg hgl;have hG:=IK HV.o dC HOW.o HA4.o hown' hgrow hg hgl (nB:=w.heap.size+1+1+1+1) (by have:=HSZ.o;omega) oM (by have:=HWS.o;have:=HSZ.o;omega);have HG:=Hd hG;have v6:=hG.1.cell;have v6f:=hG.1.frozen;have v6l:=hG.1.lt;have Vq:Blk w6 (w.heap.size+1+1+1) [.int .i64 most] 3:=(Below.heap_setCell w6 ⟨w.heap.size+1+1+1+1+1,0,none⟩ (.slice (some ⟨g,0,none⟩) (pre.length+1) cap) (w.heap.size+1+1+1) (λe=>by have e':w.heap.size+1+1+1=w.heap.size+1+1+1+1+1:=e;omega)).symm.trans (Zj.o.below hG.2.2.2.2.1 oM);have m6:=Vq.cells;have m6l:=Vq.lt;clear hown' hgrow hg hgl hG Vq)
    have hG:=HG.o;have k7:=hG.2.2.2.2.2.weak (r:=pQ (w.heap.size+1+1+1+1) (w.heap.size+1+1+1+1+1)) (λ_ e=> .inl e);refine⟨hG.2.2.2.1,hG.2.2.2.2.2,⟨_,_,hG.2.1,by rw[List.length_append];exact hG.2.2.1,?_,HVD.o.kpq k7⟩,Oj.o.trans (hG.2.2.2.2.1.mono oM),rfl,by rw[List.length_append,<- HMS.o];simp⟩;rw[List.map_append,<- HXI.o,<- HXN.o];exact(HCL.o.go k7).snoc (HX3.o.1.go k7) (HX3.o.2.1.go k7) HX3.o.2.2
   .have hmb:((pre.length:Int)+1==most)=false:=beq_eq_false_iff_ne.2 hms;have HMS:=Hd hms;clear hms;gi_wp2_with (gi_at_builtin;refine lY rfl (.tmp 28) (.tmp 30) 23 rfl L.heap.size 60 i0 _ 4 64 Tryz.underlying23 hi0 hz0 hz1 hz2 rfl dC v pre.length cs rfl HOA.o ⟨W.heap.size,0,none⟩ 1 1 [.slice ka kl kc, .slice va vl vc, .bool xi, .int .i64 xn] rfl rfl HSR.o (by intro u hu;simp at hu;rcases hu with rfl|rfl|rfl|rfl<;>rfl) oM (by have:=HGL.o;unfold maxLen;omega) (by have:=HGL.o;omega) (by have:=HWS.o;simp;omega) ?_;intro g cap w6 hown' hgrow hg hgl;have hG:=IK HV.o dC HOW.o HA4.o hown' hgrow hg hgl (nB:=w.heap.size+1+1+1+1) (by have:=HSZ.o;omega) oM (by have:=HWS.o;have:=HSZ.o;omega);have HG:=Hd hG;have v6:=hG.1.cell;have v6f:=hG.1.frozen;have v6l:=hG.1.lt;have Vq:Blk w6 (w.heap.size+1+1+1) [.int .i64 most] 3:=(Below.heap_setCell w6 ⟨w.heap.size+1+1+1+1+1,0,none⟩ (.slice (some ⟨g,0,none⟩) (pre.length+1) cap) (w.heap.size+1+1+1) (λe=>by have e':w.heap.size+1+1+1=w.heap.size+1+1+1+1+1:=e;omega)).symm.trans (Zj.o.below hG.2.2.2.2.1 oM);have m6:=Vq.cells;have m6l:=Vq.lt;clear hown' hgrow hg hgl hG Vq)
    have hG:=HG.o;have k7:=hG.2.2.2.2.2.weak (r:=pQ (w.heap.size+1+1+1+1) (w.heap.size+1+1+1+1+1)) (λ_ e=> .inl e);refine⟨hG.2.2.2.1,hG.2.2.2.2.2,⟨⟨_,_,hG.2.1,by rw[List.length_append];exact hG.2.2.1,?_,HVD.o.kpq k7⟩,Zj.o.below hG.2.2.2.2.1 oM⟩,Oj.o.trans (hG.2.2.2.2.1.mono oM),?_⟩
    .rw[List.map_append,<- HXI.o,<- HXN.o];exact(HCL.o.go k7).snoc (HX3.o.1.go k7) (HX3.o.2.1.go k7) HX3.o.2.2
    .rw[List.length_append,List.length_singleton];have h1:=HNM.o;have h2:=HMS.o;omega
  case done=>
   rintro D xs W hD ⟨hxs,last,X7,za,zl,zc,hw⟩ ⟨⟨⟨v,cs,hv,how,hcl,hvd⟩,hbm⟩,hbel,hnm⟩ hD2;have hlen:xs.length=(goT F B turned t).1.length:=by rw[<- hxs,List.length_map]
   have hrp:R=if (goT F B turned t).2=0 then((goT F B turned t).1,0)else([],(goT F B turned t).2):=by
    rw[<- HRP.o];unfold uo;rw[if_neg hm,if_neg (by rw[<- hlen];exact hnm)]
   obtain⟨y,hy⟩:∃y,(goT F B turned t).2=y:=⟨_,rfl⟩;rw[hy]at hw hrp;have HRR:=Hd (show R=if y=0 then(xs.map (·.1),0)else([],y) by rw[hrp,hxs]);have hln:xs.length<=10077696:=by rw[hlen];exact Ku F B turned t
   clear hrp hxs hlen hy hnm;by_cases hy0:y=0
   .subst hy0;have HRR:=Hd (show R=(xs.map (·.1),0) by rw[HRR.o,if_pos rfl]);have q1:=hw.box.cells;have l1:=hw.box.lt;unfold wkC at q1;obtain⟨a',c',rfl,hIS⟩:=hcl.shut2 how oM;have vc0:=hv.cell;have vl0:=hv.lt;have HIS:=Hd hIS;have HKK:=Hd hD2;have HDW:=Hd (show w.heap.size<=D by have:=HSZ.o;omega);have HBW:=Hd hbel;clear hw hD2 hbel hv how hcl hvd X7 hIS hln;go_wp2_with fail;try rw[Exit.noGoto_ret]
    refine⟨by simp, .inl ⟨_,_,rfl,run_takeDeferred HKK.o,?_⟩⟩;refine⟨.tuple #[.slice a' xs.length c', .int .i64 0],by simp[results,Tryz.results24,go_sem],?_⟩;rw[HRR.o];refine⟨⟨a',xs.length,c',rfl,?_,λh=>(h rfl).elim⟩,HBW.o.trans (belowK_b (w:=w) (Nat.le_refl _) W D _ _ HDW.o HKK.o rfl rfl)⟩;exact(HIS.o.Xt HKK.o rfl).s
   .have hyb:(y !=0)=true:=by simp[hy0]
    have HRR:=Hd (show R=([],y) by rw[HRR.o,if_neg hy0]);have q1:=hw.box.cells;have l1:=hw.box.lt;unfold wkC at q1;have HKK:=Hd hD2;have HDW:=Hd (show w.heap.size<=D by have:=HSZ.o;omega);have HBW:=Hd hbel;clear hw hD2 hbel hv how hcl hvd hbm X7 hln hy0;go_wp2_with fail;go_quiet (fail);have hD3:(W.drewN nq).heap[D]? =some (.deferred (some [])):=by simpa using HKK.o
    have HD3:=Hd hD3;clear hD3 q1 l1;go_wp2_with fail;try rw[Exit.noGoto_ret]
    refine⟨by simp, .inl ⟨_,_,rfl,run_takeDeferred HD3.o,?_⟩⟩;refine⟨.tuple #[.slice none 0 0, .int .i64 y],by simp[results,Tryz.results24,go_sem],?_⟩;rw[HRR.o];exact⟨⟨none,0,0,rfl,aY.nil_,λ_=>⟨rfl,rfl,rfl⟩⟩,(below_drewN HBW.o nq).trans (belowK_b (w:=w) (Nat.le_refl _) (W.drewN nq) D _ _ HDW.o HD3.o rfl rfl)⟩
  case stop=>
   rintro D c xs W hD ⟨hxs,last,X7,za,zl,zc,hw⟩ ⟨⟨v,cs,hv,how,hcl,hvd⟩,hbel,rfl,hmx⟩ hD2;have hle:xs.length<=(goT F B turned t).1.length:=by
    have:=hxs.length_le;rwa [List.length_map]at this
   have HRR:=Hd (show R=(xs.map (·.1),0) by
    rw[<- HRP.o];unfold uo;rw[if_neg hm,if_pos ⟨oM,oM⟩];obtain⟨r,hr⟩:=hxs;rw[<- hr,hmx,Int.toNat_natCast,List.take_append_of_le_length (by simp),List.take_of_length_le (by simp)])
   have hln:xs.length<=10077696:=Nat.le_trans hle (Ku F B turned t);clear hxs hle hmx;refine wpIn_wide.2 ?_;have q1:=hw.box.cells;have l1:=hw.box.lt;unfold wkC at q1;obtain⟨a',c',rfl,hIS⟩:=hcl.shut2 how oM;have vc0:=hv.cell;have vl0:=hv.lt;have HIS:=Hd hIS;have HKK:=Hd hD2;have HDW:=Hd (show w.heap.size<=D by have:=HSZ.o;omega);have HBW:=Hd hbel;clear hw hD2 hbel hv how hcl hvd X7 hIS hln;go_wp2_with fail;try rw[Exit.noGoto_ret]
   refine⟨by simp, .inl ⟨_,_,rfl,run_takeDeferred HKK.o,?_⟩⟩;refine⟨.tuple #[.slice a' xs.length c', .int .i64 0],by simp[results,Tryz.results24,go_sem],?_⟩;rw[HRR.o];refine⟨⟨a',xs.length,c',rfl,?_,λh=>(h rfl).elim⟩,HBW.o.trans (belowK_b (w:=w) (Nat.le_refl _) W D _ _ HDW.o HKK.o rfl rfl)⟩;exact(HIS.o.Xt HKK.o rfl).s
end Go.Proofs.YtenmnhnlcnmloaaGreat
namespace Go.Proofs.YtenmnhnlcnmloaaGreat
open Go.RowKit Go.Dav
attribute [local go_sem] Gives dG ite_val ay
theorem I9(F:aB)(fa la:Option Addr)(fl fc ll lc:Nat)(t:mP)(ka:Option Addr)(kl kc:Nat)(k:List UInt8)(w:World)(hF:lF w fa fl fc la ll lc F)(ha:eY t.at_)(hf:t.red.fits)(hK:BytesAt w ka kl kc k)(hkl:kl+1<=140737488355328):
  Calls Tryz.prog 23 #[.agg #[.slice fa fl fc, .slice la ll lc, .int .i64 F.fuse, .int .i64 F.fault, .bool F.off], .agg (fU t).toArray, .slice ka kl kc] w (QK w (Ur F t k)):=by
 obtain⟨r,hr⟩:∃r,uo F t ⟨k,true,k++[0]⟩ false 1=r:=⟨_,rfl⟩;have HGP:=Hd (show Ur F t k=if r.2≠0 then(I8,r.2)else match r.1 with
  |[]=>(I8,4)
  |x::_=>(x,0) by unfold Ur;rw[hr])
 have HRG:=Hd (λW a n c (hb:Below w.heap.size w W) (hto:BytesAt W a n c (k++[0]))=>by
  have q:=BD F fa la fl fc ll lc t ⟨k,true,k++[0]⟩ ka a kl kc n c false 1 W (hF.ext hb) ha hf (hK.ext hb) hto;rw[hr]at q;unfold Kz fU at q;exact q)
 have HK:=Hd hK;have HKL:=Hd hkl;have HLEN:=Hd hK.hlen;have hcap:=hK.hcap;have RG:=Hd hK.hnil;have b0:Below w.heap.size w (((w.alloc (.cells [.slice fa fl fc, .slice la ll lc, .int .i64 F.fuse, .int .i64 F.fault, .bool F.off].toArray 32)).alloc (.cells (fU t).toArray 37)).alloc (.cells #[.slice none 0 0, .slice none 0 0, .bool false, .int .i64 0] 60)):=by unfold fU;exact bW
 have HB0:=Hd b0;have HQ6:=Hd (Blk.new' ((w.alloc (.cells [.slice fa fl fc, .slice la ll lc, .int .i64 F.fuse, .int .i64 F.fault, .bool F.off].toArray 32)).alloc (.cells (fU t).toArray 37)) [.slice none 0 0, .slice none 0 0, .bool false, .int .i64 0] 60 (p:=w.heap.size+1+1) (by simp));clear hr hF ha hf hK hkl b0;unfold fU at*;go_enter Tryz.func23,Tryz.ntmps23;go_wp2_with fail;refine' dX [14,15] [.inl _, .inl _, .inl _, .inl _, .inl _, .inl _, .inl _, .inl _, .inl _, .inr (ou w.heap.size [0]), .inr (ou w.heap.size (k++[0])), .inr (BdV w.heap.size ka kl kc (k++[0])), .inr (RgT r), .inr (RgT r), .inr (RgS r.1), .inl _] kR kR ?dN
 case dN=>
  iterate 2 refine wE ?_
  iterate 7 refine wD ?_
  refine aG rfl (ou.later) (by rfl) (λW hE hN=>?_) (λu9=>?_)
  .have h:=row_one (W:=W) (B:=w.heap.size) (t:=5) 0 (by have:=hE.size;simp at this;omega);go_simp;exact h
  simp only[Act.put,pB,pC,pD];refine aG rfl (ou.later) (by rfl) (λW hE hN=>?_) (λu10=>?_)
  .obtain⟨a1,n1,c1,rfl,hB⟩:=(show ou w.heap.size [0] u9 W/\True from hN).1;obtain rfl:n1=1:=(by have h:=hB.at_.hlen;simp at h;omega);obtain⟨a',c',w',hrun,hcells,hk1,hk2,hk3,hbel⟩:=yQ (P:=Tryz.prog) (W:=W) aF 22 (λb=>b<w.heap.size) ka kl (u8s k) ((HK.o.s.ext (HB0.o.trans (hE.mono HB0.o.size))).cells) _ a1 1 c1 (u8s [0]) hB.cells (iy _) (λh=>by have:=RG.o h;omega) (by have:=HKL.o;unfold maxLen;omega) (by have:=HKL.o;omega);exact FK rfl rfl rfl hrun hbel ⟨a',kl+1,c',rfl,au.of_cells (by have h1:=hcells;rw[<- aW]at h1;exact h1.mono (λb h=>by have:=(HB0.o.trans (hE.mono HB0.o.size)).size;rcases h with h|h;omega;omega)) hk1 hk2 (by have:=HKL.o;omega) hk3⟩
  simp only[Act.put,pB,pC,pD];refine aG rfl (BdV.later) (by rfl) (λW hE hN=>?_) (λu11=>?_)
  .obtain⟨a1,n1,c1,rfl,hB⟩:=(show ou w.heap.size (k++[0]) u10 W/\True from hN).1;go_simp;first|exact⟨Below.refl _ _,_,_,_,rfl,hB⟩|exact⟨_,_,_,rfl,hB⟩
  simp only[Act.put,pB,pC,pD];refine aG rfl (RgT.later) (by rfl) (λW hE hN=>?_) (λu12=>?_)
  .obtain⟨a1,n1,c1,rfl,hB⟩:=(show BdV w.heap.size ka kl kc (k++[0]) u11 W/\True from hN).1;go_simp;refine⟨Below.refl _ _,?_⟩;refine(HRG.o W a1 n1 c1 (HB0.o.trans (hE.mono HB0.o.size)) hB.at_).mono ?_;rintro e w' ⟨⟨a2,n2,c2,rfl,h2,_⟩,hb⟩;exact⟨_,rfl,hb,_,rfl,a2,n2,c2,rfl,h2.mono (λ_ _=>trivial)⟩
  simp only[Act.put,pB,pC,pD];refine aG rfl (RgT.later) (by rfl) (λW hE hN=>?_) (λu13=>?_)
  .have h:=(show RgT r u12 W/\True from hN).1;go_simp;first|exact⟨Below.refl _ _,h⟩|exact Below.refl _ _
  simp only[Act.put,pB,pC,pD];refine aG rfl (RgS.later) (by rfl) (λW hE hN=>?_) (λu14=>?_)
  .obtain⟨n,rfl,hn⟩:=(show RgT r u13 W/\True from hN).1;go_simp;first|exact⟨Below.refl _ _,hn⟩|exact Below.refl _ _
  simp only[Act.put,pB,pC,pD];refine wG (λW hE hN=>by obtain⟨n,rfl,hn⟩:=(show RgT r u13 W/\True from hN).1;exact gF) ?_;refine aj λW1 hE1 hG1=>?_;have jC:=hE1.cF;have kK:=hE1.fF;obtain⟨⟨a,n,c,rfl,hI⟩,_⟩:=(show RgS r.1 u14 W1/\_ from hG1);have B1:=Hd (HB0.o.trans (hE1.mono HB0.o.size));have HQ1:=Hd (HQ6.o.ext hE1);have hln:=hI.hlen;have HI:=Hd hI;obtain⟨l,y⟩:=r;dsimp only at HI hln HGP;clear hE1 hG1 jC kK HB0 HQ6 HRG hI RG;have z1:=HQ1.o.cells;have z1m:=HQ1.o.marks;have z1l:=HQ1.o.lt;by_cases hy:y=0
  .subst hy;cases l with
   |nil=>
    obtain rfl:n=0:=by simpa using hln.symm
    have HV:=Hd (show Ur F t k=(I8,4) by rw[HGP.o];rfl);clear hln HGP;go_wp2_with fail;try (refine cO ?_;go_wp2_with fail)
    have c4:=((((HQ1.o.set 0 (.slice none 0 0)).set 1 (.slice none 0 0)).set 2 (.bool false)).set 3 (.int .i64 0)).cells;have ho:=((((aA.refl (· =w.heap.size+1+1) W1).set (w.heap.size+1+1) 0 (.slice none 0 0) rfl).set (w.heap.size+1+1) 1 (.slice none 0 0) rfl).set (w.heap.size+1+1) 2 (.bool false) rfl).set (w.heap.size+1+1) 3 (.int .i64 0) rfl;refine bodyPost_ret (v:= .tuple #[.agg #[(.slice none 0 0),(.slice none 0 0),(.bool false),(.int .i64 0)], .int .i64 4]) (by simp[results,Tryz.results23,go_sem,c4]) rfl ?_;rw[HV.o];exact⟨⟨_,rfl,none,0,0,none,0,0,rfl,au.nil_,au.nil_,by show eY (0:Int);unfold eY;omega⟩,B1.o.trans (ho.below B1.o.size (λc e=>oM))⟩
   |cons x m=>
    have HV:=Hd (show Ur F t k=(x,0) by rw[HGP.o];rfl);obtain⟨b,o,xa,xl,xc,va,vl,vc,rfl,hb,_,i0,i1,i2,i3,hk1,hv1,hi6⟩:=HI.o.hat 0 x rfl;rw[Nat.zero_mul,Nat.add_zero]at i0 i1 i2 i3;have hn1:(n==0)=false:=by rw[beq_eq_false_iff_ne];simp at hln;omega
    have hn2:((n:Int)==0)=false:=by rw[beq_eq_false_iff_ne];simp at hln;omega
    have hn3:(0:Int)<(n:Int):=by simp at hln;omega
    obtain⟨xi,hxi⟩:∃z,x.int=z:=⟨_,rfl⟩;obtain⟨xn,hxn⟩:∃z,x.n=z:=⟨_,rfl⟩;rw[hxi]at i2;rw[hxn]at i3;have HXX:=Hd (And.intro hxi hxn);have HX:=Hd (And.intro hk1 (And.intro hv1 hi6));clear hln HGP hk1 hv1 hi6 hxi hxn;go_wp2_with fail;try (refine cO ?_;go_wp2_with fail)
    have hoff:=λ(S:Nat->Prop) a n c l (h:au W1 S a n c l)=>h.JX (Z:=λcs=>cs=[.slice none 0 0, .slice none 0 0, .bool false, .int .i64 0]) HQ1.o rfl (by
     rintro cs rfl v hv x e;subst e;simp at hv)
    have c4:=((((HQ1.o.set 0 (.slice xa xl xc)).set 1 (.slice va vl vc)).set 2 (.bool xi)).set 3 (.int .i64 xn)).cells;have ho:=((((aA.refl (· =w.heap.size+1+1) W1).set (w.heap.size+1+1) 0 (.slice xa xl xc) rfl).set (w.heap.size+1+1) 1 (.slice va vl vc) rfl).set (w.heap.size+1+1) 2 (.bool xi) rfl).set (w.heap.size+1+1) 3 (.int .i64 xn) rfl;refine bodyPost_ret (v:= .tuple #[.agg #[(.slice xa xl xc),(.slice va vl vc),(.bool xi),(.int .i64 xn)], .int .i64 0]) (by simp[results,Tryz.results23,go_sem,c4]) rfl ?_;rw[HV.o];exact⟨⟨_,rfl,xa,xl,xc,va,vl,vc,by rw[HXX.o.1,HXX.o.2],(((hoff _ _ _ _ _ HX.o.1).gG ho (λb h=>h.2)).at_).s,(((hoff _ _ _ _ _ HX.o.2.1).gG ho (λb h=>h.2)).at_).s,HX.o.2.2⟩,B1.o.trans (ho.below B1.o.size (λc e=>oM))⟩
  .have hyb:(y !=0)=true:=by simp[hy]
   have HV:=Hd (show Ur F t k=(I8,y) by rw[HGP.o];exact if_pos hy);clear hln HGP hy;go_wp2_with fail;try (refine cO ?_;go_wp2_with fail)
   have c4:=((((HQ1.o.set 0 (.slice none 0 0)).set 1 (.slice none 0 0)).set 2 (.bool false)).set 3 (.int .i64 0)).cells;have ho:=((((aA.refl (· =w.heap.size+1+1) W1).set (w.heap.size+1+1) 0 (.slice none 0 0) rfl).set (w.heap.size+1+1) 1 (.slice none 0 0) rfl).set (w.heap.size+1+1) 2 (.bool false) rfl).set (w.heap.size+1+1) 3 (.int .i64 0) rfl;refine bodyPost_ret (v:= .tuple #[.agg #[(.slice none 0 0),(.slice none 0 0),(.bool false),(.int .i64 0)], .int .i64 y]) (by simp[results,Tryz.results23,go_sem,c4]) rfl ?_;rw[HV.o];exact⟨⟨_,rfl,none,0,0,none,0,0,rfl,au.nil_,au.nil_,by show eY (0:Int);unfold eY;omega⟩,B1.o.trans (ho.below B1.o.size (λc e=>oM))⟩
end Go.Proofs.YtenmnhnlcnmloaaGreat
