/- Part of a proof of a law of the layer of trees. -/
import Derived.Test.YtenmnhnlcnmloaaGreatQa14
import Derived.Test.YtenmnhnlcnmloaaGreatQa01
set_option linter.unusedVariables false
set_option linter.unusedSimpArgs false
set_option maxHeartbeats 8000000
set_option maxRecDepth 8000
namespace Go.Dav
open Go Go.RowKit
def Jg:Nat->List aP->bJ->List aP×bJ×Bool
 |0,acc,s=>(acc,s,true)
 |k+1,acc,s=>if (jy s).ok then Jg k (acc++[lM s]) (jy s)else(acc,jy s,false)
def aS(W:World)(S:Nat->Prop)(cs:List Value)(L:List aP):Prop:=
 cs.length=L.length*4/\∀(k:Nat) (x:aP),L[k]? =some x->∃ka kl kc va vl vc,cs[k*4]? =some (.slice ka kl kc)/\cs[k*4+1]? =some (.slice va vl vc)/\cs[k*4+2]? =some (.bool x.int)/\cs[k*4+3]? =some (.int .i64 x.n)/\au W S ka kl kc x.key/\au W S va vl vc x.value/\eY x.n
theorem aS.same{W W':World}{S:Nat->Prop}{cs:List Value}{L:List aP}(h:aS W S cs L)(hs:W.heap.size<=W'.heap.size)(hb:∀b,S b->b<W.heap.size->W'.heap[b]? =W.heap[b]?):aS W' S cs L:=
 ⟨h.1,λk x hx=>by obtain⟨ka,kl,kc,va,vl,vc,c0,c1,c2,c3,h1,h2,h3⟩:=h.2 k x hx;exact⟨ka,kl,kc,va,vl,vc,c0,c1,c2,c3,h1.same hs hb,h2.same hs hb,h3⟩⟩
theorem aS.nil{W:World}{S:Nat->Prop}:aS W S [] []:=⟨rfl,λk x h=>by simp at h⟩
theorem aS.snoc{W:World}{S:Nat->Prop}{cs:List Value}{L:List aP}{x:aP}{ka va:Option Addr}{kl kc vl vc:Nat}(h:aS W S cs L)(h1:au W S ka kl kc x.key)(h2:au W S va vl vc x.value)(h3:eY x.n):aS W S (cs++[.slice ka kl kc, .slice va vl vc, .bool x.int, .int .i64 x.n]) (L++[x]):=by
 refine⟨by simp[h.1];omega,λk y hy=>?_⟩;by_cases hk:k<L.length
 .rw[List.getElem?_append_left hk]at hy;obtain⟨ka,kl,kc,va,vl,vc,c0,c1,c2,c3,g1,g2,g3⟩:=h.2 k y hy;have hl:=h.1;exact⟨ka,kl,kc,va,vl,vc,by rw[List.getElem?_append_left oM];exact c0,by rw[List.getElem?_append_left oM];exact c1,by rw[List.getElem?_append_left oM];exact c2,by rw[List.getElem?_append_left oM];exact c3,g1,g2,g3⟩
 .have hl:=(List.getElem?_eq_some_iff.1 hy).1;simp at hl;obtain rfl:k=L.length:=oM;rw[List.getElem?_append_right (Nat.le_refl _),Nat.sub_self]at hy;obtain rfl:x=y:=by simpa using hy
  have hl:=h.1;exact⟨ka,kl,kc,va,vl,vc,by rw[List.getElem?_append_right oM,show L.length*4-cs.length=0 by omega];rfl,by rw[List.getElem?_append_right oM,show L.length*4+1-cs.length=1 by omega];rfl,by rw[List.getElem?_append_right oM,show L.length*4+2-cs.length=2 by omega];rfl,by rw[List.getElem?_append_right oM,show L.length*4+3-cs.length=3 by omega];rfl,h1,h2,h3⟩
theorem aS.shut{W:World}{S:Nat->Prop}{cs:List Value}{L:List aP}{e base n:Nat}{v:Value}(h:aS W S cs L)(ho:W.ownsRow base e 4 v n cs)(hn:n<=1000000):∃a c,v= .slice a n c/\aY W (λb=>S b\/base<=b) a n c L:=by
 have hln:L.length=n:=by have:=ho.1;have:=h.1;omega
 rcases ho.2 with⟨h1,h2⟩|⟨g,cap,cur,hv,hg,hh,hc,hm,_⟩
 .subst h2;have:L=[]:=List.length_eq_zero_iff.1 hln;subst this;exact⟨none,0,h1,⟨rfl,Nat.le_refl _,by unfold maxLen;omega,oM,λk x hx=>by simp at hx,λ_=>rfl⟩⟩
 .refine⟨some ⟨g,0,none⟩,cap,hv,⟨hln,hc,hm,oM,λk x hx=>?_,λh=>by cases h⟩⟩;obtain⟨ka,kl,kc,va,vl,vc,c0,c1,c2,c3,g1,g2,g3⟩:=h.2 k x hx;have hcell:=λj u hu=>ho.cells (g:=g) (by rw[hv];rfl) j u hu;have e:∀j,(⟨g,0,none⟩:Addr).add j=⟨g,0+j,none⟩:=λj=>Addr.add_mid g 0 j;have hlt:=(Array.getElem?_eq_some_iff.1 hh).1;have r:=λj u hu=>(show W.cell? ⟨g,0+j,none⟩=some u by rw[<- e];exact hcell j u hu);exact⟨g,0,ka,kl,kc,va,vl,vc,rfl,hlt, .inr hg,r _ _ c0,by have:=r _ _ c1;rwa [Nat.add_assoc],by have:=r _ _ c2;rwa [Nat.add_assoc],by have:=r _ _ c3;rwa [Nat.add_assoc],g1.mono λb hb=> .inl hb,g2.mono λb hb=> .inl hb,g3⟩
theorem aA.grown{p:Nat->Prop}{w W W':World}{base e size n:Nat}{v:Value}{xs:List Value}(h:aA p w W)(ho:W.ownsRow base e size v n xs)(hb:w.heap.size<=base)(hg:W.grownBy W' v.ownBlock):aA p w W':=
 ⟨hg.os.trans h.os,hg.tape.trans h.tape,hg.output.trans h.output,Nat.le_trans h.size hg.size,λk hk hn=>(hg.block k (Nat.lt_of_lt_of_le hk h.size) (λe=>by have:=(ho.lt k e.symm).1;omega)).trans (h.block k hk hn)⟩
theorem vY{p:Nat->Prop}{W W':World}{base e size n:Nat}{v:Value}{xs:List Value}(h:W.ownsRow base e size v n xs)(ho:aA p W W')(hp:∀b,p b->b<base):W'.ownsRow base e size v n xs:=by
 refine⟨h.1,?_⟩;rcases h.2 with h2|⟨g,cap,cur,h1,h2,h3,h4⟩
 .exact .inl h2
 .exact .inr ⟨g,cap,cur,h1,h2,(ho.block g (Array.getElem?_eq_some_iff.1 h3).1 (λhpg=>by have:=hp g hpg;omega)).trans h3,h4⟩
theorem yA{W W':World}{base e size n:Nat}{v:Value}{xs:List Value}(h:W.ownsRow base e size v n xs)(hk:∀k,v.ownBlock=some k->W'.heap[k]? =W.heap[k]?):W'.ownsRow base e size v n xs:=by
 refine⟨h.1,?_⟩;rcases h.2 with h2|⟨g,cap,cur,h1,h2,h3,h4⟩
 .exact .inl h2
 .exact .inr ⟨g,cap,cur,h1,h2,(hk g (by rw[h1];rfl)).trans h3,h4⟩
theorem tX.below{tb tq:TypeId}{W W':World}{S:Nat->Prop}{pR pO B:Nat}{s:bJ}(h:tX tb tq W S pR pO s)(hb:Below B W W')(h1:pR<B)(h2:pO<B)(h3:∀b,S b->b<B):tX tb tq W' S pR pO s:=
 ⟨h.hR.below hb h1,h.hO.below hb h2,h.hB.same hb.size λb hs _=>hb.block b (h3 b hs),h.hf⟩
theorem tX.Pq{tb tq:TypeId}{W W':World}{S p:Nat->Prop}{pR pO:Nat}{s:bJ}(h:tX tb tq W S pR pO s)(ho:aA p W W')(h1:¬p pR)(h2:¬p pO)(h3:∀b,S b->¬p b):tX tb tq W' S pR pO s:=
 ⟨h.hR.aQ ho h1,h.hO.aQ ho h2,h.hB.aQ ho h3,h.hf⟩
theorem GU{tb tq:TypeId}{W:World}{S:Nat->Prop}{pR pO:Nat}{s:bJ}(h:tX tb tq W S pR pO s):au W S ((s.next 1).outA (s.num 1)) ((s.next 1).yx (s.num 1)) ((s.next 1).yx (s.num 1)) s.cnt:=by
 have hn:tX tb tq W S pR pO s->au W S (s.next 1).a (s.next 1).n (s.next 1).c (s.next 1).l:=λh=>by
  unfold bJ.next;cases hc:s.can 1 with
  |false=>exact h.hB
  |true=>
   unfold bJ.can at hc;simp only[Bool.and_eq_true,decide_eq_true_eq]at hc;exact h.hB.drop hc.2
 unfold bJ.cnt bJ.outA bJ.yx bJ.bytes;cases hc:(s.next 1).can (s.num 1)with
 |false=>exact au.nil_
 |true=>
  unfold bJ.can at hc;simp only[Bool.and_eq_true,decide_eq_true_eq]at hc;simp only[if_true];exact(hn h).takes hc.2
theorem xG{W:World}{S:Nat->Prop}{s:bJ}(h:au W S s.a s.n s.c s.l)(k:Nat):au W S (s.next k).a (s.next k).n (s.next k).c (s.next k).l:=by
 unfold bJ.next;cases hc:s.can k with
 |false=>exact h
 |true=>
  unfold bJ.can at hc;simp only[Bool.and_eq_true,decide_eq_true_eq]at hc;exact h.drop hc.2
theorem MP{W:World}{S:Nat->Prop}{s:bJ}(h:au W S s.a s.n s.c s.l)(k:Nat):au W S (s.outA k) (s.yx k) (s.yx k) (s.bytes k):=by
 unfold bJ.outA bJ.yx bJ.bytes;cases hc:s.can k with
 |false=>exact au.nil_
 |true=>
  unfold bJ.can at hc;simp only[Bool.and_eq_true,decide_eq_true_eq]at hc;simp only[if_true];exact h.takes hc.2
theorem RI(s:bJ):eY (lM s).n:=by
 unfold lM eY;dsimp only;rw[dQ];omega
def Jh:Nat->List dS->bJ->List dS×bJ×Bool
 |0,acc,s=>(acc,s,true)
 |k+1,acc,s=>if (jr s).ok then Jh k (acc++[o8 s]) (jr s)else(acc,jr s,false)
def fO(x:dS):List Value:=[.int .i64 x.at_, .int .i64 x.red.c, .int .i64 x.red.n, .int .i64 (hi x.red.s), .int .u64 (lo x.red.s), .int .i64 x.red.l, .int .i64 x.red.m]
def bF(W:World)(S:Nat->Prop)(cs:List Value)(L:List dS):Prop:=
 cs.length=L.length*8/\∀(k:Nat) (x:dS),L[k]? =some x->∃ka kl kc,(∀j v,(Value.slice ka kl kc::fO x)[j]? =some v->cs[k*8+j]? =some v)/\au W S ka kl kc x.key/\eY x.at_/\x.red.fits
theorem bF.same{W W':World}{S:Nat->Prop}{cs:List Value}{L:List dS}(h:bF W S cs L)(hs:W.heap.size<=W'.heap.size)(hb:∀b,S b->b<W.heap.size->W'.heap[b]? =W.heap[b]?):bF W' S cs L:=
 ⟨h.1,λk x hx=>by obtain⟨ka,kl,kc,c0,h1,h2,h3⟩:=h.2 k x hx;exact⟨ka,kl,kc,c0,h1.same hs hb,h2,h3⟩⟩
theorem bF.nil{W:World}{S:Nat->Prop}:bF W S [] []:=⟨rfl,λk x h=>by simp at h⟩
theorem bF.snoc{W:World}{S:Nat->Prop}{cs:List Value}{L:List dS}{x:dS}{ka:Option Addr}{kl kc:Nat}(h:bF W S cs L)(h1:au W S ka kl kc x.key)(h2:eY x.at_)(h3:x.red.fits):bF W S (cs++(Value.slice ka kl kc::fO x)) (L++[x]):=by
 refine⟨by simp[h.1,fO];omega,λk y hy=>?_⟩;by_cases hk:k<L.length
 .rw[List.getElem?_append_left hk]at hy;obtain⟨ka,kl,kc,c0,g1,g2,g3⟩:=h.2 k y hy;refine⟨ka,kl,kc,λj v hv=>?_,g1,g2,g3⟩;have:=c0 j v hv;rw[List.getElem?_append_left (List.getElem?_eq_some_iff.1 this).1];exact this
 .have hl:=(List.getElem?_eq_some_iff.1 hy).1;simp at hl;obtain rfl:k=L.length:=oM;rw[List.getElem?_append_right (Nat.le_refl _),Nat.sub_self]at hy;obtain rfl:x=y:=by simpa using hy
  have hl:=h.1;refine⟨ka,kl,kc,λj v hv=>?_,h1,h2,h3⟩;rw[List.getElem?_append_right oM,show L.length*8+j-cs.length=j by omega];exact hv
theorem bF.shut{W:World}{S:Nat->Prop}{cs:List Value}{L:List dS}{e base n:Nat}{v:Value}(h:bF W S cs L)(ho:W.ownsRow base e 8 v n cs)(hn:n<=1000000):∃a c,v= .slice a n c/\dZ W (λb=>S b\/base<=b) a n c L:=by
 have hln:L.length=n:=by have:=ho.1;have:=h.1;omega
 rcases ho.2 with⟨h1,h2⟩|⟨g,cap,cur,hv,hg,hh,hc,hm,_⟩
 .subst h2;have:L=[]:=List.length_eq_zero_iff.1 hln;subst this;exact⟨none,0,h1,⟨rfl,Nat.le_refl _,by unfold maxLen;omega,oM,λk x hx=>by simp at hx,λ_=>rfl⟩⟩
 .refine⟨some ⟨g,0,none⟩,cap,hv,⟨hln,hc,hm,oM,λk x hx=>?_,λh=>by cases h⟩⟩;obtain⟨ka,kl,kc,c0,g1,g2,g3⟩:=h.2 k x hx;have e:∀j,(⟨g,0,none⟩:Addr).add j=⟨g,0+j,none⟩:=λj=>Addr.add_mid g 0 j;have hlt:=(Array.getElem?_eq_some_iff.1 hh).1;have r:∀j u,(Value.slice ka kl kc::fO x)[j]? =some u->W.cell? ⟨g,0+k*8+j,none⟩=some u:=λj u hu=>by
   have:=ho.cells (g:=g) (by rw[hv];rfl) (k*8+j) u (c0 j u hu);rw[e]at this;rw[Nat.add_assoc];exact this
  exact⟨g,0,ka,kl,kc,rfl,hlt, .inr hg,r 0 _ rfl,r 1 _ rfl,r 2 _ rfl,r 3 _ rfl,r 4 _ rfl,r 5 _ rfl,r 6 _ rfl,r 7 _ rfl,g1.mono λb hb=> .inl hb,g2,g3⟩
theorem RJ(s:bJ):eY (o8 s).at_:=by
 have:=jk _ (gY s.skip 4);have h2:(o8 s).at_=((s.skip.num 4:Nat):Int):=rfl;have h3:s.skip.num 4<4294967296:=this;unfold eY;rw[h2];omega
theorem o9(n:Int):I64 (wrap64 n):=by unfold I64;rw[dQ];omega
theorem MQ(s:bJ):(o8 s).red.fits:=by
 have h1:(k2 s).num 4<4294967296:=jk _ (gY (k2 s) 4);have h2:(k3 s).num 4<4294967296:=jk _ (gY (k3 s) 4);refine⟨?_,?_,o9 _,o9 _⟩
 .show I64 ((k2 s).num 4:Nat);unfold I64;omega
 .show I64 ((k3 s).num 4:Nat);unfold I64;omega
theorem RN(s:bJ):hi (o8 s).red.s=wrap64 ((k4 s).num 8:Nat):=by
 have h1:(k5 s).num 8<18446744073709551616:=xB _ (gY (k5 s) 8);exact Ov (o9 _) oM oM
theorem RP(s:bJ):lo (o8 s).red.s=((k5 s).num 8:Nat):=by
 have h1:(k5 s).num 8<18446744073709551616:=xB _ (gY (k5 s) 8);exact Ox oM oM
end Go.Dav
namespace Go.Proofs.YtenmnhnlcnmloaaGreat
open Go.RowKit Go.Dav
attribute [local go_sem] Gives nY ite_val ay
theorem jm:(Tryz.prog.info? 60).map (λi=>(i.zero,i.size,i.bytes))=some (some (.agg #[.slice none 0 0, .slice none 0 0, .bool false, .int .i64 0]),4,64):=kR
def oJ(S:Nat->Prop)(pR pO:Nat)(w:World)(R:List aP×bJ×Bool)(e:Ending)(w':World):Prop:=
 ∃a n c,e= .returned (.tuple #[.slice a n c, .bool R.2.2])/\aY w' (λb=>S b\/w.heap.size<=b) a n c R.1/\tX 22 4 w' S pR pO R.2.1/\aA (kZ pR pO) w w'
def MR(S:Nat->Prop)(pR pO:Nat)(w:World)(many:Nat)(R:List aP×bJ×Bool)(k:Nat)(vx:Value)(wr:World):Prop:=
 ∃acc s cs,Jg (many-k) acc s=R/\wr.ownsRow w.heap.size 60 4 vx k cs/\aS wr S cs acc/\tX 22 4 wr S pR pO s/\aA (kZ pR pO) w wr
theorem GV(args:Array Value)(W:World):(callFunc 105 args).run Tryz.prog W= .ok (.enter 105 args) W:=kR
theorem yB(S:Nat->Prop)(pT pN pR pO many:Nat)(s:bJ)(w:World)(hst:tX 22 4 w S pR pO s)(hT:Blk w pT [fG pR pO] 184)(hN:Blk w pN [dL pT] 185)(ha:jd S pT pN pR pO)(hS:∀b,S b->b<w.heap.size)(hm:many<=7):
  Calls Tryz.prog 104 #[.int .i64 (many:Int), .func (.func 105) #[] #[.pointer (some ⟨pT,0,none⟩), .pointer (some ⟨pN,0,none⟩), .pointer (some ⟨pO,0,none⟩)]] w (oJ S pR pO w (Jg many [] s)):=by
 have hen:=λargs W=>GV args W;have hm':(many:Int)<=7:=oM;obtain⟨R,hR⟩:∃R,Jg many [] s=R:=⟨_,rfl⟩;rw[hR];have HR:=Hd hR;have HST:=Hd hst;have HT:=Hd hT;have HN:=Hd hN;have HA:=Hd ha;have HS:=Hd hS;have LT:=Hd (And.intro hT.lt (And.intro hN.lt (And.intro hst.hR.lt hst.hO.lt)));obtain⟨i0,hi0,hz0,hz1,hz2⟩:=info_parts jm;have HI:=Hd (And.intro hi0 (And.intro hz0 (And.intro hz1 hz2)));clear hR hst hT hN ha hS hi0 hz0 hz1 hz2;go_enter Tryz.func104,Tryz.ntmps104;go_wp2_with fail;go_step3;go_wp2_with fail;go_step3;go_wp2_with fail;go_loopg [8,4,5] many (λg ix vx ok wr=>∃k:Nat,k<=many/\g=many-k/\ix= .int .i64 k/\ok= .bool true/\MR S pR pO w many R k vx wr)
 case atStart=>exact⟨0,Nat.zero_le _,rfl,rfl,rfl,[],s,[],HR.o,World.ownsRow_nil _ _ _ _,aS.nil,HST.o,aA.refl _ _⟩
 case round=>
  obtain⟨k,hk,rfl,rfl,rfl,acc,s,cs,vZ,hown,hcells,hst,hon⟩:=hrel;have uV:=Hd vZ;have HO:=Hd hown;have HC:=Hd hcells;have HSA:=Hd hst;have HON:=Hd hon;have hsz:=hon.size;clear vZ hown hcells hst hon;by_cases hkm:k<many
  .have aa0:(k:Int)<(many:Int):=oM;have hbx:Below wr.heap.size wr (wr.alloc (.cells #[.slice none 0 0, .slice none 0 0, .bool false, .int .i64 0] 60)):=(Below.refl _ _).alloc (Nat.le_refl _) _;have hrd:=JB S pT pN pR pO s (wr.alloc (.cells #[.slice none 0 0, .slice none 0 0, .bool false, .int .i64 0] 60)) (HSA.o.ext hbx) ((HT.o.aQ HON.o HA.o.t).ext hbx) ((HN.o.aQ HON.o HA.o.n).ext hbx) HA.o (λb h=>by have:=HS.o b h;simp;omega);unfold Dq gU at hrd;have hB1:=GU HSA.o;have hB2:au wr S ((s.skip.next 1).outA (s.skip.num 1)) ((s.skip.next 1).yx (s.skip.num 1)) ((s.skip.next 1).yx (s.skip.num 1)) s.skip.cnt:=MP (xG (xG (xG HSA.o.hB 1) (s.num 1)) 1) (s.skip.num 1);obtain⟨ka,hka⟩:∃x,(s.next 1).outA (s.num 1)=x:=⟨_,rfl⟩;obtain⟨kn,hkn⟩:∃x,(s.next 1).yx (s.num 1)=x:=⟨_,rfl⟩;obtain⟨va,hva⟩:∃x,(s.skip.next 1).outA (s.skip.num 1)=x:=⟨_,rfl⟩;obtain⟨vn,hvn⟩:∃x,(s.skip.next 1).yx (s.skip.num 1)=x:=⟨_,rfl⟩;rw[hka,hkn,hva,hvn]at hrd;rw[hka,hkn]at hB1;rw[hva,hvn]at hB2;have HRD:=Hd hrd;have HB1:=Hd (show au wr S ka kn kn (lM s).key from hB1);have HB2:=Hd (show au wr S va vn vn (lM s).value from hB2);have HKM:=Hd hkm;have Pv:=Blk.new wr [.slice none 0 0, .slice none 0 0, .bool false, .int .i64 0] 60;have HPN:=Hd Pv;have hP:¬kZ pR pO wr.heap.size:=by have:=LT.o;unfold kZ;omega
   have HPP:=Hd hP;have HBX:=Hd hbx;clear hrd hB1 hB2 hka hkn hva hvn hkm Pv hP hbx hk;go_wp2_with fail;(with_reducible refine HRD.o.mono ?_);rintro e W2 ⟨rfl,hst2,ho2⟩
   have Ez:=Hd hst2;have HO2:=Hd ho2;have hx2:=HPN.o.aQ ho2 HPP.o;have HX2:=Hd hx2;have c2:=hx2.cells;have m2:=hx2.marks;have l2:=hx2.lt;obtain⟨bq,hbq⟩:∃b,(lM s).int=b:=⟨_,rfl⟩;obtain⟨nn,hnn⟩:∃b,(lM s).n=b:=⟨_,rfl⟩;obtain⟨okk,hok⟩:∃b,(jy s).ok=b:=⟨_,rfl⟩;rw[hbq,hnn,hok];have HBQ:=Hd hbq;have HNN:=Hd hnn;have HOK:=Hd hok;obtain⟨W3,hW3⟩:∃W3,(((W2.setCell ⟨wr.heap.size,0,none⟩ (.slice ka kn kn)).setCell ⟨wr.heap.size,1,none⟩ (.slice va vn vn)).setCell ⟨wr.heap.size,2,none⟩ (.bool bq)).setCell ⟨wr.heap.size,3,none⟩ (.int .i64 nn)=W3:=⟨_,rfl⟩;have hx3:Blk W3 wr.heap.size [.slice ka kn kn, .slice va vn vn, .bool bq, .int .i64 nn] 60:=by rw[<- hW3];exact(((hx2.set 0 _).set 1 _).set 2 _).set 3 _
   have ho3:aA (λb=>b=wr.heap.size) W2 W3:=by rw[<- hW3];exact(((((aA.refl (λb=>b=wr.heap.size) W2).set wr.heap.size 0 _ rfl).set wr.heap.size 1 _ rfl).set wr.heap.size 2 _ rfl).set wr.heap.size 3 _ rfl)
   have HX3:=Hd hx3;have HO3:=Hd ho3;have MS:=Hd (show aA (kZ pR pO) w W3 from⟨ho3.os.trans (HO2.o.os.trans (HBX.o.os.trans HON.o.os)),ho3.tape.trans (HO2.o.tape.trans (HBX.o.tape.trans HON.o.tape)),ho3.output.trans (HO2.o.output.trans (HBX.o.output.trans HON.o.output)),by have:=ho3.size;have:=HO2.o.size;have:=HBX.o.size;omega,λj hj hn=>(ho3.block j (by have:=HO2.o.size;have:=HBX.o.size;omega) oM).trans ((HO2.o.block j (by have:=HBX.o.size;omega) hn).trans ((HBX.o.block j oM).trans (HON.o.block j hj hn)))⟩);have lts:=LT.o;have hs3:wr.heap.size+1<=W3.heap.size:=by have:=hx3.lt;omega
   have Wq:=Hd (Ez.o.Pq ho3 oM oM (λb h=>by have:=HS.o b h;omega));have hkeep:∀b,b<wr.heap.size->¬kZ pR pO b->W3.heap[b]? =wr.heap[b]?:=λb h1 h2=>(ho3.block b (by have:=HO2.o.size;have:=HBX.o.size;omega) oM).trans ((HO2.o.block b (by have:=HBX.o.size;omega) h2).trans (HBX.o.block b h1));have Ws:=Hd (yA HO.o λg hg=>hkeep g (HO.o.lt g hg).2 (by have:=(HO.o.lt g hg).1;unfold kZ;omega));have HC3:=Hd (HC.o.same (W':=W3) oM λb h1 h2=>hkeep b h2 (HA.o.hS b h1));have HK1:=Hd (HB1.o.same (W':=W3) oM λb h1 h2=>hkeep b h2 (HA.o.hS b h1));have HK2:=Hd (HB2.o.same (W':=W3) oM λb h1 h2=>hkeep b h2 (HA.o.hS b h1));have HL3:=Hd hs3;clear hst2 ho2 hx2 hbq hnn hok hx3 ho3 lts hkeep;cases okk with
   |false=>
    have HRR:=Hd (show R=(acc,jy s,false) by
     have h:=uV.o;rw[show many-k=(many-(k+1))+1 by have:=HKM.o;omega]at h;unfold Jg at h;rw[HOK.o,if_neg Bool.false_ne_true]at h;exact h.symm)
    obtain⟨ra,rc,rfl,hIS⟩:=HC3.o.shut Ws.o (by have:=HKM.o;omega);have HIS:=Hd hIS;clear hIS;go_wp2;rw[Exit.noGoto_ret];go_ret2
    exact⟨ra,k,rc,by rw[HRR.o];rfl,by rw[HRR.o];exact HIS.o,by rw[HRR.o];exact Wq.o,MS.o⟩
   |true=>
    have c3:=HX3.o.cells;have l3:=HX3.o.lt;obtain⟨hi0,hz0,hz1,hz2⟩:=HI.o;have HO4:=Hd (Ws.o.alloc (.cells #[.slice ka kn kn, .slice va vn vn, .bool bq, .int .i64 nn] 60));have HSR:=Hd ((eG (n:=1) (size:=4) (base:=W3.heap.size) (xs:=[.slice ka kn kn, .slice va vn vn, .bool bq, .int .i64 nn]) (Blk.new W3 [_,_,_,_] 60) (Nat.le_refl _) rfl (by unfold maxLen;omega)).cells (g:=W3.heap.size) rfl);have hcl:=HC.o.1;go_wp2_with (at_builtin;refine wpList_append_own _ rfl (.tmp 17) (.tmp 19) 23 rfl w.heap.size 60 i0 _ 4 64 Tryz.underlying23 hi0 hz0 hz1 hz2 rfl dC _ k cs rfl HO4.o ⟨W3.heap.size,0,none⟩ 1 1 [.slice ka kn kn, .slice va vn vn, .bool bq, .int .i64 nn] rfl rfl HSR.o (by intro u hu;simp at hu;rcases hu with rfl|rfl|rfl|rfl<;>rfl) (by unfold maxLen;omega) oM (by simp;omega) ?_;intro v' w6 hown6 hgrow _)
    have Ae:=Hd (show Jg (many-(k+1)) (acc++[lM s]) (jy s)=R by
     have h:=uV.o;rw[show many-k=(many-(k+1))+1 by have:=HKM.o;omega]at h;unfold Jg at h;rw[HOK.o,if_pos rfl]at h;exact h)
    have hbel:Below w.heap.size W3 w6:=((Below.refl w.heap.size W3).alloc oM (.cells #[.slice ka kn kn, .slice va vn vn, .bool bq, .int .i64 nn] 60)).grown hgrow (by simp;omega) (λk hk=>(HO4.o.lt k hk).1);have lts:=LT.o;have Yh:=Hd (Wq.o.below hbel lts.2.2.1 lts.2.2.2 HS.o);have Wu:aS w6 S (cs++[.slice ka kn kn, .slice va vn vn, .bool bq, .int .i64 nn]) (acc++[lM s]):=by
     have h1:=HC3.o.same (W':=w6) hbel.size λb h1 h2=>hbel.block b (HS.o b h1);have h2:=HK1.o.same (W':=w6) hbel.size λb h1 h2=>hbel.block b (HS.o b h1);have h3:=HK2.o.same (W':=w6) hbel.size λb h1 h2=>hbel.block b (HS.o b h1);rw[<- HBQ.o,<- HNN.o];exact h1.snoc h2 h3 (RI s)
    have HC6:=Hd Wu;have Yi:=Hd (show aA (kZ pR pO) w w6 from⟨hbel.os.trans MS.o.os,hbel.tape.trans MS.o.tape,hbel.output.trans MS.o.output,Nat.le_trans MS.o.size hbel.size,λj hj hn=>(hbel.block j hj).trans (MS.o.block j hj hn)⟩);have HO6:=Hd hown6;clear hown6 hgrow Wu hbel lts hcl hi0 hz0 hz1 hz2 c2 m2 l2 c3 l3;go_roundg (many-(k+1))
    case measure=>have:=HKM.o;omega
    case rel=>exact⟨k+1,HKM.o,rfl,by go_num,rfl,acc++[lM s],jy s,_,Ae.o,HO6.o,HC6.o,Yh.o,Yi.o⟩
  .obtain rfl:k=many:=oM;have hk3:¬(k:Int)<(k:Int):=oM;have HRR:=Hd (show R=(acc,s,true) by
    have h:=uV.o;rw[Nat.sub_self]at h;exact h.symm)
   obtain⟨ra,rc,rfl,hIS⟩:=HC.o.shut HO.o oM;have HIS:=Hd hIS;clear hIS hkm;go_wp2;go_ret2
   exact⟨ra,k,rc,by rw[HRR.o];rfl,by rw[HRR.o];exact HIS.o,by rw[HRR.o];exact HSA.o,HON.o⟩
theorem lN:(Tryz.prog.info? 128).map (λi=>(i.zero,i.size,i.bytes))=some (some (.agg #[.slice none 0 0, .int .i64 0, .int .i64 0, .int .i64 0, .int .i64 0, .int .u64 0, .int .i64 0, .int .i64 0]),8,80):=kR
def qC(S:Nat->Prop)(pR pO:Nat)(w:World)(R:List dS×bJ×Bool)(e:Ending)(w':World):Prop:=
 ∃a n c,e= .returned (.tuple #[.slice a n c, .bool R.2.2])/\dZ w' (λb=>S b\/w.heap.size<=b) a n c R.1/\tX 22 4 w' S pR pO R.2.1/\aA (kZ pR pO) w w'
def JD(S:Nat->Prop)(pR pO:Nat)(w:World)(many:Nat)(R:List dS×bJ×Bool)(k:Nat)(vx:Value)(wr:World):Prop:=
 ∃acc s cs,Jh (many-k) acc s=R/\wr.ownsRow w.heap.size 128 8 vx k cs/\bF wr S cs acc/\tX 22 4 wr S pR pO s/\aA (kZ pR pO) w wr
theorem JE(args:Array Value)(W:World):(callFunc 107 args).run Tryz.prog W= .ok (.enter 107 args) W:=kR
theorem Af(S:Nat->Prop)(pT pN pR pO many:Nat)(s:bJ)(w:World)(hst:tX 22 4 w S pR pO s)(hT:Blk w pT [fG pR pO] 184)(hN:Blk w pN [dL pT] 185)(ha:jd S pT pN pR pO)(hS:∀b,S b->b<w.heap.size)(hm:many<=7):
  Calls Tryz.prog 106 #[.int .i64 (many:Int), .func (.func 107) #[] #[.pointer (some ⟨pT,0,none⟩), .pointer (some ⟨pN,0,none⟩), .pointer (some ⟨pO,0,none⟩)]] w (qC S pR pO w (Jh many [] s)):=by
 have hen:=λargs W=>JE args W;have hm':(many:Int)<=7:=oM;obtain⟨R,hR⟩:∃R,Jh many [] s=R:=⟨_,rfl⟩;rw[hR];have HR:=Hd hR;have HST:=Hd hst;have HT:=Hd hT;have HN:=Hd hN;have HA:=Hd ha;have HS:=Hd hS;have LT:=Hd (And.intro hT.lt (And.intro hN.lt (And.intro hst.hR.lt hst.hO.lt)));obtain⟨i0,hi0,hz0,hz1,hz2⟩:=info_parts lN;have HI:=Hd (And.intro hi0 (And.intro hz0 (And.intro hz1 hz2)));clear hR hst hT hN ha hS hi0 hz0 hz1 hz2;go_enter Tryz.func106,Tryz.ntmps106;go_wp2_with fail;go_step3;go_wp2_with fail;go_step3;go_wp2_with fail;go_loopg [8,4,5] many (λg ix vx ok wr=>∃k:Nat,k<=many/\g=many-k/\ix= .int .i64 k/\ok= .bool true/\JD S pR pO w many R k vx wr)
 case atStart=>exact⟨0,Nat.zero_le _,rfl,rfl,rfl,[],s,[],HR.o,World.ownsRow_nil _ _ _ _,bF.nil,HST.o,aA.refl _ _⟩
 case round=>
  obtain⟨k,hk,rfl,rfl,rfl,acc,s,cs,vZ,hown,hcells,hst,hon⟩:=hrel;have uV:=Hd vZ;have HO:=Hd hown;have HC:=Hd hcells;have HSA:=Hd hst;have HON:=Hd hon;have hsz:=hon.size;clear vZ hown hcells hst hon;by_cases hkm:k<many
  .have aa0:(k:Int)<(many:Int):=oM;have hbx:Below wr.heap.size wr (wr.alloc (.cells #[.slice none 0 0, .int .i64 0, .int .i64 0, .int .i64 0, .int .i64 0, .int .u64 0, .int .i64 0, .int .i64 0] 128)):=(Below.refl _ _).alloc (Nat.le_refl _) _;have hrd:=MN S pT pN pR pO s (wr.alloc (.cells #[.slice none 0 0, .int .i64 0, .int .i64 0, .int .i64 0, .int .i64 0, .int .u64 0, .int .i64 0, .int .i64 0] 128)) (HSA.o.ext hbx) ((HT.o.aQ HON.o HA.o.t).ext hbx) ((HN.o.aQ HON.o HA.o.n).ext hbx) HA.o (λb h=>by have:=HS.o b h;simp;omega);unfold GL gU at hrd;have hB1:=GU HSA.o;obtain⟨ka,hka⟩:∃x,(s.next 1).outA (s.num 1)=x:=⟨_,rfl⟩;obtain⟨kn,hkn⟩:∃x,(s.next 1).yx (s.num 1)=x:=⟨_,rfl⟩;rw[hka,hkn]at hrd hB1;obtain⟨x1,hx1⟩:∃x,(o8 s).at_=x:=⟨_,rfl⟩;obtain⟨x2,hx2⟩:∃x,(o8 s).red.c=x:=⟨_,rfl⟩;obtain⟨x3,hx3⟩:∃x,(o8 s).red.n=x:=⟨_,rfl⟩;obtain⟨x4,hx4⟩:∃x,hi (o8 s).red.s=x:=⟨_,rfl⟩;obtain⟨x5,hx5⟩:∃x,lo (o8 s).red.s=x:=⟨_,rfl⟩;obtain⟨x6,hx6⟩:∃x,(o8 s).red.l=x:=⟨_,rfl⟩;obtain⟨x7,hx7⟩:∃x,(o8 s).red.m=x:=⟨_,rfl⟩;rw[show((s.skip.num 4:Nat):Int)=x1 from hx1,show(((k2 s).num 4:Nat):Int)=x2 from hx2,show(((k3 s).num 4:Nat):Int)=x3 from hx3,show wrap64 ((k4 s).num 8:Nat)=x4 by rw[<- hx4,RN],show(((k5 s).num 8:Nat):Int)=x5 by rw[<- hx5,RP],show wrap64 ((k6 s).num 8:Nat)=x6 from hx6,show wrap64 ((k7 s).num 8:Nat)=x7 from hx7]at hrd;have Yj:=Hd (show fO (o8 s)=[.int .i64 x1, .int .i64 x2, .int .i64 x3, .int .i64 x4, .int .u64 x5, .int .i64 x6, .int .i64 x7] by unfold fO;rw[hx1,hx2,hx3,hx4,hx5,hx6,hx7]);have HRD:=Hd hrd;have HB1:=Hd (show au wr S ka kn kn (o8 s).key from hB1);have HKM:=Hd hkm;have Pv:=Blk.new wr [.slice none 0 0, .int .i64 0, .int .i64 0, .int .i64 0, .int .i64 0, .int .u64 0, .int .i64 0, .int .i64 0] 128;have HPN:=Hd Pv;have hP:¬kZ pR pO wr.heap.size:=by have:=LT.o;unfold kZ;omega
   have HPP:=Hd hP;have HBX:=Hd hbx;clear hrd hB1 hka hkn hkm hx1 hx2 hx3 hx4 hx5 hx6 hx7 Pv hP hbx hk;go_wp2_with fail;(with_reducible refine HRD.o.mono ?_);rintro e W2 ⟨rfl,hst2,ho2⟩
   have Ez:=Hd hst2;have HO2:=Hd ho2;have hx2:=HPN.o.aQ ho2 HPP.o;have HX2:=Hd hx2;have c2:=hx2.cells;have m2:=hx2.marks;have l2:=hx2.lt;obtain⟨okk,hok⟩:∃b,(jr s).ok=b:=⟨_,rfl⟩;rw[hok];have HOK:=Hd hok;obtain⟨W3,hW3⟩:∃W3,((((((((W2.setCell ⟨wr.heap.size,0,none⟩ (.slice ka kn kn)).setCell ⟨wr.heap.size,1,none⟩ (.int .i64 x1)).setCell ⟨wr.heap.size,2,none⟩ (.int .i64 x2)).setCell ⟨wr.heap.size,3,none⟩ (.int .i64 x3)).setCell ⟨wr.heap.size,4,none⟩ (.int .i64 x4)).setCell ⟨wr.heap.size,5,none⟩ (.int .u64 x5)).setCell ⟨wr.heap.size,6,none⟩ (.int .i64 x6)).setCell ⟨wr.heap.size,7,none⟩ (.int .i64 x7))=W3:=⟨_,rfl⟩;have hx3:Blk W3 wr.heap.size [.slice ka kn kn, .int .i64 x1, .int .i64 x2, .int .i64 x3, .int .i64 x4, .int .u64 x5, .int .i64 x6, .int .i64 x7] 128:=by rw[<- hW3];exact((((((((hx2.set 0 _).set 1 _).set 2 _).set 3 _).set 4 _).set 5 _).set 6 _).set 7 _)
   have ho3:aA (λb=>b=wr.heap.size) W2 W3:=by rw[<- hW3];exact(((((((((aA.refl (λb=>b=wr.heap.size) W2).set wr.heap.size 0 _ rfl).set wr.heap.size 1 _ rfl).set wr.heap.size 2 _ rfl).set wr.heap.size 3 _ rfl).set wr.heap.size 4 _ rfl).set wr.heap.size 5 _ rfl).set wr.heap.size 6 _ rfl).set wr.heap.size 7 _ rfl)
   have HX3:=Hd hx3;have HO3:=Hd ho3;have MS:=Hd (show aA (kZ pR pO) w W3 from⟨ho3.os.trans (HO2.o.os.trans (HBX.o.os.trans HON.o.os)),ho3.tape.trans (HO2.o.tape.trans (HBX.o.tape.trans HON.o.tape)),ho3.output.trans (HO2.o.output.trans (HBX.o.output.trans HON.o.output)),by have:=ho3.size;have:=HO2.o.size;have:=HBX.o.size;omega,λj hj hn=>(ho3.block j (by have:=HO2.o.size;have:=HBX.o.size;omega) oM).trans ((HO2.o.block j (by have:=HBX.o.size;omega) hn).trans ((HBX.o.block j oM).trans (HON.o.block j hj hn)))⟩);have lts:=LT.o;have hs3:wr.heap.size+1<=W3.heap.size:=by have:=hx3.lt;omega
   have Wq:=Hd (Ez.o.Pq ho3 oM oM (λb h=>by have:=HS.o b h;omega));have hkeep:∀b,b<wr.heap.size->¬kZ pR pO b->W3.heap[b]? =wr.heap[b]?:=λb h1 h2=>(ho3.block b (by have:=HO2.o.size;have:=HBX.o.size;omega) oM).trans ((HO2.o.block b (by have:=HBX.o.size;omega) h2).trans (HBX.o.block b h1));have Ws:=Hd (yA HO.o λg hg=>hkeep g (HO.o.lt g hg).2 (by have:=(HO.o.lt g hg).1;unfold kZ;omega));have HC3:=Hd (HC.o.same (W':=W3) oM λb h1 h2=>hkeep b h2 (HA.o.hS b h1));have HK1:=Hd (HB1.o.same (W':=W3) oM λb h1 h2=>hkeep b h2 (HA.o.hS b h1));have HL3:=Hd hs3;clear hst2 ho2 hx2 hok hx3 ho3 lts hkeep;cases okk with
   |false=>
    have HRR:=Hd (show R=(acc,jr s,false) by
     have h:=uV.o;rw[show many-k=(many-(k+1))+1 by have:=HKM.o;omega]at h;unfold Jh at h;rw[HOK.o,if_neg Bool.false_ne_true]at h;exact h.symm)
    obtain⟨ra,rc,rfl,hIS⟩:=HC3.o.shut Ws.o (by have:=HKM.o;omega);have HIS:=Hd hIS;clear hIS;go_wp2;rw[Exit.noGoto_ret];go_ret2
    exact⟨ra,k,rc,by rw[HRR.o];rfl,by rw[HRR.o];exact HIS.o,by rw[HRR.o];exact Wq.o,MS.o⟩
   |true=>
    have c3:=HX3.o.cells;have l3:=HX3.o.lt;obtain⟨hi0,hz0,hz1,hz2⟩:=HI.o;have HO4:=Hd (Ws.o.alloc (.cells #[.slice ka kn kn, .int .i64 x1, .int .i64 x2, .int .i64 x3, .int .i64 x4, .int .u64 x5, .int .i64 x6, .int .i64 x7] 128));have HSR:=Hd ((eG (n:=1) (size:=8) (base:=W3.heap.size) (xs:=[.slice ka kn kn, .int .i64 x1, .int .i64 x2, .int .i64 x3, .int .i64 x4, .int .u64 x5, .int .i64 x6, .int .i64 x7]) (Blk.new W3 [_,_,_,_,_,_,_,_] 128) (Nat.le_refl _) rfl (by unfold maxLen;omega)).cells (g:=W3.heap.size) rfl);have hcl:=HC.o.1;go_wp2_with (at_builtin;refine wpList_append_own _ rfl (.tmp 17) (.tmp 19) 65 rfl w.heap.size 128 i0 _ 8 80 Tryz.underlying65 hi0 hz0 hz1 hz2 rfl dC _ k cs rfl HO4.o ⟨W3.heap.size,0,none⟩ 1 1 [.slice ka kn kn, .int .i64 x1, .int .i64 x2, .int .i64 x3, .int .i64 x4, .int .u64 x5, .int .i64 x6, .int .i64 x7] rfl rfl HSR.o (by intro u hu;simp at hu;rcases hu with rfl|rfl|rfl|rfl|rfl|rfl|rfl|rfl<;>rfl) (by unfold maxLen;omega) oM (by simp;omega) ?_;intro v' w6 hown6 hgrow _)
    have Ae:=Hd (show Jh (many-(k+1)) (acc++[o8 s]) (jr s)=R by
     have h:=uV.o;rw[show many-k=(many-(k+1))+1 by have:=HKM.o;omega]at h;unfold Jh at h;rw[HOK.o,if_pos rfl]at h;exact h)
    have hbel:Below w.heap.size W3 w6:=((Below.refl w.heap.size W3).alloc oM (.cells #[.slice ka kn kn, .int .i64 x1, .int .i64 x2, .int .i64 x3, .int .i64 x4, .int .u64 x5, .int .i64 x6, .int .i64 x7] 128)).grown hgrow (by simp;omega) (λk hk=>(HO4.o.lt k hk).1);have lts:=LT.o;have Yh:=Hd (Wq.o.below hbel lts.2.2.1 lts.2.2.2 HS.o);have Wu:bF w6 S (cs++[.slice ka kn kn, .int .i64 x1, .int .i64 x2, .int .i64 x3, .int .i64 x4, .int .u64 x5, .int .i64 x6, .int .i64 x7]) (acc++[o8 s]):=by
     have h1:=HC3.o.same (W':=w6) hbel.size λb h1 h2=>hbel.block b (HS.o b h1);have h2:=HK1.o.same (W':=w6) hbel.size λb h1 h2=>hbel.block b (HS.o b h1);rw[<- Yj.o];exact h1.snoc h2 (RJ s) (MQ s)
    have HC6:=Hd Wu;have Yi:=Hd (show aA (kZ pR pO) w w6 from⟨hbel.os.trans MS.o.os,hbel.tape.trans MS.o.tape,hbel.output.trans MS.o.output,Nat.le_trans MS.o.size hbel.size,λj hj hn=>(hbel.block j hj).trans (MS.o.block j hj hn)⟩);have HO6:=Hd hown6;clear hown6 hgrow Wu hbel lts hcl hi0 hz0 hz1 hz2 c2 m2 l2 c3 l3;go_roundg (many-(k+1))
    case measure=>have:=HKM.o;omega
    case rel=>exact⟨k+1,HKM.o,rfl,by go_num,rfl,acc++[o8 s],jr s,_,Ae.o,HO6.o,HC6.o,Yh.o,Yi.o⟩
  .obtain rfl:k=many:=oM;have hk3:¬(k:Int)<(k:Int):=oM;have HRR:=Hd (show R=(acc,s,true) by
    have h:=uV.o;rw[Nat.sub_self]at h;exact h.symm)
   obtain⟨ra,rc,rfl,hIS⟩:=HC.o.shut HO.o oM;have HIS:=Hd hIS;clear hIS hkm;go_wp2;go_ret2
   exact⟨ra,k,rc,by rw[HRR.o];rfl,by rw[HRR.o];exact HIS.o,by rw[HRR.o];exact HSA.o,HON.o⟩
end Go.Proofs.YtenmnhnlcnmloaaGreat
