/- Part of a proof of a law of the layer of trees. -/
import Derived.Test.YtenmnhnlcnmloaaGreatQa15
import Derived.Test.YtenmnhnlcnmloaaGreatQa01
set_option linter.unusedVariables false
set_option linter.unusedSimpArgs false
set_option maxHeartbeats 8000000
set_option maxRecDepth 8000
namespace Go.Dav
open Go Go.RowKit
def GX(s:bJ):aT×Bool:=
 if s.num 1=1 then(⟨true,(Jg (min ((s.next 1).num 1) 7) [] ((s.next 1).next 1)).1,[]⟩,(Jg (min ((s.next 1).num 1) 7) [] ((s.next 1).next 1)).2.2)
 else(⟨false,[],(Jh (min ((s.next 1).num 1) 7) [] ((s.next 1).next 1)).1⟩,(Jh (min ((s.next 1).num 1) 7) [] ((s.next 1).next 1)).2.2)
def iQ(s:bJ):Bool:=(GX s).2&&(bI (GX s).1&&decide (aJ (GX s).1=s.l))
def Wv:aT:=⟨false,[],[]⟩
def qY(s:bJ):aT:=if iQ s then(GX s).1 else Wv
def Ce(s:bJ):Int:=if iQ s then 0 else 240
theorem aY.s{W:World}{S:Nat->Prop}{a:Option Addr}{n c:Nat}{l:List aP}(h:aY W S a n c l):aY W (λb=>b<W.heap.size) a n c l:=
 ⟨h.hlen,h.hcap,h.hmax,h.hfew,λk x hk=>by
  obtain⟨b,o,ka,kl,kc,va,vl,vc,h1,h2,h3,c0,c1,c2,c3,h4,h5,h6⟩:=h.hat k x hk;exact⟨b,o,ka,kl,kc,va,vl,vc,h1,h2,h2,c0,c1,c2,c3,h4.at_.s,h5.at_.s,h6⟩,h.hnil⟩
theorem dZ.s{W:World}{S:Nat->Prop}{a:Option Addr}{n c:Nat}{l:List dS}(h:dZ W S a n c l):dZ W (λb=>b<W.heap.size) a n c l:=
 ⟨h.hlen,h.hcap,h.hmax,h.hfew,λk x hk=>by
  obtain⟨b,o,ka,kl,kc,h1,h2,h3,c0,c1,c2,c3,c4,c5,c6,c7,h4,h5,h6⟩:=h.hat k x hk;exact⟨b,o,ka,kl,kc,h1,h2,h2,c0,c1,c2,c3,c4,c5,c6,c7,h4.at_.s,h5,h6⟩,h.hnil⟩
theorem aY.nil_{W:World}{S:Nat->Prop}:aY W S none 0 0 []:=⟨rfl,Nat.le_refl _,by unfold maxLen;omega,oM,λk x hx=>by simp at hx,λ_=>rfl⟩
theorem dZ.nil_{W:World}{S:Nat->Prop}:dZ W S none 0 0 []:=⟨rfl,Nat.le_refl _,by unfold maxLen;omega,oM,λk x hx=>by simp at hx,λ_=>rfl⟩
theorem aY.mono{W:World}{S T:Nat->Prop}{a:Option Addr}{n c:Nat}{l:List aP}(h:aY W S a n c l)(hst:∀b,S b->T b):aY W T a n c l:=
 ⟨h.hlen,h.hcap,h.hmax,h.hfew,λk x hk=>by
  obtain⟨b,o,ka,kl,kc,va,vl,vc,h1,h2,h3,c0,c1,c2,c3,h4,h5,h6⟩:=h.hat k x hk;exact⟨b,o,ka,kl,kc,va,vl,vc,h1,h2,hst b h3,c0,c1,c2,c3,h4.mono hst,h5.mono hst,h6⟩,h.hnil⟩
theorem dZ.mono{W:World}{S T:Nat->Prop}{a:Option Addr}{n c:Nat}{l:List dS}(h:dZ W S a n c l)(hst:∀b,S b->T b):dZ W T a n c l:=
 ⟨h.hlen,h.hcap,h.hmax,h.hfew,λk x hk=>by
  obtain⟨b,o,ka,kl,kc,h1,h2,h3,c0,c1,c2,c3,c4,c5,c6,c7,h4,h5,h6⟩:=h.hat k x hk;exact⟨b,o,ka,kl,kc,h1,h2,hst b h3,c0,c1,c2,c3,c4,c5,c6,c7,h4.mono hst,h5,h6⟩,h.hnil⟩
theorem bM.s{W:World}{S:Nat->Prop}{ia ka:Option Addr}{il ic kl kc:Nat}{n:aT}(h:bM W S ia il ic ka kl kc n):bM W (λb=>b<W.heap.size) ia il ic ka kl kc n:=⟨h.items.s,h.kids.s⟩
theorem bM.mono{W:World}{S T:Nat->Prop}{ia ka:Option Addr}{il ic kl kc:Nat}{n:aT}(h:bM W S ia il ic ka kl kc n)(hst:∀b,S b->T b):bM W T ia il ic ka kl kc n:=⟨h.items.mono hst,h.kids.mono hst⟩
def Px(w:World)(S:Nat->Prop)(N:aT)(err:Int)(e:Ending)(w':World):Prop:=
 ∃ia il ic ka kl kc,e= .returned (.tuple #[.agg #[.bool N.leaf, .slice ia il ic, .slice ka kl kc], .int .i64 err])/\bM w' (λb=>S b\/w.heap.size<=b) ia il ic ka kl kc N/\Below w.heap.size w w'
end Go.Dav
namespace Go.Proofs.YtenmnhnlcnmloaaGreat
open Go.RowKit Go.Dav
attribute [local go_sem] Gives nY ite_val ay
theorem JF(S:Nat->Prop)(a:Option Addr)(n c:Nat)(l:List UInt8)(w:World)(hB:au w S a n c l)(hf:iH a)(hS:∀b,S b->b<w.heap.size):
  Calls Tryz.prog 60 #[.slice a n c] w (Px w S (qY ⟨a,n,c,l,true⟩) (Ce ⟨a,n,c,l,true⟩)):=by
 obtain⟨wb,hwb⟩:∃wb,((((w.alloc (.cells #[.bool false, .slice none 0 0, .slice none 0 0] 67)).alloc (.cells #[.slice a n c] 22)).alloc (.cells #[.bool true] 4)).alloc (.cells #[fG (w.heap.size+1) (w.heap.size+1+1)] 184)).alloc (.cells #[dL (w.heap.size+1+1+1)] 185)=wb:=⟨_,rfl⟩;have hb0:Below w.heap.size w wb:=by rw[<- hwb];exact bW
 have hsz:wb.heap.size=w.heap.size+5:=by rw[<- hwb];simp
 have B0:Blk wb w.heap.size [.bool false, .slice none 0 0, .slice none 0 0] 67:=by rw[<- hwb];exact((((Blk.new w _ _).alloc _).alloc _).alloc _).alloc _
 have B1:Blk wb (w.heap.size+1) [.slice a n c] 22:=by rw[<- hwb];exact(((Blk.new' _ [_] _ (by simp)).alloc _).alloc _).alloc _
 have B2:Blk wb (w.heap.size+1+1) [.bool true] 4:=by rw[<- hwb];exact((Blk.new' _ [_] _ (by simp)).alloc _).alloc _
 have B3:Blk wb (w.heap.size+1+1+1) [fG (w.heap.size+1) (w.heap.size+1+1)] 184:=by rw[<- hwb];exact(Blk.new' _ [_] _ (by simp)).alloc _
 have B4:Blk wb (w.heap.size+1+1+1+1) [dL (w.heap.size+1+1+1)] 185:=by rw[<- hwb];exact Blk.new' _ [_] _ (by simp)
 obtain⟨s,hs⟩:∃s:bJ,(⟨a,n,c,l,true⟩:bJ)=s:=⟨_,rfl⟩;have hst:tX 22 4 wb S (w.heap.size+1) (w.heap.size+1+1) s:=by rw[<- hs];exact⟨B1,B2,hB.ext hb0,hf⟩
 have hap:jd S (w.heap.size+1+1+1) (w.heap.size+1+1+1+1) (w.heap.size+1) (w.heap.size+1+1):=⟨λb h=>by have:=hS b h;unfold kZ;omega,oM,by unfold kZ;omega,by unfold kZ;omega⟩;have hd:aI S (w.heap.size+1+1+1) (w.heap.size+1+1+1+1) (w.heap.size+1) (w.heap.size+1+1) w.heap.size 67 wb s [.bool false, .slice none 0 0, .slice none 0 0] wb:=⟨hst,B3,B4,B0,aA.refl _ _⟩;have hp:¬kZ (w.heap.size+1) (w.heap.size+1+1) w.heap.size:=by unfold kZ;omega
 have hsl:s.l=l:=by rw[<- hs]
 have HBB:=Hd (hB.ext hb0);have HS:=Hd hS;have HB0:=Hd hb0;have HSZ:=Hd hsz;have HAP:=Hd hap;have HD:=Hd hd;have HP:=Hd hp;have HSL:=Hd hsl;have hk1:s.num 1<=255:=lK _ (gY s 1);have hm1:(s.next 1).num 1<=255:=lK _ (gY (s.next 1) 1);have hk2:((s.num 1:Nat):Int)<=255:=oM;have hm2:(((s.next 1).num 1:Nat):Int)<=255:=oM;have hwm:IntKind.i64.wrap (((s.next 1).num 1:Nat):Int)=(((s.next 1).num 1:Nat):Int):=by rw[aZ];omega
 have hent:=λargs W=>og args W;have ZH:=λargs W=>uQ args W;rw[hs];unfold fG dL at hwb;have HF:=Hd hf;clear hB hf hS hb0 hsz B0 B1 B2 B3 B4 hst hap hd hp hsl hs;go_enter Tryz.func60,Tryz.ntmps60;go_wp2_with fail;clear hwb;refine' eF (λc=>aI S (w.heap.size+1+1+1) (w.heap.size+1+1+1+1) (w.heap.size+1) (w.heap.size+1+1) w.heap.size 67 wb ([s,s.next 1,(s.next 1).next 1].getD c s) [.bool false, .slice none 0 0, .slice none 0 0]) [1,3] [_,_,_,_,_,_,_] kR kR (λc W W' h hb=>h.ext hb) (HD.o) ?dN
 case dN=>
  refine cG (λcc W hlo hhi hI=>by have q2:=hI.nm.cells;unfold dL at q2;exact gF) ?_;refine cW (λW hI=>by have hI:=(show aI S (w.heap.size+1+1+1) (w.heap.size+1+1+1+1) (w.heap.size+1) (w.heap.size+1+1) w.heap.size 67 wb s [.bool false, .slice none 0 0, .slice none 0 0] W from hI);have hz:=Hd (ni hI HAP.o HP.o);exact gC) ?_;refine cG (λcc W hlo hhi hI=>by have q2:=hI.nm.cells;unfold dL at q2;exact gF) ?_;refine cW (λW hI=>by have hI:=(show aI S (w.heap.size+1+1+1) (w.heap.size+1+1+1+1) (w.heap.size+1) (w.heap.size+1+1) w.heap.size 67 wb (s.next 1) [.bool false, .slice none 0 0, .slice none 0 0] W from hI);have hz:=Hd (ni hI HAP.o HP.o);exact gC) ?_;iterate 3 refine cD ?_
  refine iD λW4 hI4=>?_;have HD4:=Hd (show aI S (w.heap.size+1+1+1) (w.heap.size+1+1+1+1) (w.heap.size+1) (w.heap.size+1+1) w.heap.size 67 wb ((s.next 1).next 1) [.bool false, .slice none 0 0, .slice none 0 0] W4 from hI4);clear hI4;obtain⟨mn,hmn⟩:∃m,min ((s.next 1).num 1) 7=m:=⟨_,rfl⟩;have HMN:=Hd hmn;have hmi:min (((s.next 1).num 1:Nat):Int) 7=(mn:Int):=oM;have HMI:=Hd hmi;have HM7:=Hd (show mn<=7 by omega);clear hmn hmi;have hlow:∀b,kZ (w.heap.size+1) (w.heap.size+1+1) b->w.heap.size<=b:=λb h=>by unfold kZ at h;omega
  have XF:=Hd hlow;have XG:=Hd (show Below w.heap.size w W4 from HB0.o.trans (HD4.o.only.below (by have:=HSZ.o;omega) hlow));have hs4:w.heap.size+5<=W4.heap.size:=by have:=HD4.o.only.size;have:=HSZ.o;omega
  have HS4:=Hd hs4;clear hlow hs4;by_cases hkd:s.num 1=1
  .have hkb:(((s.num 1:Nat):Int)==1)=true:=by rw[beq_iff_eq];omega
   have HKD:=Hd hkd;clear hkd;by_cases h7:(s.next 1).num 1<=7
   .have h7':(((s.next 1).num 1:Nat):Int)<=7:=oM;have hmm:(mn:Int)=(((s.next 1).num 1:Nat):Int):=by have:=HMI.o;omega
    obtain⟨R,hR⟩:∃R,Jg mn [] ((s.next 1).next 1)=R:=⟨_,rfl⟩;have hbx:Below W4.heap.size W4 (W4.alloc (.cells #[.bool true, .slice none 0 0, .slice none 0 0] 67)):=(Below.refl _ _).alloc (Nat.le_refl _) _;have vZ:Calls Tryz.prog 104 #[.int .i64 (((s.next 1).num 1:Nat):Int), .func (.func 105) #[] #[.pointer (some ⟨w.heap.size+1+1+1,0,none⟩), .pointer (some ⟨w.heap.size+1+1+1+1,0,none⟩), .pointer (some ⟨w.heap.size+1+1,0,none⟩)]] (W4.alloc (.cells #[.bool true, .slice none 0 0, .slice none 0 0] 67)) (oJ S (w.heap.size+1) (w.heap.size+1+1) (W4.alloc (.cells #[.bool true, .slice none 0 0, .slice none 0 0] 67)) R):=by
     have h:=yB S (w.heap.size+1+1+1) (w.heap.size+1+1+1+1) (w.heap.size+1) (w.heap.size+1+1) mn ((s.next 1).next 1) (W4.alloc (.cells #[.bool true, .slice none 0 0, .slice none 0 0] 67)) (HD4.o.st.ext hbx) (HD4.o.tk.ext hbx) (HD4.o.nm.ext hbx) HAP.o (λb h=>by have:=HS.o b h;have:=HS4.o;simp;omega) HM7.o;rw[hR,hmm]at h;exact h
    have uV:=Hd vZ;have pz:=Hd (show GX s=(⟨true,R.1,[]⟩,R.2.2) by unfold GX;rw[if_pos HKD.o,HMN.o,hR]);have HX5:=Hd (Blk.new W4 [.bool true, .slice none 0 0, .slice none 0 0] 67);have HBX:=Hd hbx;clear vZ hR hbx hmm h7;go_wp2_with fail;(with_reducible refine uV.o.mono ?_);rintro e W6 ⟨ra,rn,rc,rfl,hIS,EI,ho6⟩
    have h4:=HS4.o;have hx6:=HX5.o.aQ ho6 (by unfold kZ;omega);have c6:=hx6.cells;have m6:=hx6.marks;have l6:=hx6.lt;have r6:=EI.hO.cells;have n6:=EI.hO.marks;obtain⟨W7,hW7⟩:∃W7,(W6.setCell ⟨W4.heap.size,1,none⟩ (.slice ra rn rc)).setCell ⟨w.heap.size+1+1,0,none⟩ (.bool R.2.2)=W7:=⟨_,rfl⟩;have hx7:Blk W7 W4.heap.size [.bool true, .slice ra rn rc, .slice none 0 0] 67:=by rw[<- hW7];exact(hx6.set 1 _).other oM 0 _
    have hz7:Blk W7 (w.heap.size+1+1) [.bool R.2.2] 4:=by rw[<- hW7];exact(EI.hO.other oM 1 _).set 0 _
    have ho7:aA (λb=>b=W4.heap.size\/b=(w.heap.size+1+1)) W6 W7:=by rw[<- hW7];exact((aA.refl _ W6).set _ _ _ (.inl rfl)).set _ _ _ (.inr rfl)
    have h06:Blk W6 w.heap.size [.bool false, .slice none 0 0, .slice none 0 0] 67:=(HD4.o.x.ext HBX.o).aQ ho6 HP.o;have h07:Blk W7 w.heap.size [.bool false, .slice none 0 0, .slice none 0 0] 67:=h06.aQ ho7 oM;have UG:W4.heap.size+1<=W6.heap.size:=by have:=ho6.size;simpa using this
    have hn7:bM W7 (λb=>S b\/(W4.alloc (.cells #[.bool true, .slice none 0 0, .slice none 0 0] 67)).heap.size<=b) ra rn rc none 0 0 ⟨true,R.1,[]⟩:=(show bM W6 _ ra rn rc none 0 0 ⟨true,R.1,[]⟩from⟨hIS,dZ.nil_⟩).same ho7.size λb h1 h2=>ho7.block b h2 (by
     rcases h1 with h1|h1
     .have:=HS.o b h1;omega
     .simp at h1;omega)
    have EJ:=Hd (show Below w.heap.size w W7 from(XG.o.trans (HBX.o.mono oM)).trans ((ho6.below (n:=w.heap.size) (by simp;omega) XF.o).trans (ho7.below (n:=w.heap.size) oM λk h=>oM)));have HX7:=Hd hx7;have HZ7:=Hd hz7;have H07:=Hd h07;have HN7:=Hd hn7;have HB7:=Hd (show au W7 S a n c l from HBB.o.same (by have:=EJ.o.size;have:=ho7.size;have:=HD4.o.only.size;have:=HBX.o.size;have:=ho6.size;omega) λb h1 h2=>by
     have hb:=HS.o b h1;exact(EJ.o.block b hb).trans (HB0.o.block b hb).symm)
    have hE:Calls Tryz.prog 108 #[.agg #[.bool true, .slice ra rn rc, .slice none 0 0]] W7 (qA W7 ⟨true,R.1,[]⟩):=qB ⟨true,R.1,[]⟩ ra none rn rc 0 0 _ W7 hn7.s (λb h=>h);obtain⟨M,hM⟩:∃M:aT,⟨true,R.1,[]⟩=M:=⟨_,rfl⟩;rw[hM]at hE pz HN7;have HML:=Hd (show M.leaf=true by rw[<- hM]);have HE:=Hd hE;obtain⟨okq,hok⟩:∃b,R.2.2=b:=⟨_,rfl⟩;rw[hok]at pz HZ7 hW7⊢;have c7:=HX7.o.cells;have l7:=HX7.o.lt;clear hIS EI ho6 hx6 hx7 hz7 ho7 h06 h07 hn7 hE hM hok UG;go_wp2_with fail;clear hW7 c6 m6 l6 r6 n6;(with_reducible refine HE.o.mono ?_);rintro e W8 ⟨oa,on,oc,rfl,hOB,hb8⟩
    have HOB:=Hd hOB;have EK:=Hd (show Below w.heap.size w W8 from EJ.o.trans (hb8.mono EJ.o.size));have HX8:=Hd (HX7.o.ext hb8);have HZ8:=Hd (HZ7.o.ext hb8);have H08:=Hd (H07.o.ext hb8);have HN8:=Hd (HN7.o.ext hb8);have HB8:=Hd (HB7.o.ext hb8);have z8:=HZ8.o.cells;have x8:=H08.o.cells;have y8:=H08.o.marks;have t8:=H08.o.lt;have u8:=HZ8.o.lt;clear c7 l7 hOB hb8;cases okq with
    |false=>
     have HG:=Hd (show iQ s=false by unfold iQ;rw[pz.o];rfl);go_wp2;refine bodyPost_ret (v:= .tuple #[.agg #[.bool false, .slice none 0 0, .slice none 0 0], .int .i64 240]) (by simp[results,Tryz.results60,go_sem,x8]) rfl ⟨none,0,0,none,0,0,?_,?_,?_⟩
     .unfold qY Ce;rw[HG.o];rfl
     .unfold qY;rw[HG.o];exact⟨aY.nil_,dZ.nil_⟩
     .have h:=EK.o;exact(by have hz:=h;exact bV)
    |true=>
     cases hnk:bI M with
     |false=>
      have e0:=jT hnk;have HG:=Hd (show iQ s=false by unfold iQ;rw[pz.o];dsimp only;rw[hnk];rfl);clear hnk;go_wp2;refine bodyPost_ret (v:= .tuple #[.agg #[.bool false, .slice none 0 0, .slice none 0 0], .int .i64 240]) (by simp[results,Tryz.results60,go_sem,x8]) rfl ⟨none,0,0,none,0,0,?_,?_,?_⟩
      .unfold qY Ce;rw[HG.o];rfl
      .unfold qY;rw[HG.o];exact⟨aY.nil_,dZ.nil_⟩
      .have h:=EK.o;exact(by have hz:=h;exact bV)
     |true=>
      have e0:=oI hnk;have hq:=fE oa a on oc n c _ _ W8 HOB.o.at_ HB8.o.at_;rw[if_pos hnk]at hq;obtain⟨bq,hbq⟩:∃b,decide (aJ M=l)=b:=⟨_,rfl⟩;rw[hbq]at hq;have HQ:=Hd hq;have HG:=Hd (show iQ s=bq by unfold iQ;rw[pz.o];dsimp only;rw[hnk,HSL.o,hbq];simp);clear hnk hq hbq;go_wp2_with fail;(with_reducible refine HQ.o.mono ?_);rintro e W9 ⟨rfl,hb9⟩
      have Py:=Hd (EK.o.trans (hb9.mono EK.o.size));have HX9:=Hd (HX8.o.ext hb9);have H09:=Hd (H08.o.ext hb9);have HN9:=Hd (HN8.o.ext hb9);have x9:=H09.o.cells;have y9:=H09.o.marks;have t9:=H09.o.lt;have w9:=HX9.o.cells;have v9:=HX9.o.lt;clear z8 x8 y8 t8 u8 hb9;cases bq with
      |false=>
       go_wp2;refine bodyPost_ret (v:= .tuple #[.agg #[.bool false, .slice none 0 0, .slice none 0 0], .int .i64 240]) (by simp[results,Tryz.results60,go_sem,x9]) rfl ⟨none,0,0,none,0,0,?_,?_,?_⟩
       .unfold qY Ce;rw[HG.o];rfl
       .unfold qY;rw[HG.o];exact⟨aY.nil_,dZ.nil_⟩
       .have h:=Py.o;exact(by have hz:=h;exact bV)
      |true=>
       go_wp2;have hne:W4.heap.size≠w.heap.size:=by have:=HS4.o;omega
       refine bodyPost_ret (v:= .tuple #[.agg #[.bool true, .slice ra rn rc, .slice none 0 0], .int .i64 0]) (by simp[results,Tryz.results60,go_sem,x9]) rfl ⟨ra,rn,rc,none,0,0,?_,?_,?_⟩
       .unfold qY Ce;rw[HG.o,if_pos rfl,if_pos rfl,pz.o];dsimp only;rw[HML.o]
       .unfold qY;rw[HG.o,if_pos rfl,pz.o];refine(bM.same HN9.o ?_ λb h1 h2=>?_).mono λb h=>?_
        .simp
        .have:b≠w.heap.size:=by
          rcases h1 with h1|h1
          .have:=HS.o b h1;omega
          .simp at h1;have:=HS4.o;omega
         exact(((aA.refl (λb=>b=w.heap.size) W9).set _ _ _ rfl).set _ _ _ rfl).set _ _ _ rfl|>.block b h2 this
        .rcases h with h|h
         .exact .inl h
         .simp at h;have:=HS4.o;exact .inr oM
       .have h:=Py.o;exact(by have hz:=h;exact bV)
   .have h7':7<(((s.next 1).num 1:Nat):Int):=oM;have hmm:(mn:Int)=7:=by have:=HMI.o;omega
    obtain⟨R,hR⟩:∃R,Jg mn [] ((s.next 1).next 1)=R:=⟨_,rfl⟩;have hbx:Below W4.heap.size W4 (W4.alloc (.cells #[.bool true, .slice none 0 0, .slice none 0 0] 67)):=(Below.refl _ _).alloc (Nat.le_refl _) _;have vZ:Calls Tryz.prog 104 #[.int .i64 7, .func (.func 105) #[] #[.pointer (some ⟨w.heap.size+1+1+1,0,none⟩), .pointer (some ⟨w.heap.size+1+1+1+1,0,none⟩), .pointer (some ⟨w.heap.size+1+1,0,none⟩)]] (W4.alloc (.cells #[.bool true, .slice none 0 0, .slice none 0 0] 67)) (oJ S (w.heap.size+1) (w.heap.size+1+1) (W4.alloc (.cells #[.bool true, .slice none 0 0, .slice none 0 0] 67)) R):=by
     have h:=yB S (w.heap.size+1+1+1) (w.heap.size+1+1+1+1) (w.heap.size+1) (w.heap.size+1+1) mn ((s.next 1).next 1) (W4.alloc (.cells #[.bool true, .slice none 0 0, .slice none 0 0] 67)) (HD4.o.st.ext hbx) (HD4.o.tk.ext hbx) (HD4.o.nm.ext hbx) HAP.o (λb h=>by have:=HS.o b h;have:=HS4.o;simp;omega) HM7.o;rw[hR,hmm]at h;exact h
    have uV:=Hd vZ;have pz:=Hd (show GX s=(⟨true,R.1,[]⟩,R.2.2) by unfold GX;rw[if_pos HKD.o,HMN.o,hR]);have HX5:=Hd (Blk.new W4 [.bool true, .slice none 0 0, .slice none 0 0] 67);have HBX:=Hd hbx;clear vZ hR hbx hmm h7;go_wp2_with fail;(with_reducible refine uV.o.mono ?_);rintro e W6 ⟨ra,rn,rc,rfl,hIS,EI,ho6⟩
    have h4:=HS4.o;have hx6:=HX5.o.aQ ho6 (by unfold kZ;omega);have c6:=hx6.cells;have m6:=hx6.marks;have l6:=hx6.lt;have r6:=EI.hO.cells;have n6:=EI.hO.marks;obtain⟨W7,hW7⟩:∃W7,(W6.setCell ⟨W4.heap.size,1,none⟩ (.slice ra rn rc)).setCell ⟨w.heap.size+1+1,0,none⟩ (.bool R.2.2)=W7:=⟨_,rfl⟩;have hx7:Blk W7 W4.heap.size [.bool true, .slice ra rn rc, .slice none 0 0] 67:=by rw[<- hW7];exact(hx6.set 1 _).other oM 0 _
    have hz7:Blk W7 (w.heap.size+1+1) [.bool R.2.2] 4:=by rw[<- hW7];exact(EI.hO.other oM 1 _).set 0 _
    have ho7:aA (λb=>b=W4.heap.size\/b=(w.heap.size+1+1)) W6 W7:=by rw[<- hW7];exact((aA.refl _ W6).set _ _ _ (.inl rfl)).set _ _ _ (.inr rfl)
    have h06:Blk W6 w.heap.size [.bool false, .slice none 0 0, .slice none 0 0] 67:=(HD4.o.x.ext HBX.o).aQ ho6 HP.o;have h07:Blk W7 w.heap.size [.bool false, .slice none 0 0, .slice none 0 0] 67:=h06.aQ ho7 oM;have UG:W4.heap.size+1<=W6.heap.size:=by have:=ho6.size;simpa using this
    have hn7:bM W7 (λb=>S b\/(W4.alloc (.cells #[.bool true, .slice none 0 0, .slice none 0 0] 67)).heap.size<=b) ra rn rc none 0 0 ⟨true,R.1,[]⟩:=(show bM W6 _ ra rn rc none 0 0 ⟨true,R.1,[]⟩from⟨hIS,dZ.nil_⟩).same ho7.size λb h1 h2=>ho7.block b h2 (by
     rcases h1 with h1|h1
     .have:=HS.o b h1;omega
     .simp at h1;omega)
    have EJ:=Hd (show Below w.heap.size w W7 from(XG.o.trans (HBX.o.mono oM)).trans ((ho6.below (n:=w.heap.size) (by simp;omega) XF.o).trans (ho7.below (n:=w.heap.size) oM λk h=>oM)));have HX7:=Hd hx7;have HZ7:=Hd hz7;have H07:=Hd h07;have HN7:=Hd hn7;have HB7:=Hd (show au W7 S a n c l from HBB.o.same (by have:=EJ.o.size;have:=ho7.size;have:=HD4.o.only.size;have:=HBX.o.size;have:=ho6.size;omega) λb h1 h2=>by
     have hb:=HS.o b h1;exact(EJ.o.block b hb).trans (HB0.o.block b hb).symm)
    have hE:Calls Tryz.prog 108 #[.agg #[.bool true, .slice ra rn rc, .slice none 0 0]] W7 (qA W7 ⟨true,R.1,[]⟩):=qB ⟨true,R.1,[]⟩ ra none rn rc 0 0 _ W7 hn7.s (λb h=>h);obtain⟨M,hM⟩:∃M:aT,⟨true,R.1,[]⟩=M:=⟨_,rfl⟩;rw[hM]at hE pz HN7;have HML:=Hd (show M.leaf=true by rw[<- hM]);have HE:=Hd hE;obtain⟨okq,hok⟩:∃b,R.2.2=b:=⟨_,rfl⟩;rw[hok]at pz HZ7 hW7⊢;have c7:=HX7.o.cells;have l7:=HX7.o.lt;clear hIS EI ho6 hx6 hx7 hz7 ho7 h06 h07 hn7 hE hM hok UG;go_wp2_with fail;clear hW7 c6 m6 l6 r6 n6;(with_reducible refine HE.o.mono ?_);rintro e W8 ⟨oa,on,oc,rfl,hOB,hb8⟩
    have HOB:=Hd hOB;have EK:=Hd (show Below w.heap.size w W8 from EJ.o.trans (hb8.mono EJ.o.size));have HX8:=Hd (HX7.o.ext hb8);have HZ8:=Hd (HZ7.o.ext hb8);have H08:=Hd (H07.o.ext hb8);have HN8:=Hd (HN7.o.ext hb8);have HB8:=Hd (HB7.o.ext hb8);have z8:=HZ8.o.cells;have x8:=H08.o.cells;have y8:=H08.o.marks;have t8:=H08.o.lt;have u8:=HZ8.o.lt;clear c7 l7 hOB hb8;cases okq with
    |false=>
     have HG:=Hd (show iQ s=false by unfold iQ;rw[pz.o];rfl);go_wp2;refine bodyPost_ret (v:= .tuple #[.agg #[.bool false, .slice none 0 0, .slice none 0 0], .int .i64 240]) (by simp[results,Tryz.results60,go_sem,x8]) rfl ⟨none,0,0,none,0,0,?_,?_,?_⟩
     .unfold qY Ce;rw[HG.o];rfl
     .unfold qY;rw[HG.o];exact⟨aY.nil_,dZ.nil_⟩
     .have h:=EK.o;exact(by have hz:=h;exact bV)
    |true=>
     cases hnk:bI M with
     |false=>
      have e0:=jT hnk;have HG:=Hd (show iQ s=false by unfold iQ;rw[pz.o];dsimp only;rw[hnk];rfl);clear hnk;go_wp2;refine bodyPost_ret (v:= .tuple #[.agg #[.bool false, .slice none 0 0, .slice none 0 0], .int .i64 240]) (by simp[results,Tryz.results60,go_sem,x8]) rfl ⟨none,0,0,none,0,0,?_,?_,?_⟩
      .unfold qY Ce;rw[HG.o];rfl
      .unfold qY;rw[HG.o];exact⟨aY.nil_,dZ.nil_⟩
      .have h:=EK.o;exact(by have hz:=h;exact bV)
     |true=>
      have e0:=oI hnk;have hq:=fE oa a on oc n c _ _ W8 HOB.o.at_ HB8.o.at_;rw[if_pos hnk]at hq;obtain⟨bq,hbq⟩:∃b,decide (aJ M=l)=b:=⟨_,rfl⟩;rw[hbq]at hq;have HQ:=Hd hq;have HG:=Hd (show iQ s=bq by unfold iQ;rw[pz.o];dsimp only;rw[hnk,HSL.o,hbq];simp);clear hnk hq hbq;go_wp2_with fail;(with_reducible refine HQ.o.mono ?_);rintro e W9 ⟨rfl,hb9⟩
      have Py:=Hd (EK.o.trans (hb9.mono EK.o.size));have HX9:=Hd (HX8.o.ext hb9);have H09:=Hd (H08.o.ext hb9);have HN9:=Hd (HN8.o.ext hb9);have x9:=H09.o.cells;have y9:=H09.o.marks;have t9:=H09.o.lt;have w9:=HX9.o.cells;have v9:=HX9.o.lt;clear z8 x8 y8 t8 u8 hb9;cases bq with
      |false=>
       go_wp2;refine bodyPost_ret (v:= .tuple #[.agg #[.bool false, .slice none 0 0, .slice none 0 0], .int .i64 240]) (by simp[results,Tryz.results60,go_sem,x9]) rfl ⟨none,0,0,none,0,0,?_,?_,?_⟩
       .unfold qY Ce;rw[HG.o];rfl
       .unfold qY;rw[HG.o];exact⟨aY.nil_,dZ.nil_⟩
       .have h:=Py.o;exact(by have hz:=h;exact bV)
      |true=>
       go_wp2;have hne:W4.heap.size≠w.heap.size:=by have:=HS4.o;omega
       refine bodyPost_ret (v:= .tuple #[.agg #[.bool true, .slice ra rn rc, .slice none 0 0], .int .i64 0]) (by simp[results,Tryz.results60,go_sem,x9]) rfl ⟨ra,rn,rc,none,0,0,?_,?_,?_⟩
       .unfold qY Ce;rw[HG.o,if_pos rfl,if_pos rfl,pz.o];dsimp only;rw[HML.o]
       .unfold qY;rw[HG.o,if_pos rfl,pz.o];refine(bM.same HN9.o ?_ λb h1 h2=>?_).mono λb h=>?_
        .simp
        .have:b≠w.heap.size:=by
          rcases h1 with h1|h1
          .have:=HS.o b h1;omega
          .simp at h1;have:=HS4.o;omega
         exact(((aA.refl (λb=>b=w.heap.size) W9).set _ _ _ rfl).set _ _ _ rfl).set _ _ _ rfl|>.block b h2 this
        .rcases h with h|h
         .exact .inl h
         .simp at h;have:=HS4.o;exact .inr oM
       .have h:=Py.o;exact(by have hz:=h;exact bV)
  .have hkb:(((s.num 1:Nat):Int)==1)=false:=by rw[beq_eq_false_iff_ne];omega
   have HKD:=Hd hkd;clear hkd;by_cases h7:(s.next 1).num 1<=7
   .have h7':(((s.next 1).num 1:Nat):Int)<=7:=oM;have hmm:(mn:Int)=(((s.next 1).num 1:Nat):Int):=by have:=HMI.o;omega
    obtain⟨R,hR⟩:∃R,Jh mn [] ((s.next 1).next 1)=R:=⟨_,rfl⟩;have hbx:Below W4.heap.size W4 (W4.alloc (.cells #[.bool false, .slice none 0 0, .slice none 0 0] 67)):=(Below.refl _ _).alloc (Nat.le_refl _) _;have vZ:Calls Tryz.prog 106 #[.int .i64 (((s.next 1).num 1:Nat):Int), .func (.func 107) #[] #[.pointer (some ⟨w.heap.size+1+1+1,0,none⟩), .pointer (some ⟨w.heap.size+1+1+1+1,0,none⟩), .pointer (some ⟨w.heap.size+1+1,0,none⟩)]] (W4.alloc (.cells #[.bool false, .slice none 0 0, .slice none 0 0] 67)) (qC S (w.heap.size+1) (w.heap.size+1+1) (W4.alloc (.cells #[.bool false, .slice none 0 0, .slice none 0 0] 67)) R):=by
     have h:=Af S (w.heap.size+1+1+1) (w.heap.size+1+1+1+1) (w.heap.size+1) (w.heap.size+1+1) mn ((s.next 1).next 1) (W4.alloc (.cells #[.bool false, .slice none 0 0, .slice none 0 0] 67)) (HD4.o.st.ext hbx) (HD4.o.tk.ext hbx) (HD4.o.nm.ext hbx) HAP.o (λb h=>by have:=HS.o b h;have:=HS4.o;simp;omega) HM7.o;rw[hR,hmm]at h;exact h
    have uV:=Hd vZ;have pz:=Hd (show GX s=(⟨false,[],R.1⟩,R.2.2) by unfold GX;rw[if_neg HKD.o,HMN.o,hR]);have HX5:=Hd (Blk.new W4 [.bool false, .slice none 0 0, .slice none 0 0] 67);have HBX:=Hd hbx;clear vZ hR hbx hmm h7;go_wp2_with fail;(with_reducible refine uV.o.mono ?_);rintro e W6 ⟨ra,rn,rc,rfl,hIS,EI,ho6⟩
    have h4:=HS4.o;have hx6:=HX5.o.aQ ho6 (by unfold kZ;omega);have c6:=hx6.cells;have m6:=hx6.marks;have l6:=hx6.lt;have r6:=EI.hO.cells;have n6:=EI.hO.marks;obtain⟨W7,hW7⟩:∃W7,(W6.setCell ⟨W4.heap.size,2,none⟩ (.slice ra rn rc)).setCell ⟨w.heap.size+1+1,0,none⟩ (.bool R.2.2)=W7:=⟨_,rfl⟩;have hx7:Blk W7 W4.heap.size [.bool false, .slice none 0 0, .slice ra rn rc] 67:=by rw[<- hW7];exact(hx6.set 2 _).other oM 0 _
    have hz7:Blk W7 (w.heap.size+1+1) [.bool R.2.2] 4:=by rw[<- hW7];exact(EI.hO.other oM 2 _).set 0 _
    have ho7:aA (λb=>b=W4.heap.size\/b=(w.heap.size+1+1)) W6 W7:=by rw[<- hW7];exact((aA.refl _ W6).set _ _ _ (.inl rfl)).set _ _ _ (.inr rfl)
    have h06:Blk W6 w.heap.size [.bool false, .slice none 0 0, .slice none 0 0] 67:=(HD4.o.x.ext HBX.o).aQ ho6 HP.o;have h07:Blk W7 w.heap.size [.bool false, .slice none 0 0, .slice none 0 0] 67:=h06.aQ ho7 oM;have UG:W4.heap.size+1<=W6.heap.size:=by have:=ho6.size;simpa using this
    have hn7:bM W7 (λb=>S b\/(W4.alloc (.cells #[.bool false, .slice none 0 0, .slice none 0 0] 67)).heap.size<=b) none 0 0 ra rn rc ⟨false,[],R.1⟩:=(show bM W6 _ none 0 0 ra rn rc ⟨false,[],R.1⟩from⟨aY.nil_,hIS⟩).same ho7.size λb h1 h2=>ho7.block b h2 (by
     rcases h1 with h1|h1
     .have:=HS.o b h1;omega
     .simp at h1;omega)
    have EJ:=Hd (show Below w.heap.size w W7 from(XG.o.trans (HBX.o.mono oM)).trans ((ho6.below (n:=w.heap.size) (by simp;omega) XF.o).trans (ho7.below (n:=w.heap.size) oM λk h=>oM)));have HX7:=Hd hx7;have HZ7:=Hd hz7;have H07:=Hd h07;have HN7:=Hd hn7;have HB7:=Hd (show au W7 S a n c l from HBB.o.same (by have:=EJ.o.size;have:=ho7.size;have:=HD4.o.only.size;have:=HBX.o.size;have:=ho6.size;omega) λb h1 h2=>by
     have hb:=HS.o b h1;exact(EJ.o.block b hb).trans (HB0.o.block b hb).symm)
    have hE:Calls Tryz.prog 108 #[.agg #[.bool false, .slice none 0 0, .slice ra rn rc]] W7 (qA W7 ⟨false,[],R.1⟩):=qB ⟨false,[],R.1⟩ none ra 0 0 rn rc _ W7 hn7.s (λb h=>h);obtain⟨M,hM⟩:∃M:aT,⟨false,[],R.1⟩=M:=⟨_,rfl⟩;rw[hM]at hE pz HN7;have HML:=Hd (show M.leaf=false by rw[<- hM]);have HE:=Hd hE;obtain⟨okq,hok⟩:∃b,R.2.2=b:=⟨_,rfl⟩;rw[hok]at pz HZ7 hW7⊢;have c7:=HX7.o.cells;have l7:=HX7.o.lt;clear hIS EI ho6 hx6 hx7 hz7 ho7 h06 h07 hn7 hE hM hok UG;go_wp2_with fail;clear hW7 c6 m6 l6 r6 n6;(with_reducible refine HE.o.mono ?_);rintro e W8 ⟨oa,on,oc,rfl,hOB,hb8⟩
    have HOB:=Hd hOB;have EK:=Hd (show Below w.heap.size w W8 from EJ.o.trans (hb8.mono EJ.o.size));have HX8:=Hd (HX7.o.ext hb8);have HZ8:=Hd (HZ7.o.ext hb8);have H08:=Hd (H07.o.ext hb8);have HN8:=Hd (HN7.o.ext hb8);have HB8:=Hd (HB7.o.ext hb8);have z8:=HZ8.o.cells;have x8:=H08.o.cells;have y8:=H08.o.marks;have t8:=H08.o.lt;have u8:=HZ8.o.lt;clear c7 l7 hOB hb8;cases okq with
    |false=>
     have HG:=Hd (show iQ s=false by unfold iQ;rw[pz.o];rfl);go_wp2;refine bodyPost_ret (v:= .tuple #[.agg #[.bool false, .slice none 0 0, .slice none 0 0], .int .i64 240]) (by simp[results,Tryz.results60,go_sem,x8]) rfl ⟨none,0,0,none,0,0,?_,?_,?_⟩
     .unfold qY Ce;rw[HG.o];rfl
     .unfold qY;rw[HG.o];exact⟨aY.nil_,dZ.nil_⟩
     .have h:=EK.o;exact(by have hz:=h;exact bV)
    |true=>
     cases hnk:bI M with
     |false=>
      have e0:=jT hnk;have HG:=Hd (show iQ s=false by unfold iQ;rw[pz.o];dsimp only;rw[hnk];rfl);clear hnk;go_wp2;refine bodyPost_ret (v:= .tuple #[.agg #[.bool false, .slice none 0 0, .slice none 0 0], .int .i64 240]) (by simp[results,Tryz.results60,go_sem,x8]) rfl ⟨none,0,0,none,0,0,?_,?_,?_⟩
      .unfold qY Ce;rw[HG.o];rfl
      .unfold qY;rw[HG.o];exact⟨aY.nil_,dZ.nil_⟩
      .have h:=EK.o;exact(by have hz:=h;exact bV)
     |true=>
      have e0:=oI hnk;have hq:=fE oa a on oc n c _ _ W8 HOB.o.at_ HB8.o.at_;rw[if_pos hnk]at hq;obtain⟨bq,hbq⟩:∃b,decide (aJ M=l)=b:=⟨_,rfl⟩;rw[hbq]at hq;have HQ:=Hd hq;have HG:=Hd (show iQ s=bq by unfold iQ;rw[pz.o];dsimp only;rw[hnk,HSL.o,hbq];simp);clear hnk hq hbq;go_wp2_with fail;(with_reducible refine HQ.o.mono ?_);rintro e W9 ⟨rfl,hb9⟩
      have Py:=Hd (EK.o.trans (hb9.mono EK.o.size));have HX9:=Hd (HX8.o.ext hb9);have H09:=Hd (H08.o.ext hb9);have HN9:=Hd (HN8.o.ext hb9);have x9:=H09.o.cells;have y9:=H09.o.marks;have t9:=H09.o.lt;have w9:=HX9.o.cells;have v9:=HX9.o.lt;clear z8 x8 y8 t8 u8 hb9;cases bq with
      |false=>
       go_wp2;refine bodyPost_ret (v:= .tuple #[.agg #[.bool false, .slice none 0 0, .slice none 0 0], .int .i64 240]) (by simp[results,Tryz.results60,go_sem,x9]) rfl ⟨none,0,0,none,0,0,?_,?_,?_⟩
       .unfold qY Ce;rw[HG.o];rfl
       .unfold qY;rw[HG.o];exact⟨aY.nil_,dZ.nil_⟩
       .have h:=Py.o;exact(by have hz:=h;exact bV)
      |true=>
       go_wp2;have hne:W4.heap.size≠w.heap.size:=by have:=HS4.o;omega
       refine bodyPost_ret (v:= .tuple #[.agg #[.bool false, .slice none 0 0, .slice ra rn rc], .int .i64 0]) (by simp[results,Tryz.results60,go_sem,x9]) rfl ⟨none,0,0,ra,rn,rc,?_,?_,?_⟩
       .unfold qY Ce;rw[HG.o,if_pos rfl,if_pos rfl,pz.o];dsimp only;rw[HML.o]
       .unfold qY;rw[HG.o,if_pos rfl,pz.o];refine(bM.same HN9.o ?_ λb h1 h2=>?_).mono λb h=>?_
        .simp
        .have:b≠w.heap.size:=by
          rcases h1 with h1|h1
          .have:=HS.o b h1;omega
          .simp at h1;have:=HS4.o;omega
         exact(((aA.refl (λb=>b=w.heap.size) W9).set _ _ _ rfl).set _ _ _ rfl).set _ _ _ rfl|>.block b h2 this
        .rcases h with h|h
         .exact .inl h
         .simp at h;have:=HS4.o;exact .inr oM
       .have h:=Py.o;exact(by have hz:=h;exact bV)
   .have h7':7<(((s.next 1).num 1:Nat):Int):=oM;have hmm:(mn:Int)=7:=by have:=HMI.o;omega
    obtain⟨R,hR⟩:∃R,Jh mn [] ((s.next 1).next 1)=R:=⟨_,rfl⟩;have hbx:Below W4.heap.size W4 (W4.alloc (.cells #[.bool false, .slice none 0 0, .slice none 0 0] 67)):=(Below.refl _ _).alloc (Nat.le_refl _) _;have vZ:Calls Tryz.prog 106 #[.int .i64 7, .func (.func 107) #[] #[.pointer (some ⟨w.heap.size+1+1+1,0,none⟩), .pointer (some ⟨w.heap.size+1+1+1+1,0,none⟩), .pointer (some ⟨w.heap.size+1+1,0,none⟩)]] (W4.alloc (.cells #[.bool false, .slice none 0 0, .slice none 0 0] 67)) (qC S (w.heap.size+1) (w.heap.size+1+1) (W4.alloc (.cells #[.bool false, .slice none 0 0, .slice none 0 0] 67)) R):=by
     have h:=Af S (w.heap.size+1+1+1) (w.heap.size+1+1+1+1) (w.heap.size+1) (w.heap.size+1+1) mn ((s.next 1).next 1) (W4.alloc (.cells #[.bool false, .slice none 0 0, .slice none 0 0] 67)) (HD4.o.st.ext hbx) (HD4.o.tk.ext hbx) (HD4.o.nm.ext hbx) HAP.o (λb h=>by have:=HS.o b h;have:=HS4.o;simp;omega) HM7.o;rw[hR,hmm]at h;exact h
    have uV:=Hd vZ;have pz:=Hd (show GX s=(⟨false,[],R.1⟩,R.2.2) by unfold GX;rw[if_neg HKD.o,HMN.o,hR]);have HX5:=Hd (Blk.new W4 [.bool false, .slice none 0 0, .slice none 0 0] 67);have HBX:=Hd hbx;clear vZ hR hbx hmm h7;go_wp2_with fail;(with_reducible refine uV.o.mono ?_);rintro e W6 ⟨ra,rn,rc,rfl,hIS,EI,ho6⟩
    have h4:=HS4.o;have hx6:=HX5.o.aQ ho6 (by unfold kZ;omega);have c6:=hx6.cells;have m6:=hx6.marks;have l6:=hx6.lt;have r6:=EI.hO.cells;have n6:=EI.hO.marks;obtain⟨W7,hW7⟩:∃W7,(W6.setCell ⟨W4.heap.size,2,none⟩ (.slice ra rn rc)).setCell ⟨w.heap.size+1+1,0,none⟩ (.bool R.2.2)=W7:=⟨_,rfl⟩;have hx7:Blk W7 W4.heap.size [.bool false, .slice none 0 0, .slice ra rn rc] 67:=by rw[<- hW7];exact(hx6.set 2 _).other oM 0 _
    have hz7:Blk W7 (w.heap.size+1+1) [.bool R.2.2] 4:=by rw[<- hW7];exact(EI.hO.other oM 2 _).set 0 _
    have ho7:aA (λb=>b=W4.heap.size\/b=(w.heap.size+1+1)) W6 W7:=by rw[<- hW7];exact((aA.refl _ W6).set _ _ _ (.inl rfl)).set _ _ _ (.inr rfl)
    have h06:Blk W6 w.heap.size [.bool false, .slice none 0 0, .slice none 0 0] 67:=(HD4.o.x.ext HBX.o).aQ ho6 HP.o;have h07:Blk W7 w.heap.size [.bool false, .slice none 0 0, .slice none 0 0] 67:=h06.aQ ho7 oM;have UG:W4.heap.size+1<=W6.heap.size:=by have:=ho6.size;simpa using this
    have hn7:bM W7 (λb=>S b\/(W4.alloc (.cells #[.bool false, .slice none 0 0, .slice none 0 0] 67)).heap.size<=b) none 0 0 ra rn rc ⟨false,[],R.1⟩:=(show bM W6 _ none 0 0 ra rn rc ⟨false,[],R.1⟩from⟨aY.nil_,hIS⟩).same ho7.size λb h1 h2=>ho7.block b h2 (by
     rcases h1 with h1|h1
     .have:=HS.o b h1;omega
     .simp at h1;omega)
    have EJ:=Hd (show Below w.heap.size w W7 from(XG.o.trans (HBX.o.mono oM)).trans ((ho6.below (n:=w.heap.size) (by simp;omega) XF.o).trans (ho7.below (n:=w.heap.size) oM λk h=>oM)));have HX7:=Hd hx7;have HZ7:=Hd hz7;have H07:=Hd h07;have HN7:=Hd hn7;have HB7:=Hd (show au W7 S a n c l from HBB.o.same (by have:=EJ.o.size;have:=ho7.size;have:=HD4.o.only.size;have:=HBX.o.size;have:=ho6.size;omega) λb h1 h2=>by
     have hb:=HS.o b h1;exact(EJ.o.block b hb).trans (HB0.o.block b hb).symm)
    have hE:Calls Tryz.prog 108 #[.agg #[.bool false, .slice none 0 0, .slice ra rn rc]] W7 (qA W7 ⟨false,[],R.1⟩):=qB ⟨false,[],R.1⟩ none ra 0 0 rn rc _ W7 hn7.s (λb h=>h);obtain⟨M,hM⟩:∃M:aT,⟨false,[],R.1⟩=M:=⟨_,rfl⟩;rw[hM]at hE pz HN7;have HML:=Hd (show M.leaf=false by rw[<- hM]);have HE:=Hd hE;obtain⟨okq,hok⟩:∃b,R.2.2=b:=⟨_,rfl⟩;rw[hok]at pz HZ7 hW7⊢;have c7:=HX7.o.cells;have l7:=HX7.o.lt;clear hIS EI ho6 hx6 hx7 hz7 ho7 h06 h07 hn7 hE hM hok UG;go_wp2_with fail;clear hW7 c6 m6 l6 r6 n6;(with_reducible refine HE.o.mono ?_);rintro e W8 ⟨oa,on,oc,rfl,hOB,hb8⟩
    have HOB:=Hd hOB;have EK:=Hd (show Below w.heap.size w W8 from EJ.o.trans (hb8.mono EJ.o.size));have HX8:=Hd (HX7.o.ext hb8);have HZ8:=Hd (HZ7.o.ext hb8);have H08:=Hd (H07.o.ext hb8);have HN8:=Hd (HN7.o.ext hb8);have HB8:=Hd (HB7.o.ext hb8);have z8:=HZ8.o.cells;have x8:=H08.o.cells;have y8:=H08.o.marks;have t8:=H08.o.lt;have u8:=HZ8.o.lt;clear c7 l7 hOB hb8;cases okq with
    |false=>
     have HG:=Hd (show iQ s=false by unfold iQ;rw[pz.o];rfl);go_wp2;refine bodyPost_ret (v:= .tuple #[.agg #[.bool false, .slice none 0 0, .slice none 0 0], .int .i64 240]) (by simp[results,Tryz.results60,go_sem,x8]) rfl ⟨none,0,0,none,0,0,?_,?_,?_⟩
     .unfold qY Ce;rw[HG.o];rfl
     .unfold qY;rw[HG.o];exact⟨aY.nil_,dZ.nil_⟩
     .have h:=EK.o;exact(by have hz:=h;exact bV)
    |true=>
     cases hnk:bI M with
     |false=>
      have e0:=jT hnk;have HG:=Hd (show iQ s=false by unfold iQ;rw[pz.o];dsimp only;rw[hnk];rfl);clear hnk;go_wp2;refine bodyPost_ret (v:= .tuple #[.agg #[.bool false, .slice none 0 0, .slice none 0 0], .int .i64 240]) (by simp[results,Tryz.results60,go_sem,x8]) rfl ⟨none,0,0,none,0,0,?_,?_,?_⟩
      .unfold qY Ce;rw[HG.o];rfl
      .unfold qY;rw[HG.o];exact⟨aY.nil_,dZ.nil_⟩
      .have h:=EK.o;exact(by have hz:=h;exact bV)
     |true=>
      have e0:=oI hnk;have hq:=fE oa a on oc n c _ _ W8 HOB.o.at_ HB8.o.at_;rw[if_pos hnk]at hq;obtain⟨bq,hbq⟩:∃b,decide (aJ M=l)=b:=⟨_,rfl⟩;rw[hbq]at hq;have HQ:=Hd hq;have HG:=Hd (show iQ s=bq by unfold iQ;rw[pz.o];dsimp only;rw[hnk,HSL.o,hbq];simp);clear hnk hq hbq;go_wp2_with fail;(with_reducible refine HQ.o.mono ?_);rintro e W9 ⟨rfl,hb9⟩
      have Py:=Hd (EK.o.trans (hb9.mono EK.o.size));have HX9:=Hd (HX8.o.ext hb9);have H09:=Hd (H08.o.ext hb9);have HN9:=Hd (HN8.o.ext hb9);have x9:=H09.o.cells;have y9:=H09.o.marks;have t9:=H09.o.lt;have w9:=HX9.o.cells;have v9:=HX9.o.lt;clear z8 x8 y8 t8 u8 hb9;cases bq with
      |false=>
       go_wp2;refine bodyPost_ret (v:= .tuple #[.agg #[.bool false, .slice none 0 0, .slice none 0 0], .int .i64 240]) (by simp[results,Tryz.results60,go_sem,x9]) rfl ⟨none,0,0,none,0,0,?_,?_,?_⟩
       .unfold qY Ce;rw[HG.o];rfl
       .unfold qY;rw[HG.o];exact⟨aY.nil_,dZ.nil_⟩
       .have h:=Py.o;exact(by have hz:=h;exact bV)
      |true=>
       go_wp2;have hne:W4.heap.size≠w.heap.size:=by have:=HS4.o;omega
       refine bodyPost_ret (v:= .tuple #[.agg #[.bool false, .slice none 0 0, .slice ra rn rc], .int .i64 0]) (by simp[results,Tryz.results60,go_sem,x9]) rfl ⟨none,0,0,ra,rn,rc,?_,?_,?_⟩
       .unfold qY Ce;rw[HG.o,if_pos rfl,if_pos rfl,pz.o];dsimp only;rw[HML.o]
       .unfold qY;rw[HG.o,if_pos rfl,pz.o];refine(bM.same HN9.o ?_ λb h1 h2=>?_).mono λb h=>?_
        .simp
        .have:b≠w.heap.size:=by
          rcases h1 with h1|h1
          .have:=HS.o b h1;omega
          .simp at h1;have:=HS4.o;omega
         exact(((aA.refl (λb=>b=w.heap.size) W9).set _ _ _ rfl).set _ _ _ rfl).set _ _ _ rfl|>.block b h2 this
        .rcases h with h|h
         .exact .inl h
         .simp at h;have:=HS4.o;exact .inr oM
       .have h:=Py.o;exact(by have hz:=h;exact bV)
end Go.Proofs.YtenmnhnlcnmloaaGreat
