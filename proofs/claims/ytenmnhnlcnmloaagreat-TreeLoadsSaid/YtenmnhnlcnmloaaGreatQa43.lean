/- Part of a proof of a law of the layer of trees. -/
import Derived.Test.YtenmnhnlcnmloaaGreatQa42
import Derived.Test.YtenmnhnlcnmloaaGreatQa17
import Derived.Test.YtenmnhnlcnmloaaGreatQa15
import Derived.Test.YtenmnhnlcnmloaaGreatQa23
import Derived.Test.YtenmnhnlcnmloaaGreatQa01
set_option linter.unusedVariables false
set_option linter.unusedSimpArgs false
set_option maxHeartbeats 8000000
set_option maxRecDepth 8000
namespace Go.Dav
open Go Go.RowKit
def zy(S:Nat->Prop)(w:World)(x r:List UInt8)(e:Ending)(w':World):Prop:=
 ∃ka kn kc ra rn rc,e= .returned (.tuple #[.slice ka kn kc, .slice ra rn rc, .bool true])/\au w' S ka kn kc x/\iH ka/\au w' S ra rn rc r/\iH ra/\Below w.heap.size w w'
theorem au.sub{W:World}{S:Nat->Prop}{b o n c i k:Nat}{l:List UInt8}(h:au W S (some ⟨b,o,none⟩) n c l)(hi:i+k<=n)(hc:c≠i):au W S (some ⟨b,o+i,none⟩) k (c-i) ((l.drop i).take k):=by
 have h1:=(h.drop (k:=i) oM).takeC (k:=k) oM;unfold qR at h1;rw[if_neg hc]at h1;exact h1
theorem TK{l:List UInt8}{m i k:Nat}(h:i+k<=m):((l.take m).drop i).take k=(l.drop i).take k:=by
 rw[List.drop_take,List.take_take,Nat.min_eq_left oM]
theorem wO(l:List UInt8)(i:Nat):numOf ((l.drop i).take 4)<4294967296:=jk _ (List.length_take_le _ _)
theorem QO(l:List UInt8)(i:Nat):numOf ((l.drop i).take 8)<18446744073709551616:=xB _ (List.length_take_le _ _)
def QS(ka:Option Addr)(kn kc:Nat)(x:dS):Value:= .agg #[.slice ka kn kc, .int .i64 x.at_, .int .i64 x.red.c, .int .i64 x.red.n, .int .i64 (hi x.red.s), .int .u64 (lo x.red.s), .int .i64 x.red.l, .int .i64 x.red.m]
def QT(S:Nat->Prop)(w:World)(x:dS)(r:List UInt8)(e:Ending)(w':World):Prop:=
 ∃ka kn kc ra rn rc,e= .returned (.tuple #[QS ka kn kc x, .slice ra rn rc, .bool true])/\au w' S ka kn kc x.key/\au w' S ra rn rc r/\iH ra/\Below w.heap.size w w'
end Go.Dav
namespace Go.Proofs.YtenmnhnlcnmloaaGreat
open Go.RowKit Go.Dav
attribute [local go_sem] Gives ite_val ay
theorem uw(S:Nat->Prop)(a:Option Addr)(n c k:Nat)(l:List UInt8)(w:World)(hB:au w S a n c l)(hf:iH a)(hk:k<=n)(hk8:k<=1000):
  Calls Tryz.prog 156 #[.slice a n c, .int .i64 (k:Int)] w (zy S w (l.take k) (l.drop k)):=
 (wM S ⟨a,n,c,l,true⟩ k w ⟨rfl,hB,hf⟩ hk hk8).mono λ_ _ ⟨he,hb⟩=>⟨_,_,_,_,_,_,he,(hB.takeC hk).ext hb,hf,(hB.drop hk).ext hb,hf.adv _ _,hb⟩
theorem jq(S:Nat->Prop)(a:Option Addr)(n c:Nat)(l x r:List UInt8)(w:World)(hB:au w S a n c l)(hf:iH a)(hc:Pz l=some (x,r)):
  Calls Tryz.prog 155 #[.slice a n c] w (zy S w x r):=by
 cases l with
 |nil=>cases hc
 |cons k q=>
  rw[wu]at hc;split at hc
  .rename_i hk;cases hc;have hl:=hB.at_.hlen;simp only[List.length_cons]at hl;have hn:1<=n:=oM;have h:Ee w S ⟨a,n,c,k::q,true⟩:=⟨rfl,hB,hf⟩;have h1:=h.next (k:=1) hn;have e1:=h.QM (k:=1) hn;have hnum:bJ.num ⟨a,n,c,k::q,true⟩ 1=k.toNat:=by unfold bJ.num;rw[h.bytes hn,tH]
   rw[e1]at h1;have hk8:=k.toNat_lt;have hct:=qP S ⟨a,n,c,k::q,true⟩ w h hn (qR a c 1) (qR (qR a c 1) (c-1) k.toNat) k.toNat (c-1) (n-1-k.toNat) (c-1-k.toNat) true λW hb=>by
    rw[hnum];exact wM S ⟨qR a c 1,n-1,c-1,q,true⟩ k.toNat W (h1.ext hb) (show k.toNat<=n-1 by omega) oM
   have hq:au w S (qR a c 1) (n-1) (c-1) q:=hB.drop hn;exact hct.mono λe w' ⟨he,hb⟩=>⟨_,_,_,_,_,_,he,(hq.takeC oM).ext hb,hf.adv _ _,(hq.drop oM).ext hb,(hf.adv _ _).adv _ _,hb⟩
  .cases hc
theorem mG(S:Nat->Prop)(a:Option Addr)(n c:Nat)(l:List UInt8)(w:World)(hB:au w S a n c l)(hf:iH a)(hc:Pz l=none):
  Calls Tryz.prog 155 #[.slice a n c] w λe w'=>e= .returned (.tuple #[.slice none 0 0, .slice none 0 0, .bool false])/\Below w.heap.size w w':=by
 have hl:=hB.at_.hlen;cases l with
 |nil=>exact xR ⟨a,n,c,[],true⟩ w (by simpa using hl.symm)
 |cons k q=>
  rw[wu]at hc;split at hc
  .cases hc
  .rename_i hk;simp only[List.length_cons]at hl;have hn:1<=n:=oM;have h:Ee w S ⟨a,n,c,k::q,true⟩:=⟨rfl,hB,hf⟩;have hnum:bJ.num ⟨a,n,c,k::q,true⟩ 1=k.toNat:=by unfold bJ.num;rw[h.bytes hn,tH]
   have hk8:=k.toNat_lt;have hfew:=hB.at_.hfew;refine qP S ⟨a,n,c,k::q,true⟩ w h hn _ _ _ _ _ _ false λW hb=>?_;rw[hnum];exact sG ⟨qR a c 1,n-1,c-1,q,true⟩ k.toNat W (show ¬k.toNat<=n-1 by omega) oM (show n-1<=_ by omega)
theorem iq(a:Option Addr)(n c:Nat)(l:List UInt8)(w:World)(hB:BytesAt w a n c l)(hn:n<=8):
  Calls Tryz.prog 157 #[.slice a n c] w λe w'=>e= .returned (.int .u64 (numOf l:Nat))/\Below w.heap.size w w':=by
 have hl:=hB.hlen;have hn':(n:Int)<=8:=oM;have HB:=Hd hB;have HL:=Hd hl;have HN:=Hd hn;clear hB hl hn;go_enter Tryz.func157,Tryz.ntmps157;go_wp2_with fail;go_loopw [3,4] (λxv ix wr=>∃k:Nat,k<=n/\ix= .int .i64 k/\xv= .int .u64 (numOf (l.take k):Nat)/\Below w.heap.size w wr) (λ_ ix _=>n-(intOf ix).toNat)
 case atStart=>exact⟨0,Nat.zero_le _,rfl,rfl,Below.refl _ _⟩
 case round=>
  obtain⟨k,hk,rfl,rfl,hbel⟩:=hrel;have HBE:=Hd hbel;by_cases hlt:k<n
  .obtain⟨x,hx⟩:∃x,l[k]? =some x:=⟨_,List.getElem?_eq_getElem (by have:=HL.o;omega)⟩;obtain⟨b,o,rfl,hb,hc⟩:=(HB.o.ext hbel).hat k x hx;have hlt':(k:Int)<(n:Int):=oM;have hk0:¬(k:Int)<0:=oM;have HLT:=Hd hlt;have hnx:=N9 hx;have hlo:numOf (l.take k)<72057594037927936:=by
    have h1:=vW (l.take k);have h2:256^(l.take k).length<=256^7:=Nat.pow_le_pow_right oM (by rw[List.length_take];have:=HN.o;omega);omega
   have hx8:=x.toNat_lt;obtain⟨y,hy⟩:∃y,numOf (l.take k)=y:=⟨_,rfl⟩;rw[hy]at hnx hlo⊢;have HNX:=Hd hnx;have M:=Hd (show IntKind.u64.wrap (IntKind.u64.wrap ((y:Int)*256)+IntKind.u64.wrap (x.toNat:Int))=((y*256+x.toNat:Nat):Int) by
    have e1:IntKind.u64.wrap ((y:Int)*256)=(y:Int)*256:=by rw[wrap_u64];omega
    have e2:IntKind.u64.wrap (x.toNat:Int)=(x.toNat:Int):=by rw[wrap_u64];omega
    rw[e1,e2,wrap_u64];omega)
   clear hx hbel hlt hk hnx hlo hx8 hy;go_wp2_with fail;go_roundw
   case rel=>exact⟨k+1,HLT.o,by go_num,by rw[HNX.o,M.o],HBE.o⟩
   case measure=>simp[intOf];have:=HLT.o;omega
  .obtain rfl:k=n:=oM;have hlt':¬(k:Int)<(k:Int):=oM;rw[List.take_of_length_le (by rw[HL.o];exact Nat.le_refl _)];clear hbel hlt hk;go_wp2;go_ret;exact⟨rfl,HBE.o⟩
theorem Oa(S:Nat->Prop)(a:Option Addr)(n c:Nat)(l:List UInt8)(w:World)(hB:au w S a n c l)(hf:iH a)(hk:9<=l.length):
  Calls Tryz.prog 156 #[.slice a n c, .int .i64 9] w (zy S w (l.take 9) (l.drop 9)):=uw S a n c 9 l w hB hf (by rw[<- hB.at_.hlen];exact hk) oM
theorem Fq(S:Nat->Prop)(a:Option Addr)(n c:Nat)(l:List UInt8)(w:World)(hB:au w S a n c l)(hk:¬9<=l.length):
  Calls Tryz.prog 156 #[.slice a n c, .int .i64 9] w λe w'=>e= .returned (.tuple #[.slice none 0 0, .slice none 0 0, .bool false])/\Below w.heap.size w w':=sG ⟨a,n,c,l,true⟩ 9 w (by rw[<- hB.at_.hlen];exact hk) oM hB.at_.hfew
def sH(ka va:Option Addr)(kn kc vn vc:Nat)(x:aP):Value:= .agg #[.slice ka kn kc, .slice va vn vc, .bool x.int, .int .i64 x.n]
def Ob(S:Nat->Prop)(w:World)(x:aP)(r:List UInt8)(e:Ending)(w':World):Prop:=
 ∃ka kn kc va vn vc ra rn rc,e= .returned (.tuple #[sH ka va kn kc vn vc x, .slice ra rn rc, .bool true])/\au w' S ka kn kc x.key/\au w' S va vn vc x.value/\au w' S ra rn rc r/\iH ra/\Below w.heap.size w w'
theorem yN(S:Nat->Prop)(a:Option Addr)(n c:Nat)(l:List UInt8)(w:World)(hB:au w S a n c l)(hf:iH a)(hS:∀b,S b->b<w.heap.size):
  (nO l=none->Calls Tryz.prog 111 #[.slice a n c] w λe w'=>e= .returned (.tuple #[.agg #[.slice none 0 0, .slice none 0 0, .bool false, .int .i64 0], .slice none 0 0, .bool false])/\Below w.heap.size w w')/\
  (∀x r,nO l=some (x,r)->Calls Tryz.prog 111 #[.slice a n c] w (Ob S w x r)):=by
 obtain⟨w0,hw0⟩:∃w0,w.alloc (.cells #[.slice none 0 0, .slice none 0 0, .bool false, .int .i64 0] 60)=w0:=⟨_,rfl⟩;have hb0:Below w.heap.size w w0:=by rw[<- hw0];exact bW
 have q0:Blk w0 w.heap.size [.slice none 0 0, .slice none 0 0, .bool false, .int .i64 0] 60:=by rw[<- hw0];exact Blk.new w _ _
 have HS:=Hd hS;have HQ0:=Hd q0;have HB0:=Hd hb0;have HY:=Hd (hB.ext hb0);have HF:=Hd hf;have HW0:=Hd hw0;clear hb0 q0 hB hf hw0 hS;cases hc:Pz l with
 |none=>
  have hit:nO l=none:=by unfold nO;rw[hc]
  have HC:=Hd (mG S a n c l _ HY.o HF.o hc);refine⟨λ_=>?_,λx r e=>by rw[hit]at e;cases e⟩;clear hc hit;go_enter Tryz.func111,Tryz.ntmps111;go_wp2_with fail;rw[HW0.o];(with_reducible refine HC.o.mono ?_);rintro e w1 ⟨rfl,hb1⟩
  have q1:=HQ0.o.ext hb1;have HB1:=Hd (HB0.o.trans (hb1.mono HB0.o.size));have c1:=q1.cells;have m1:=q1.marks;have l1:=q1.lt;clear hb1 q1 HC;go_wp2;refine bodyPost_ret (v:= .tuple #[.agg #[.slice none 0 0, .slice none 0 0, .bool false, .int .i64 0], .slice none 0 0, .bool false]) (by simp[results,Tryz.results111,go_sem, *]) rfl ⟨rfl,?_⟩;have h:=HB1.o;have hsz:=h.size;exact(by have hz:=h;exact bV)
 |some p=>
  obtain⟨key,r1⟩:=p;have HC:=Hd (jq S a n c l key r1 _ HY.o HF.o hc);cases hc2:Pz r1 with
  |none=>
   have hit:nO l=none:=by unfold nO;rw[hc];dsimp only;rw[hc2]
   have H2:=Hd hc2;refine⟨λ_=>?_,λx r e=>by rw[hit]at e;cases e⟩;clear hc hit hc2;go_enter Tryz.func111,Tryz.ntmps111;go_wp2_with fail;rw[HW0.o];(with_reducible refine HC.o.mono ?_);rintro e w1 ⟨ka,kn,kc,ra,rn,rc,rfl,hK,hkp,hR,hrp,hb1⟩
   have q1:=HQ0.o.ext hb1;have HQ1:=Hd q1;have HB1:=Hd (HB0.o.trans (hb1.mono HB0.o.size));have HC2:=Hd (mG S ra rn rc r1 w1 hR hrp H2.o);clear hb1 q1 HC hK hkp hR hrp H2;go_wp2_with fail;(with_reducible refine HC2.o.mono ?_);rintro e w2 ⟨rfl,hb2⟩
   have q2:=HQ1.o.ext hb2;have HB2:=Hd (HB1.o.trans (hb2.mono HB1.o.size));have c2:=q2.cells;have m2:=q2.marks;have l2:=q2.lt;clear hb2 q2 HC2;go_wp2;refine bodyPost_ret (v:= .tuple #[.agg #[.slice none 0 0, .slice none 0 0, .bool false, .int .i64 0], .slice none 0 0, .bool false]) (by simp[results,Tryz.results111,go_sem, *]) rfl ⟨rfl,?_⟩;have h:=HB2.o;have hsz:=h.size;exact(by have hz:=h;exact bV)
  |some p2=>
   obtain⟨val,r2⟩:=p2;have H2:=Hd hc2;by_cases h9:9<=r2.length
   .have hit:nO l=some (Du key val r2,r2.drop 9):=by unfold nO;rw[hc];dsimp only;rw[hc2];dsimp only;rw[if_pos h9]
    refine⟨λe=>(by rw[hit]at e;cases e),λx r e=>?_⟩;rw[hit]at e;cases e;have H9:=Hd h9;clear hc hit hc2 h9;go_enter Tryz.func111,Tryz.ntmps111;go_wp2_with fail;rw[HW0.o];(with_reducible refine HC.o.mono ?_);rintro e w1 ⟨ka,kn,kc,ra,rn,rc,rfl,hK,hkp,hR,hrp,hb1⟩
    have HQ1:=Hd (HQ0.o.ext hb1);have HB1:=Hd (HB0.o.trans (hb1.mono HB0.o.size));have HC2:=Hd (jq S ra rn rc r1 val r2 w1 hR hrp H2.o);have HK1:=Hd hK;clear hb1 HC hK hkp hR hrp H2;go_wp2_with fail;(with_reducible refine HC2.o.mono ?_);rintro e w2 ⟨va,vn,vc,sa,sn,sc,rfl,hV,hvp,hR,hrp,hb2⟩
    have HQ2:=Hd (HQ1.o.ext hb2);have HB2:=Hd (HB1.o.trans (hb2.mono HB1.o.size));have HK2:=Hd (HK1.o.ext hb2);have HV2:=Hd hV;have HC3:=Hd (Oa S sa sn sc r2 w2 hR hrp H9.o);clear hb2 HC2 hV hvp hR hrp;go_wp2_with fail;(with_reducible refine HC3.o.mono ?_);rintro e w3 ⟨ta,tn,tc,ua,un,uc,rfl,hT,htp,hU,hup,hb3⟩
    have q3:=HQ2.o.ext hb3;have HQ3:=Hd q3;have HB3:=Hd (HB2.o.trans (hb3.mono HB2.o.size));have HK3:=Hd (HK2.o.ext hb3);have HV3:=Hd (HV2.o.ext hb3);have HU3:=Hd hU;have HUP:=Hd hup;have htl:=hT.at_.hlen;rw[List.length_take,Nat.min_eq_left H9.o]at htl;subst htl;obtain⟨y,hy⟩:∃y,r2[0]? =some y:=⟨_,List.getElem?_eq_getElem (by have:=H9.o;omega)⟩;obtain⟨b,o,rfl,hb,hc0⟩:=hT.at_.hat 0 y (by rw[List.getElem?_take,if_pos oM];exact hy);rw[Nat.add_zero]at hc0;have htc:=hT.at_.hcap;have hn1:numOf (r2.take 1)=y.toNat:=by rw[List.take_add_one,hy];simp[numOf]
    have hd:(r2.take 9).drop 1=(r2.drop 1).take 8:=by rw[List.drop_take]
    have hnb:au w3 S (some ⟨b,o+1,none⟩) 8 (tc-1) ((r2.drop 1).take 8):=by
     have h:=hT.drop (k:=1) oM;rw[hd]at h;unfold qR at h;rw[if_neg oM]at h;exact h
    have HNB:=Hd (λW (hb:Below w3.heap.size w3 W)=>iq (some ⟨b,o+1,none⟩) 8 (tc-1) ((r2.drop 1).take 8) W (hnb.at_.ext hb) (Nat.le_refl _));have hit:Du key val r2=⟨key,val,decide (y.toNat=1),wrap64 (numOf ((r2.drop 1).take 8):Nat)⟩:=by unfold Du;rw[hn1]
    have HIT:=Hd hit;obtain⟨z,hz⟩:∃z,numOf ((r2.drop 1).take 8)=z:=⟨_,rfl⟩;rw[hz]at HNB HIT;have HWR:=Hd (show IntKind.i64.wrap (z:Int)=wrap64 (z:Int) by rw[aZ,dQ]);have HYD:=Hd (show(((y.toNat:Int))==1)=decide (y.toNat=1) by rw[Bool.eq_iff_iff];simp;omega);have t1:¬tc-1=0:=oM;have t2:¬tc=1:=oM;have t3:(9:Int)<=(tc:Int):=oM;have c3:=q3.cells;have m3:=q3.marks;have l3:=q3.lt;clear hb3 HC3 hT htp hU hup q3 hy hn1 hd hnb hit hz htc;go_wp2_with fail;refine' dX [11] [.inl _, .inl _, .inl _, .inl _, .inl _, .inl _, .inl _, .inl _, .inl _, .inl _, .inl _, .inl _] kR kR ?dN
    case dN=>
     iterate 4 refine wD ?_
     refine wE ?_;refine wG (λW hE hN=>by go_simp;refine⟨Below.refl _ _,?_⟩;rw[HYD.o]) ?_;iterate 2 refine wD ?_
     refine wG (λW hE hN=>by go_simp;refine⟨Below.refl _ _,?_⟩;refine(HNB.o W hE).mono ?_;rintro e w' ⟨rfl,hb⟩;refine⟨?_,hb⟩;rfl) ?_;refine wG (λW hE hN=>by go_simp;refine⟨Below.refl _ _,?_⟩;rw[HWR.o]) ?_;iterate 2 refine wD ?_
     refine aj λW4 hE4 hG4=>?_;have L9:=hE4.cF;have Mc:=hE4.fF;have hq4:=HQ3.o.ext hE4;have c4:=hq4.cells;have m4:=hq4.marks;have l4:=hq4.lt;have HB4:=Hd (HB3.o.trans (hE4.mono HB3.o.size));have HK4:=Hd (HK3.o.ext hE4);have HV4:=Hd (HV3.o.ext hE4);have HU4:=Hd (HU3.o.ext hE4);have hO:=(((((Only.refl w.heap.size W4).set 0 (.slice ka kn kc)).set 1 (.slice va vn vc)).set 2 (.bool (decide (y.toNat=1)))).set 3 (.int .i64 (wrap64 (z:Int))));have HO:=Hd hO;clear hE4 hG4 c3 m3 l3 L9 Mc hq4 hO;go_wp2_with fail;refine cO ?_;go_wp2;refine bodyPost_ret (v:= .tuple #[sH ka va kn kc vn vc (Du key val r2), .slice ua un uc, .bool true]) (by rw[HIT.o];simp[results,Tryz.results111,go_sem,sH, *]) rfl ⟨ka,kn,kc,va,vn,vc,ua,un,uc,rfl,?_,?_,?_,HUP.o,?_⟩
     .exact HK4.o.same HO.o.size (λb h hlt=>HO.o.block b hlt (by have:=HS.o b h;omega))
     .exact HV4.o.same HO.o.size (λb h hlt=>HO.o.block b hlt (by have:=HS.o b h;omega))
     .exact HU4.o.same HO.o.size (λb h hlt=>HO.o.block b hlt (by have:=HS.o b h;omega))
     .have h:=HB4.o;have hsz:=h.size;exact(by have hz:=h;exact bV)
   .have hit:nO l=none:=by unfold nO;rw[hc];dsimp only;rw[hc2];dsimp only;rw[if_neg h9]
    refine⟨λ_=>?_,λx r e=>by rw[hit]at e;cases e⟩;have H9:=Hd h9;clear hc hit hc2 h9;go_enter Tryz.func111,Tryz.ntmps111;go_wp2_with fail;rw[HW0.o];(with_reducible refine HC.o.mono ?_);rintro e w1 ⟨ka,kn,kc,ra,rn,rc,rfl,hK,hkp,hR,hrp,hb1⟩
    have HQ1:=Hd (HQ0.o.ext hb1);have HB1:=Hd (HB0.o.trans (hb1.mono HB0.o.size));have HC2:=Hd (jq S ra rn rc r1 val r2 w1 hR hrp H2.o);clear hb1 HC hK hkp hR hrp H2;go_wp2_with fail;(with_reducible refine HC2.o.mono ?_);rintro e w2 ⟨va,vn,vc,sa,sn,sc,rfl,hV,hvp,hR,hrp,hb2⟩
    have HQ2:=Hd (HQ1.o.ext hb2);have HB2:=Hd (HB1.o.trans (hb2.mono HB1.o.size));have HC3:=Hd (Fq S sa sn sc r2 w2 hR H9.o);clear hb2 HC2 hV hvp hR hrp;go_wp2_with fail;(with_reducible refine HC3.o.mono ?_);rintro e w3 ⟨rfl,hb3⟩
    have q3:=HQ2.o.ext hb3;have HB3:=Hd (HB2.o.trans (hb3.mono HB2.o.size));have c3:=q3.cells;have m3:=q3.marks;have l3:=q3.lt;clear hb3 q3 HC3;go_wp2;refine bodyPost_ret (v:= .tuple #[.agg #[.slice none 0 0, .slice none 0 0, .bool false, .int .i64 0], .slice none 0 0, .bool false]) (by simp[results,Tryz.results111,go_sem, *]) rfl ⟨rfl,?_⟩;have h:=HB3.o;have hsz:=h.size;exact(by have hz:=h;exact bV)
theorem KC(S:Nat->Prop)(a:Option Addr)(n c:Nat)(l:List UInt8)(w:World)(hB:au w S a n c l)(hf:iH a)(hk:44<=l.length):
  Calls Tryz.prog 156 #[.slice a n c, .int .i64 44] w (zy S w (l.take 44) (l.drop 44)):=uw S a n c 44 l w hB hf (by rw[<- hB.at_.hlen];exact hk) oM
theorem CU(S:Nat->Prop)(a:Option Addr)(n c:Nat)(l:List UInt8)(w:World)(hB:au w S a n c l)(hk:¬44<=l.length):
  Calls Tryz.prog 156 #[.slice a n c, .int .i64 44] w λe w'=>e= .returned (.tuple #[.slice none 0 0, .slice none 0 0, .bool false])/\Below w.heap.size w w':=sG ⟨a,n,c,l,true⟩ 44 w (by rw[<- hB.at_.hlen];exact hk) oM hB.at_.hfew
theorem BF(S:Nat->Prop)(a:Option Addr)(n c:Nat)(l:List UInt8)(w:World)(hB:au w S a n c l)(hf:iH a)(hS:∀b,S b->b<w.heap.size):
  (Dv l=none->Calls Tryz.prog 112 #[.slice a n c] w λe w'=>e= .returned (.tuple #[.agg #[.slice none 0 0, .int .i64 0, .int .i64 0, .int .i64 0, .int .i64 0, .int .u64 0, .int .i64 0, .int .i64 0], .slice none 0 0, .bool false])/\Below w.heap.size w w')/\
  (∀x r,Dv l=some (x,r)->Calls Tryz.prog 112 #[.slice a n c] w (QT S w x r)):=by
 obtain⟨w0,hw0⟩:∃w0,w.alloc (.cells #[.slice none 0 0, .int .i64 0, .int .i64 0, .int .i64 0, .int .i64 0, .int .u64 0, .int .i64 0, .int .i64 0] 128)=w0:=⟨_,rfl⟩;have hb0:Below w.heap.size w w0:=by rw[<- hw0];exact bW
 have q0:Blk w0 w.heap.size [.slice none 0 0, .int .i64 0, .int .i64 0, .int .i64 0, .int .i64 0, .int .u64 0, .int .i64 0, .int .i64 0] 128:=by rw[<- hw0];exact Blk.new w _ _
 have HS:=Hd hS;have HQ0:=Hd q0;have HB0:=Hd hb0;have HY:=Hd (hB.ext hb0);have HF:=Hd hf;have HW0:=Hd hw0;clear hb0 q0 hB hf hw0 hS;cases hc:Pz l with
 |none=>
  have hit:Dv l=none:=by unfold Dv;rw[hc]
  have HC:=Hd (mG S a n c l _ HY.o HF.o hc);refine⟨λ_=>?_,λx r e=>by rw[hit]at e;cases e⟩;clear hc hit;go_enter Tryz.func112,Tryz.ntmps112;go_wp2_with fail;rw[HW0.o];(with_reducible refine HC.o.mono ?_);rintro e w1 ⟨rfl,hb1⟩
  have q1:=HQ0.o.ext hb1;have HB1:=Hd (HB0.o.trans (hb1.mono HB0.o.size));have c1:=q1.cells;have m1:=q1.marks;have l1:=q1.lt;clear hb1 q1 HC;go_wp2;refine bodyPost_ret (v:= .tuple #[.agg #[.slice none 0 0, .int .i64 0, .int .i64 0, .int .i64 0, .int .i64 0, .int .u64 0, .int .i64 0, .int .i64 0], .slice none 0 0, .bool false]) (by simp[results,Tryz.results112,go_sem, *]) rfl ⟨rfl,?_⟩;have h:=HB1.o;have hsz:=h.size;exact(by have hz:=h;exact bV)
 |some p=>
  obtain⟨key,r2⟩:=p;have HC:=Hd (jq S a n c l key r2 _ HY.o HF.o hc);by_cases h9:44<=r2.length;rotate_left
  .have hit:Dv l=none:=by unfold Dv;rw[hc];dsimp only;rw[if_neg h9]
   refine⟨λ_=>?_,λx r e=>by rw[hit]at e;cases e⟩;have H9:=Hd h9;clear hc hit h9;go_enter Tryz.func112,Tryz.ntmps112;go_wp2_with fail;rw[HW0.o];(with_reducible refine HC.o.mono ?_);rintro e w1 ⟨ka,kn,kc,ra,rn,rc,rfl,hK,hkp,hR,hrp,hb1⟩
   have HQ1:=Hd (HQ0.o.ext hb1);have HB1:=Hd (HB0.o.trans (hb1.mono HB0.o.size));have HC3:=Hd (CU S ra rn rc r2 w1 hR H9.o);clear hb1 HC hK hkp hR hrp;go_wp2_with fail;(with_reducible refine HC3.o.mono ?_);rintro e w3 ⟨rfl,hb3⟩
   have q3:=HQ1.o.ext hb3;have HB3:=Hd (HB1.o.trans (hb3.mono HB1.o.size));have c3:=q3.cells;have m3:=q3.marks;have l3:=q3.lt;clear hb3 q3 HC3;go_wp2;refine bodyPost_ret (v:= .tuple #[.agg #[.slice none 0 0, .int .i64 0, .int .i64 0, .int .i64 0, .int .i64 0, .int .u64 0, .int .i64 0, .int .i64 0], .slice none 0 0, .bool false]) (by simp[results,Tryz.results112,go_sem, *]) rfl ⟨rfl,?_⟩;have h:=HB3.o;have hsz:=h.size;exact(by have hz:=h;exact bV)
  .have hit:Dv l=some (PD key r2,r2.drop 44):=by unfold Dv;rw[hc];dsimp only;rw[if_pos h9]
   refine⟨λe=>(by rw[hit]at e;cases e),λx r e=>?_⟩;rw[hit]at e;cases e;have H9:=Hd h9;clear hc hit h9;go_enter Tryz.func112,Tryz.ntmps112;go_wp2_with fail;rw[HW0.o];(with_reducible refine HC.o.mono ?_);rintro e w1 ⟨ka,kn,kc,ra,rn,rc,rfl,hK,hkp,hR,hrp,hb1⟩
   have HQ1:=Hd (HQ0.o.ext hb1);have HB1:=Hd (HB0.o.trans (hb1.mono HB0.o.size));have HK1:=Hd hK;have HC3:=Hd (KC S ra rn rc r2 w1 hR hrp H9.o);clear hb1 HC hK hkp hR hrp;go_wp2_with fail;(with_reducible refine HC3.o.mono ?_);rintro e w3 ⟨ta,tn,tc,ua,un,uc,rfl,hT,htp,hU,hup,hb3⟩
   have q3:=HQ1.o.ext hb3;have HQ3:=Hd q3;have HB3:=Hd (HB1.o.trans (hb3.mono HB1.o.size));have HK3:=Hd (HK1.o.ext hb3);have HU3:=Hd hU;have HUP:=Hd hup;have htl:=hT.at_.hlen;rw[List.length_take,Nat.min_eq_left H9.o]at htl;subst htl;obtain⟨y,hy⟩:∃y,(r2.take 44)[0]? =some y:=⟨_,List.getElem?_eq_getElem (by rw[List.length_take];have:=H9.o;omega)⟩;obtain⟨b,o,rfl,hb,hc0⟩:=hT.at_.hat 0 y hy;have htc:=hT.at_.hcap;have s0:=hT.takeC (k:=4) oM;rw[List.take_take,Nat.min_eq_left oM]at s0;have s4:=hT.sub (i:=4) (k:=4) oM oM;have s8:=hT.sub (i:=8) (k:=4) oM oM;have s12:=hT.sub (i:=12) (k:=8) oM oM;have s20:=hT.sub (i:=20) (k:=8) oM oM;have s28:=hT.sub (i:=28) (k:=8) oM oM;have s36:=hT.sub (i:=36) (k:=8) oM oM;rw[TK oM]at s4 s8 s12 s20 s28 s36;have N0:=λW (hb:Below w3.heap.size w3 W)=>iq _ _ _ _ W (s0.at_.ext hb) oM;have N4:=λW (hb:Below w3.heap.size w3 W)=>iq _ _ _ _ W (s4.at_.ext hb) oM;have N8:=λW (hb:Below w3.heap.size w3 W)=>iq _ _ _ _ W (s8.at_.ext hb) oM;have N12:=λW (hb:Below w3.heap.size w3 W)=>iq _ _ _ _ W (s12.at_.ext hb) oM;have N20:=λW (hb:Below w3.heap.size w3 W)=>iq _ _ _ _ W (s20.at_.ext hb) oM;have N28:=λW (hb:Below w3.heap.size w3 W)=>iq _ _ _ _ W (s28.at_.ext hb) oM;have N36:=λW (hb:Below w3.heap.size w3 W)=>iq _ _ _ _ W (s36.at_.ext hb) oM;have hka:PD key r2=⟨key,(numOf (r2.take 4):Nat),⟨(numOf ((r2.drop 4).take 4):Nat),(numOf ((r2.drop 8).take 4):Nat),wrap64 (numOf ((r2.drop 12).take 8):Nat)*18446744073709551616+(numOf ((r2.drop 20).take 8):Nat),wrap64 (numOf ((r2.drop 28).take 8):Nat),wrap64 (numOf ((r2.drop 36).take 8):Nat)⟩⟩:=rfl;have b0:numOf (r2.take 4)<4294967296:=jk _ (List.length_take_le _ _);have b4:=wO r2 4;have b8:=wO r2 8;have b20:=QO r2 20;obtain⟨z0,hz0⟩:∃z,numOf (r2.take 4)=z:=⟨_,rfl⟩;obtain⟨z4,hz4⟩:∃z,numOf ((r2.drop 4).take 4)=z:=⟨_,rfl⟩;obtain⟨z8,hz8⟩:∃z,numOf ((r2.drop 8).take 4)=z:=⟨_,rfl⟩;obtain⟨z12,Zo⟩:∃z,numOf ((r2.drop 12).take 8)=z:=⟨_,rfl⟩;obtain⟨z20,Zp⟩:∃z,numOf ((r2.drop 20).take 8)=z:=⟨_,rfl⟩;obtain⟨z28,Zq⟩:∃z,numOf ((r2.drop 28).take 8)=z:=⟨_,rfl⟩;obtain⟨z36,Zr⟩:∃z,numOf ((r2.drop 36).take 8)=z:=⟨_,rfl⟩;rw[hz0,hz4,hz8,Zo,Zp,Zq,Zr]at hka;rw[hz0]at N0 b0;rw[hz4]at N4 b4;rw[hz8]at N8 b8;rw[Zo]at N12;rw[Zp]at N20 b20;rw[Zq]at N28;rw[Zr]at N36;have HKA:=Hd hka;have HN0:=Hd N0;have HN4:=Hd N4;have HN8:=Hd N8;have aaE:=Hd N12;have aaF:=Hd N20;have aaG:=Hd N28;have aaH:=Hd N36;have ab8:=Hd (show IntKind.i64.wrap (z0:Int)=(z0:Int) by rw[aZ];omega);have HW4:=Hd (show IntKind.i64.wrap (z4:Int)=(z4:Int) by rw[aZ];omega);have HW8:=Hd (show IntKind.i64.wrap (z8:Int)=(z8:Int) by rw[aZ];omega);have HWW:=Hd (show ∀z:Int,IntKind.i64.wrap z=wrap64 z from λz=>by rw[aZ,dQ]);have HHI:=Hd (show hi (wrap64 (z12:Int)*18446744073709551616+(z20:Int))=wrap64 (z12:Int)/\lo (wrap64 (z12:Int)*18446744073709551616+(z20:Int))=(z20:Int)from⟨Ov (o9 _) oM oM,Ox oM oM⟩);have t4:¬tc-4=0:=oM;have t8:¬tc-8=0:=oM;have t12:¬tc-12=0:=oM;have t20:¬tc-20=0:=oM;have t28:¬tc-28=0:=oM;have t36:¬tc-36=0:=oM;have e4:¬tc=4:=oM;have e8:¬tc=8:=oM;have e12:¬tc=12:=oM;have e20:¬tc=20:=oM;have e28:¬tc=28:=oM;have e36:¬tc=36:=oM;have f8:(8:Int)<=(tc:Int):=oM;have f12:(12:Int)<=(tc:Int):=oM;have f20:(20:Int)<=(tc:Int):=oM;have f28:(28:Int)<=(tc:Int):=oM;have f36:(36:Int)<=(tc:Int):=oM;have f44:(44:Int)<=(tc:Int):=oM;have f4:(4:Int)<=(tc:Int):=oM;have c3:=q3.cells;have m3:=q3.marks;have l3:=q3.lt;clear hb3 HC3 hT htp hU hup q3 hy hc0 htc s0 s4 s8 s12 s20 s28 s36 N0 N4 N8 N12 N20 N28 N36 hka b0 b4 b8 b20 hz0 hz4 hz8 Zo Zp Zq Zr;go_wp2_with fail;refine' ah [(Sum.inl _:Piece),(Sum.inl _:Piece),(Sum.inl _:Piece),(Sum.inl _:Piece),(Sum.inl _:Piece),(Sum.inl _:Piece),(Sum.inl _:Piece),(Sum.inl _:Piece),(Sum.inl _:Piece),(Sum.inl _:Piece),(Sum.inl _:Piece),(Sum.inl _:Piece),(Sum.inl _:Piece),(Sum.inl _:Piece),(Sum.inl _:Piece),(Sum.inl _:Piece),(Sum.inl _:Piece),(Sum.inl _:Piece),(Sum.inl _:Piece),(Sum.inl _:Piece),(Sum.inl _:Piece),(Sum.inl _:Piece),(Sum.inl _:Piece),(Sum.inl _:Piece),(Sum.inr (dA w3.heap.size [.int .i64 0, .int .i64 0, .int .i64 0, .int .u64 0, .int .i64 0, .int .i64 0] 35):Piece)] kR kR ?dN
   case dN=>
    iterate 2 refine wD ?_
    refine wG (λW hE hN=>by go_simp;refine⟨Below.refl _ _,?_⟩;refine(HN4.o W hE).mono ?_;rintro e w' ⟨rfl,hb⟩;refine⟨?_,hb⟩;rfl) ?_;refine wG (λW hE hN=>by go_simp;refine⟨Below.refl _ _,?_⟩;rw[HW4.o]) ?_;iterate 2 refine wD ?_
    refine wG (λW hE hN=>by go_simp;refine⟨Below.refl _ _,?_⟩;refine(HN8.o W hE).mono ?_;rintro e w' ⟨rfl,hb⟩;refine⟨?_,hb⟩;rfl) ?_;refine wG (λW hE hN=>by go_simp;refine⟨Below.refl _ _,?_⟩;rw[HW8.o]) ?_;iterate 2 refine wD ?_
    refine wG (λW hE hN=>by go_simp;refine⟨Below.refl _ _,?_⟩;refine(aaE.o W hE).mono ?_;rintro e w' ⟨rfl,hb⟩;refine⟨?_,hb⟩;rfl) ?_;refine wG (λW hE hN=>by go_simp;refine⟨Below.refl _ _,?_⟩;rw[HWW.o]) ?_;iterate 2 refine wD ?_
    refine wG (λW hE hN=>by go_simp;refine⟨Below.refl _ _,?_⟩;refine(aaF.o W hE).mono ?_;rintro e w' ⟨rfl,hb⟩;refine⟨?_,hb⟩;rfl) ?_;iterate 2 refine wD ?_
    refine wG (λW hE hN=>by go_simp;refine⟨Below.refl _ _,?_⟩;refine(aaG.o W hE).mono ?_;rintro e w' ⟨rfl,hb⟩;refine⟨?_,hb⟩;rfl) ?_;refine wG (λW hE hN=>by go_simp;refine⟨Below.refl _ _,?_⟩;rw[HWW.o]) ?_;iterate 2 refine wD ?_
    refine wG (λW hE hN=>by go_simp;refine⟨Below.refl _ _,?_⟩;refine(aaH.o W hE).mono ?_;rintro e w' ⟨rfl,hb⟩;refine⟨?_,hb⟩;rfl) ?_;refine wG (λW hE hN=>by go_simp;refine⟨Below.refl _ _,?_⟩;rw[HWW.o]) ?_;refine wD ?_;refine aG rfl (dA.later) (by rfl) (λW hE hN=>?_) (λu24=>?_)
    .go_simp;exact dB (cs:=[.int .i64 0, .int .i64 0, .int .i64 0, .int .u64 0, .int .i64 0, .int .i64 0]) hE.size
    simp only[Act.put,pB,pC,pD];refine aj λW4 hE4 hG4=>?_;have L9:=hE4.cF;have Mc:=hE4.fF;obtain⟨p8,rfl,hp8,hk8⟩:=hG4.1;obtain⟨W5,hW5⟩:∃W5,(((((W4.setCell ⟨p8,0,none⟩ (.int .i64 (z4:Int))).setCell ⟨p8,1,none⟩ (.int .i64 (z8:Int))).setCell ⟨p8,2,none⟩ (.int .i64 (wrap64 (z12:Int)))).setCell ⟨p8,3,none⟩ (.int .u64 (z20:Int))).setCell ⟨p8,4,none⟩ (.int .i64 (wrap64 (z28:Int)))).setCell ⟨p8,5,none⟩ (.int .i64 (wrap64 (z36:Int)))=W5:=⟨_,rfl⟩;have hO5:Only p8 W4 W5:=by rw[<- hW5];exact((((((Only.refl p8 W4).set 0 _).set 1 _).set 2 _).set 3 _).set 4 _).set 5 _
    have hk5:Blk W5 p8 [.int .i64 (z4:Int), .int .i64 (z8:Int), .int .i64 (wrap64 (z12:Int)), .int .u64 (z20:Int), .int .i64 (wrap64 (z28:Int)), .int .i64 (wrap64 (z36:Int))] 35:=by rw[<- hW5];exact(((((hk8.set 0 _).set 1 _).set 2 _).set 3 _).set 4 _).set 5 _
    have hb5:Below w3.heap.size w3 W5:=gV hE4 hO5 hE4.size hp8;have q5:=HQ3.o.ext hb5;have HK5:=Hd (HK3.o.ext hb5);have HU5:=Hd (HU3.o.ext hb5);have HB5:=Hd (HB3.o.trans (hb5.mono HB3.o.size));have HN5:=Hd (λW (hb:Below W5.heap.size W5 W)=>HN0.o W (hb5.trans (hb.mono hb5.size)));have cb:W5.cell? ⟨b,o+0,none⟩=w3.cell? ⟨b,o+0,none⟩:=(after hb5).1 b (o+0) hb;have HQ5:=Hd q5;have HW5:=Hd hW5;have ck8:=hk8.cells;have mk8:=hk8.marks;have lk8:=hk8.lt;clear hE4 hG4 c3 m3 l3 L9 Mc hO5 hb5 q5 cb hW5 HN4 HN8 aaE aaF aaG aaH HN0;go_wp2_with fail;rw[HW5.o];have ck5:=hk5.cells;have mk5:=hk5.marks;have lk5:=hk5.lt;have c5:=HQ5.o.cells;have m5:=HQ5.o.marks;have l5:=HQ5.o.lt;clear ck8 mk8 lk8 hk8 hk5 HW5;refine' dX [7] [.inl _, .inl _, .inl _, .inl _, .inl _, .inl _, .inl _, .inl _] kR kR ?fZ
    case fZ=>
     iterate 3 refine wD ?_
     refine wG (λW hE hN=>by go_simp;refine⟨Below.refl _ _,?_⟩;refine(HN5.o W hE).mono ?_;rintro e w' ⟨rfl,hb⟩;refine⟨?_,hb⟩;rfl) ?_;refine wG (λW hE hN=>by go_simp;refine⟨Below.refl _ _,?_⟩;rw[ab8.o]) ?_;refine wE ?_;iterate 2 refine wD ?_
     refine aj λW6 hE6 hG6=>?_;have Ol:=hE6.cF;have Om:=hE6.fF;have hq6:=HQ5.o.ext hE6;have c6:=hq6.cells;have m6:=hq6.marks;have l6:=hq6.lt;have HB6:=Hd (HB5.o.trans (hE6.mono HB5.o.size));have HK6:=Hd (HK5.o.ext hE6);have HU6:=Hd (HU5.o.ext hE6);have hO:=((((((((Only.refl w.heap.size W6).set 0 (.slice ka kn kc)).set 1 (.int .i64 (z0:Int))).set 2 (.int .i64 (z4:Int))).set 3 (.int .i64 (z8:Int))).set 4 (.int .i64 (wrap64 (z12:Int)))).set 5 (.int .u64 (z20:Int))).set 6 (.int .i64 (wrap64 (z28:Int)))).set 7 (.int .i64 (wrap64 (z36:Int)));have HO:=Hd hO;clear hE6 hG6 c5 m5 l5 Ol Om hq6 hO ck5 mk5 lk5;go_wp2_with fail;refine cO ?_;go_wp2;refine bodyPost_ret (v:= .tuple #[QS ka kn kc (PD key r2), .slice ua un uc, .bool true]) (by rw[HKA.o];unfold QS;dsimp only;rw[HHI.o.1,HHI.o.2];simp[results,Tryz.results112,go_sem, *]) rfl ⟨ka,kn,kc,ua,un,uc,rfl,?_,?_,HUP.o,?_⟩
     .exact HK6.o.same HO.o.size (λb h hlt=>HO.o.block b hlt (by have:=HS.o b h;omega))
     .exact HU6.o.same HO.o.size (λb h hlt=>HO.o.block b hlt (by have:=HS.o b h;omega))
     .have h:=HB6.o;have hsz:=h.size;exact(by have hz:=h;exact bV)
end Go.Proofs.YtenmnhnlcnmloaaGreat
