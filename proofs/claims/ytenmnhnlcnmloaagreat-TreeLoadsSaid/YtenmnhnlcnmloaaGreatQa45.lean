/- Part of a proof of a law of the layer of trees. -/
import Derived.Test.YtenmnhnlcnmloaaGreatQa43
import Derived.Test.YtenmnhnlcnmloaaGreatQa44
import Derived.Test.YtenmnhnlcnmloaaGreatQa30
import Derived.Test.YtenmnhnlcnmloaaGreatQa23
import Derived.Test.YtenmnhnlcnmloaaGreatQa25
import Derived.Test.YtenmnhnlcnmloaaGreatQa01
set_option linter.unusedVariables false
set_option linter.unusedSimpArgs false
set_option maxHeartbeats 8000000
set_option maxRecDepth 8000
namespace Go.Dav
open Go Go.RowKit
def BG(w:World)(e:Ending)(w':World):Prop:=e= .returned (.tuple #[.agg #[.bool false, .slice none 0 0, .slice none 0 0], .bool false])/\Below w.heap.size w w'
def Oe(S:Nat->Prop)(w:World)(N:aT)(e:Ending)(w':World):Prop:=
 ∃ia il ic ka kl kc,e= .returned (.tuple #[.agg #[.bool N.leaf, .slice ia il ic, .slice ka kl kc], .bool true])/\bM w' (λb=>S b\/w.heap.size<=b) ia il ic ka kl kc N/\Below w.heap.size w w'
def KG(S:Nat->Prop)(w:World)(O:Option aT)(e:Ending)(w':World):Prop:=match O with
 |none=>BG w e w'
 |some N=>Oe S w N e w'
def jY(x:List UInt8)(v:Value)(W:World):Prop:=∃a n c,v= .slice a n c/\BytesAt W a n c x
theorem jY.later{x:List UInt8}:∀v W W',jY x v W->Below W.heap.size W W'->jY x v W':=λ_ _ _ ⟨a,n,c,h1,h2⟩ hb=>⟨a,n,c,h1,h2.ext hb⟩
theorem jP{w:World}{base e size n:Nat}{v:Value}{xs:List Value}(h:w.ownsRow base e size v n xs):∃a c,v= .slice a n c:=by
 rcases h.2 with⟨h1,h2⟩|⟨g,cap,cur,h1,_⟩
 .exact⟨none,0,by rw[h1,h2]⟩
 .exact⟨_,cap,h1⟩
theorem Ef{k:Nat}{acc:List aP}{l:List UInt8}(h:nO l=none):oK (k+1) acc l=none:=by unfold oK;rw[h]
theorem Eh{k:Nat}{acc:List aP}{l r:List UInt8}{x:aP}(h:nO l=some (x,r)):oK (k+1) acc l=oK k (acc++[x]) r:=by rw[oK,h]
theorem QU{l r:List UInt8}{x:aP}(h:nO l=some (x,r)):eY x.n:=by
 unfold nO at h;split at h
 .cases h
 .split at h
  .cases h
  .split at h
   .cases h;exact wrap64_in _
   .cases h
def RdI(tN tI:TypeId)(S:Nat->Prop)(w:World)(m:Nat)(R:Option (List aP))(rv ix:Value)(wr:World):Prop:=
 ∃(k:Nat) (acc:List aP) (r:List UInt8) (ra:Option Addr) (rn rc:Nat) (cs:List Value) (v:Value),k<=m/\ix= .int .i64 k/\rv= .slice ra rn rc/\au wr S ra rn rc r/\iH ra/\oK (m-k) acc r=R/\wr.ownsRow (w.heap.size+2) tI 4 v k cs/\aS wr S cs acc/\
  Blk wr w.heap.size [.bool false, .slice none 0 0, .slice none 0 0] tN/\Blk wr (w.heap.size+1) [.bool true,v, .slice none 0 0] tN/\Below w.heap.size w wr
end Go.Dav
namespace Go.Proofs.YtenmnhnlcnmloaaGreat
open Go.RowKit Go.Dav
attribute [local go_sem] Gives ite_val ay
theorem yY(a:Option Addr)(n c:Nat)(w:World)(hn:n<2):Calls Tryz.prog 62 #[.slice a n c] w (BG w):=by
 have h1:(n:Int)<2:=oM;go_enter Tryz.func62,Tryz.ntmps62;go_wp2;refine bodyPost_ret (v:= .tuple #[.agg #[.bool false, .slice none 0 0, .slice none 0 0], .bool false]) (by simp[results,Tryz.results62,go_sem]) rfl ⟨rfl,?_⟩;exact bW
theorem CV(S:Nat->Prop)(a:Option Addr)(n c:Nat)(f m:UInt8)(r:List UInt8)(w:World)(hB:au w S a n c (f::m::r))(hm:¬m.toNat<=6):Calls Tryz.prog 62 #[.slice a n c] w (BG w):=by
 have hl:=hB.at_.hlen;simp only[List.length_cons]at hl;have h1:¬(n:Int)<2:=oM;obtain⟨b,o,rfl,hb,hc⟩:=hB.at_.hat 1 m rfl;have h2:(1:Int)<(n:Int):=oM;have h2':1<n:=oM;obtain⟨mm,hmm⟩:∃k,m.toNat=k:=⟨_,rfl⟩;rw[hmm]at hc hm;have h3:(6:Int)<(mm:Int):=oM;clear hB hl hmm hm;go_enter Tryz.func62,Tryz.ntmps62;go_wp2;refine bodyPost_ret (v:= .tuple #[.agg #[.bool false, .slice none 0 0, .slice none 0 0], .bool false]) (by simp[results,Tryz.results62,go_sem]) rfl ⟨rfl,?_⟩;exact bW
theorem BH(S:Nat->Prop)(a:Option Addr)(n c:Nat)(f m:UInt8)(r:List UInt8)(w:World)(hB:au w S a n c (f::m::r))(hf:iH a)(hS:∀b,S b->b<w.heap.size)(hf1:f.toNat=1)(hm:m.toNat<=6):
  Calls Tryz.prog 62 #[.slice a n c] w (KG S w (kS (f::m::r))):=by
 have hl:=hB.at_.hlen;simp only[List.length_cons]at hl;have h1:¬(n:Int)<2:=oM;obtain⟨b,o,e0,hb,hc0⟩:=hB.at_.hat 0 f rfl;obtain⟨b',o',e1,_,hc1⟩:=hB.at_.hat 1 m rfl;rw[e0]at e1;cases e1;subst e0;rw[Nat.add_zero]at hc0;have hcap:=hB.at_.hcap;have hD:=hB.drop (k:=2) oM;have hDp:=hf.adv c 2;have h2:(1:Int)<(n:Int):=oM;have h2':1<n:=oM;have ab9:0<n:=oM;have h22:(2:Int)<=(n:Int):=oM;have h23:(n:Int)<=(c:Int):=oM;obtain⟨mm,hmm⟩:∃k,m.toNat=k:=⟨_,rfl⟩;have hraw:TV (f::m::r)=(oK mm [] r).map (⟨true,·,[]⟩):=by rw[rO,if_pos hm,if_pos hf1,hmm]
 rw[hmm]at hc1 hm;rw[hf1]at hc0;have hm6:(mm:Int)<=6:=oM;have acd:¬(6:Int)<(mm:Int):=oM;have hcc:c=2\/c≠2:=oM;have HB:=Hd hB;have HS:=Hd hS;have HD:=Hd hD;have HDP:=Hd hDp;have pz:=Hd hraw;have HM:=Hd hm;obtain⟨i0,hi0,hz0,hz1,hz2⟩:=info_parts jm;have HI:=Hd (And.intro hi0 (And.intro hz0 (And.intro hz1 hz2)));clear hB hl hmm hm hf hf1 hS hD hDp hraw hi0 hz0 hz1 hz2;obtain⟨O,hO⟩:∃O,kS (f::m::r)=O:=⟨_,rfl⟩;rw[hO];have HOO:=Hd hO;clear hO;by_cases hc2:c=2
 .subst hc2;obtain rfl:n=2:=oM;unfold qR at HD HDP;simp only[if_true]at HD HDP;clear hcc;obtain⟨w2,hw2⟩:∃w2,(w.alloc (.cells #[.bool false, .slice none 0 0, .slice none 0 0] 67)).alloc (.cells #[.bool true, .slice none 0 0, .slice none 0 0] 67)=w2:=⟨_,rfl⟩;have hb2:Below w.heap.size w w2:=by rw[<- hw2];exact bW
  have HQ0:=Hd (show Blk w2 w.heap.size [.bool false, .slice none 0 0, .slice none 0 0] 67 by rw[<- hw2];exact(Blk.new w _ _).alloc _);have HQ1:=Hd (show Blk w2 (w.heap.size+1) [.bool true, .slice none 0 0, .slice none 0 0] 67 by rw[<- hw2];exact Blk.new' _ _ _ (by simp));have HB2:=Hd hb2;have HD2:=Hd (HD.o.ext hb2);have HW2:=Hd hw2;clear hb2 hw2;go_enter Tryz.func62,Tryz.ntmps62;go_wp2_with fail;rw[HW2.o];clear HW2;go_loopw [5,6] (λrv ix wr=>RdI 67 60 S w mm (oK mm [] r) rv ix wr) (λ_ ix _=>mm-(intOf ix).toNat)
  case atStart=>exact⟨0,[],r,(some ⟨b,o,none⟩),0,0,[], .slice none 0 0,Nat.zero_le _,rfl,rfl,HD2.o,HDP.o,rfl,World.ownsRow_nil _ _ _ _,aS.nil,HQ0.o,HQ1.o,HB2.o⟩
  case round=>
   obtain⟨k,acc,rr,ra,rn,rc,cs,v,hk,rfl,rfl,hR,hrp,vZ,hown,hcl,hq0,hq1,hbel⟩:=hrel;have HR:=Hd hR;have HRP:=Hd hrp;have uV:=Hd vZ;have HOW:=Hd hown;have HCL:=Hd hcl;have HQR:=Hd hq0;have HQN:=Hd hq1;have HBL:=Hd hbel;have cm:=((after hbel).1 b (o+1) hb).trans hc1;have c1:=hq1.cells;have m1:=hq1.marks;have l1:=hq1.lt;have hbw:b<wr.heap.size:=Nat.lt_of_lt_of_le hb hbel.size;clear hR hrp vZ hown hcl hq0 hq1 hbel;by_cases hlt:k<mm
   .have hlt':(k:Int)<(mm:Int):=oM;have HLT:=Hd hlt;have hk6:k<=6:=by have:=HM.o;omega
    have HXA:=Hd (Blk.new wr [.slice none 0 0, .slice none 0 0, .bool false, .int .i64 0] 60);have hba:Below wr.heap.size wr (wr.alloc (.cells #[.slice none 0 0, .slice none 0 0, .bool false, .int .i64 0] 60)):=(Below.refl _ _).alloc (Nat.le_refl _) _;have HBA:=Hd hba;have hit:=yN S ra rn rc rr _ (HR.o.ext hba) HRP.o (λb h=>by have:=HS.o b h;have:=HBL.o.size;simp;omega);clear hlt hk hba;cases hi:nO rr with
    |none=>
     have HC:=Hd (hit.1 hi);have HNO:=Hd (show O=none by
      have h:=uV.o;rw[show mm-k=(mm-(k+1))+1 by have:=HLT.o;omega]at h;rw[Ef hi]at h;rw[<- HOO.o];unfold kS;rw[pz.o,<- h];rfl)
     clear hit hi;go_wp2_with fail;(with_reducible refine HC.o.mono ?_);rintro e w3 ⟨rfl,hb3⟩
     clear HC cm c1 m1 l1;have hx3:=HXA.o.ext hb3;obtain⟨w4,hw4⟩:∃w4,(((w3.setCell ⟨wr.heap.size,0,none⟩ (.slice none 0 0)).setCell ⟨wr.heap.size,1,none⟩ (.slice none 0 0)).setCell ⟨wr.heap.size,2,none⟩ (.bool false)).setCell ⟨wr.heap.size,3,none⟩ (.int .i64 0)=w4:=⟨_,rfl⟩;have hx4:Blk w4 wr.heap.size [(.slice none 0 0),(.slice none 0 0),(.bool false),(.int .i64 0)] 60:=by rw[<- hw4];exact(((hx3.set 0 _).set 1 _).set 2 _).set 3 _
     have hO4:Only wr.heap.size w3 w4:=by rw[<- hw4];exact((((Only.refl wr.heap.size w3).set 0 _).set 1 _).set 2 _).set 3 _
     have jK:Below wr.heap.size wr w4:=gV (HBA.o.trans (hb3.mono HBA.o.size)) hO4 (Nat.le_trans HBA.o.size hb3.size) (Nat.le_refl _);have hq0:=HQR.o.ext jK;have hq1:=HQN.o.ext jK;have HB4:=Hd (HBL.o.trans (jK.mono HBL.o.size));have HO4:=Hd ((aK HOW.o jK).alloc (.cells #[(.slice none 0 0),(.slice none 0 0),(.bool false),(.int .i64 0)] 60));have BI:w4.heap.size=w3.heap.size:=by rw[<- hw4];simp
     have HSR:=Hd ((eG (n:=1) (size:=4) (base:=w3.heap.size) (xs:=[(.slice none 0 0),(.slice none 0 0),(.bool false),(.int .i64 0)]) (Blk.new' w4 [_,_,_,_] 60 BI) (Nat.le_refl _) rfl (by unfold maxLen;omega)).cells (g:=w3.heap.size) rfl);have KH:=Hd hq0;have CP:=Hd hq1;have KI:=Hd jK;have HW4:=Hd hw4;have hs4:w.heap.size+2<=w4.heap.size:=by have h1:=jK.size;have h2:=HQN.o.lt;omega
     have HS4:=Hd hs4;have HON:=Hd hO4;have x3:=hx3.cells;have y3:=hx3.marks;have z3:=hx3.lt;have q3:=(HQN.o.ext (HBA.o.trans (hb3.mono HBA.o.size))).cells;have q3m:=(HQN.o.ext (HBA.o.trans (hb3.mono HBA.o.size))).marks;have q3l:=(HQN.o.ext (HBA.o.trans (hb3.mono HBA.o.size))).lt;have hne:wr.heap.size≠w.heap.size+1:=by have:=HQN.o.lt;omega
     have hne':w.heap.size+1≠wr.heap.size:=by have:=HQN.o.lt;omega
     obtain⟨hi0,hz0,hz1,hz2⟩:=HI.o;clear hb3 hx3 hx4 hO4 jK hq0 hq1 hw4 hs4 BI;go_wp2_with (at_builtin;rw[HW4.o];refine wpList_append_own _ rfl (.tmp 44) (.tmp 46) 23 rfl (w.heap.size+2) 60 i0 _ 4 64 Tryz.underlying23 hi0 hz0 hz1 hz2 rfl dC v k cs rfl HO4.o ⟨w3.heap.size,0,none⟩ 1 1 [(.slice none 0 0),(.slice none 0 0),(.bool false),(.int .i64 0)] rfl rfl HSR.o (by intro u hu;simp at hu;rcases hu with rfl|rfl|rfl|rfl<;>rfl) (by unfold maxLen;omega) oM (by have:=HS4.o;simp;omega) ?_;intro v' w6 hown6 hgrow _;obtain⟨v6a,v6c,rfl⟩:=jP hown6;have hb6:Below (w.heap.size+2) w4 w6:=((Below.refl (w.heap.size+2) w4).alloc (by have:=HS4.o;omega) (.cells #[(.slice none 0 0),(.slice none 0 0),(.bool false),(.int .i64 0)] 60)).grown hgrow (by have:=HS4.o;simp;omega) (λk hk=>(HO4.o.lt k hk).1);have q06:=KH.o.below hb6 oM;have q16:=CP.o.below hb6 oM;have HB6:=Hd hb6;have QV:=Hd hown6;have QW:=Hd q06;have QX:=Hd q16;have c6:=q16.cells;have m6:=q16.marks;have l6:=q16.lt;have d6:=q06.cells;have n6:=q06.marks;have o6:=q06.lt;clear hb6 hown6 hgrow q06 q16 x3 y3 z3 q3 q3m q3l)
     have HBE:=Hd (HB4.o.trans (HB6.o.mono oM));refine bodyPost_ret (v:= .tuple #[.agg #[.bool false, .slice none 0 0, .slice none 0 0], .bool false]) (by simp[results,Tryz.results62,go_sem, *]) rfl ?_;rw[HNO.o];refine⟨rfl,?_⟩;have h:=HBE.o;have hsz:=h.size;exact(by have hz:=h;exact bV)
    |some p=>
     obtain⟨x,r'⟩:=p;have HC:=Hd (hit.2 x r' hi);have HXN:=Hd (QU hi);have Ae:=Hd (show oK (mm-(k+1)) (acc++[x]) r'=oK mm [] r by
      have h:=uV.o;rw[show mm-k=(mm-(k+1))+1 by have:=HLT.o;omega,Eh hi]at h;exact h)
     clear hit hi;go_wp2_with fail;(with_reducible refine HC.o.mono ?_);rintro e w3 ⟨ka,kn,kc,va,vn,vc,ta,tn,tc,rfl,hK,hV,hT,htp,hb3⟩
     have HK3:=Hd hK;have HV3:=Hd hV;have HT3:=Hd hT;have HTP:=Hd htp;have HS3:=Hd (show wr.heap.size<=w3.heap.size from Nat.le_trans HBA.o.size hb3.size);clear HC cm c1 m1 l1 hK hV hT htp;simp only[sH];obtain⟨xi,hxi⟩:∃b,x.int=b:=⟨_,rfl⟩;obtain⟨xn,hxn⟩:∃b,x.n=b:=⟨_,rfl⟩;rw[hxi,hxn];have HXI:=Hd (And.intro hxi hxn);clear hxi hxn;have hx3:=HXA.o.ext hb3;obtain⟨w4,hw4⟩:∃w4,(((w3.setCell ⟨wr.heap.size,0,none⟩ (.slice ka kn kc)).setCell ⟨wr.heap.size,1,none⟩ (.slice va vn vc)).setCell ⟨wr.heap.size,2,none⟩ (.bool xi)).setCell ⟨wr.heap.size,3,none⟩ (.int .i64 xn)=w4:=⟨_,rfl⟩;have hx4:Blk w4 wr.heap.size [(.slice ka kn kc),(.slice va vn vc),(.bool xi),(.int .i64 xn)] 60:=by rw[<- hw4];exact(((hx3.set 0 _).set 1 _).set 2 _).set 3 _
     have hO4:Only wr.heap.size w3 w4:=by rw[<- hw4];exact((((Only.refl wr.heap.size w3).set 0 _).set 1 _).set 2 _).set 3 _
     have jK:Below wr.heap.size wr w4:=gV (HBA.o.trans (hb3.mono HBA.o.size)) hO4 (Nat.le_trans HBA.o.size hb3.size) (Nat.le_refl _);have hq0:=HQR.o.ext jK;have hq1:=HQN.o.ext jK;have HB4:=Hd (HBL.o.trans (jK.mono HBL.o.size));have HO4:=Hd ((aK HOW.o jK).alloc (.cells #[(.slice ka kn kc),(.slice va vn vc),(.bool xi),(.int .i64 xn)] 60));have BI:w4.heap.size=w3.heap.size:=by rw[<- hw4];simp
     have HSR:=Hd ((eG (n:=1) (size:=4) (base:=w3.heap.size) (xs:=[(.slice ka kn kc),(.slice va vn vc),(.bool xi),(.int .i64 xn)]) (Blk.new' w4 [_,_,_,_] 60 BI) (Nat.le_refl _) rfl (by unfold maxLen;omega)).cells (g:=w3.heap.size) rfl);have KH:=Hd hq0;have CP:=Hd hq1;have KI:=Hd jK;have HW4:=Hd hw4;have hs4:w.heap.size+2<=w4.heap.size:=by have h1:=jK.size;have h2:=HQN.o.lt;omega
     have HS4:=Hd hs4;have HON:=Hd hO4;have x3:=hx3.cells;have y3:=hx3.marks;have z3:=hx3.lt;have q3:=(HQN.o.ext (HBA.o.trans (hb3.mono HBA.o.size))).cells;have q3m:=(HQN.o.ext (HBA.o.trans (hb3.mono HBA.o.size))).marks;have q3l:=(HQN.o.ext (HBA.o.trans (hb3.mono HBA.o.size))).lt;have hne:wr.heap.size≠w.heap.size+1:=by have:=HQN.o.lt;omega
     have hne':w.heap.size+1≠wr.heap.size:=by have:=HQN.o.lt;omega
     obtain⟨hi0,hz0,hz1,hz2⟩:=HI.o;clear hb3 hx3 hx4 hO4 jK hq0 hq1 hw4 hs4 BI;go_wp2_with (at_builtin;rw[HW4.o];refine wpList_append_own _ rfl (.tmp 44) (.tmp 46) 23 rfl (w.heap.size+2) 60 i0 _ 4 64 Tryz.underlying23 hi0 hz0 hz1 hz2 rfl dC v k cs rfl HO4.o ⟨w3.heap.size,0,none⟩ 1 1 [(.slice ka kn kc),(.slice va vn vc),(.bool xi),(.int .i64 xn)] rfl rfl HSR.o (by intro u hu;simp at hu;rcases hu with rfl|rfl|rfl|rfl<;>rfl) (by unfold maxLen;omega) oM (by have:=HS4.o;simp;omega) ?_;intro v' w6 hown6 hgrow _;obtain⟨v6a,v6c,rfl⟩:=jP hown6;have hb6:Below (w.heap.size+2) w4 w6:=((Below.refl (w.heap.size+2) w4).alloc (by have:=HS4.o;omega) (.cells #[(.slice ka kn kc),(.slice va vn vc),(.bool xi),(.int .i64 xn)] 60)).grown hgrow (by have:=HS4.o;simp;omega) (λk hk=>(HO4.o.lt k hk).1);have q06:=KH.o.below hb6 oM;have q16:=CP.o.below hb6 oM;have HB6:=Hd hb6;have QV:=Hd hown6;have QW:=Hd q06;have QX:=Hd q16;have c6:=q16.cells;have m6:=q16.marks;have l6:=q16.lt;have d6:=q06.cells;have n6:=q06.marks;have o6:=q06.lt;clear hb6 hown6 hgrow q06 q16 x3 y3 z3 q3 q3m q3l)
     have hsz:w.heap.size+2<=wr.heap.size:=by have:=HQN.o.lt;omega
     have hkeep:∀j,j<w.heap.size->(w6.setCell ⟨w.heap.size+1,1,none⟩ (.slice v6a (k+1) v6c)).heap[j]? =w3.heap[j]?:=λj hj=>
      (Below.heap_setCell w6 ⟨w.heap.size+1,1,none⟩ _ j (λe=>by have e2:j=w.heap.size+1:=e;omega)).trans ((HB6.o.block j oM).trans (HON.o.block j (by have:=HS3.o;omega) oM))
     have hgw:w3.heap.size<=(w6.setCell ⟨w.heap.size+1,1,none⟩ (.slice v6a (k+1) v6c)).heap.size:=by have h1:=HON.o.size;have h2:=HB6.o.size;simp;omega
     have hkr:∀j,j<w.heap.size->(w6.setCell ⟨w.heap.size+1,1,none⟩ (.slice v6a (k+1) v6c)).heap[j]? =wr.heap[j]?:=λj hj=>
      (Below.heap_setCell w6 ⟨w.heap.size+1,1,none⟩ _ j (λe=>by have e2:j=w.heap.size+1:=e;omega)).trans ((HB6.o.block j oM).trans (KI.o.block j oM))
     have hgr:wr.heap.size<=(w6.setCell ⟨w.heap.size+1,1,none⟩ (.slice v6a (k+1) v6c)).heap.size:=by have h1:=KI.o.size;have h2:=HB6.o.size;simp;omega
     have HBE:=Hd ((HB4.o.trans (HB6.o.mono oM)).setCell (p:=⟨w.heap.size+1,1,none⟩) (by show w.heap.size<=w.heap.size+1;omega) (.slice v6a (k+1) v6c));have HT7:=Hd (HT3.o.same hgw λb h _=>hkeep b (HS.o b h));have HC7:=Hd ((HCL.o.same hgr λb h _=>hkr b (HS.o b h)).snoc (x:=x) (HK3.o.same hgw λb h _=>hkeep b (HS.o b h)) (HV3.o.same hgw λb h _=>hkeep b (HS.o b h)) HXN.o);rw[HXI.o.1,HXI.o.2]at HC7;have HO7:=Hd (ownsRow_setCell_below QV.o (a:=⟨w.heap.size+1,1,none⟩) (by show w.heap.size+1<w.heap.size+2;omega) (.slice v6a (k+1) v6c));clear hkeep hgw hkr hgr;go_roundw
     case rel=>exact⟨k+1,acc++[x],r',ta,tn,tc,_,_,HLT.o,by go_num,rfl,HT7.o,HTP.o,Ae.o,HO7.o,HC7.o,QW.o.other oM _ _,QX.o.set 1 _,HBE.o⟩
     case measure=>simp[intOf];have:=HLT.o;omega
   .obtain rfl:k=mm:=oM;have hlt':¬(k:Int)<(k:Int):=oM;obtain⟨ia,ic,rfl,hIS⟩:=HCL.o.shut HOW.o (by have:=HM.o;omega);have hNS:bM wr (λb=>S b\/w.heap.size+2<=b) ia k ic none 0 0 ⟨true,acc,[]⟩:=⟨hIS,dZ.nil_⟩;have hO:O=if bI ⟨true,acc,[]⟩=true/\aJ ⟨true,acc,[]⟩=f::m::r then some ⟨true,acc,[]⟩else none:=by
     have h:=uV.o;rw[Nat.sub_self]at h;rw[<- HOO.o];unfold kS;rw[pz.o,<- h];rfl
    obtain⟨N,hN⟩:∃N:aT,(⟨true,acc,[]⟩:aT)=N:=⟨_,rfl⟩;have hlf:N.leaf=true:=by rw[<- hN]
    rw[hN]at hNS hO;have HNS:=Hd hNS;have HLF:=Hd hlf;have HOE:=Hd hO;have HBR:=Hd (HB.o.at_.ext HBL.o);have d1:=HQR.o.cells;have n1:=HQR.o.marks;have o1:=HQR.o.lt;obtain⟨ls,hls⟩:∃ls,f::m::r=ls:=⟨_,rfl⟩;rw[hls]at HOE HBR;clear hlt hk hIS hNS hO hN hlf hls;cases hok:bI N with
    |false=>
     have HNO:=Hd (show O=none by rw[HOE.o,if_neg (by rw[hok];simp)]);have HOK:=Hd hok;clear hok;go_wp2_with fail;refine' ah [.inl _, .inl _, .inl _, .inl _, .inl undef, .inl undef, .inl undef, .inl undef, .inl undef, .inl undef, .inl _] kR kR ?dN
     case dN=>
      refine wE ?_;refine wG (λW hE hN=>by go_simp;refine⟨Below.refl _ _,?_⟩;have h:=fK N ia none k ic 0 0 _ W (HNS.o.ext hE);rw[HLF.o,HOK.o]at h;refine h.mono ?_;rintro e w' ⟨rfl,hb⟩;refine⟨?_,hb⟩;rfl) ?_;iterate 2 refine wD ?_
      iterate 6 refine wS ?_
      refine wD ?_;refine aj λW9 hE9 hG9=>?_;have BJ:=hE9.cF;have BK:=hE9.fF;have q9:=HQR.o.ext hE9;have e9:=q9.cells;have g9:=q9.marks;have h9:=q9.lt;have HB9:=Hd (HBL.o.trans (hE9.mono HBL.o.size));clear hE9 hG9 BJ BK c1 m1 l1 d1 n1 o1 cm q9;go_wp2;refine bodyPost_ret (v:= .tuple #[.agg #[.bool false, .slice none 0 0, .slice none 0 0], .bool false]) (by simp[results,Tryz.results62,go_sem, *]) rfl ?_;rw[HNO.o];refine⟨rfl,?_⟩;have h:=HB9.o;have hsz:=h.size;exact(by have hz:=h;exact bV)
    |true=>
     have HOK:=Hd hok;clear hok;obtain⟨q,hq⟩:∃q,decide (aJ N=ls)=q:=⟨_,rfl⟩;have hq1:(aJ N==ls)=q:=by rw[gQ,hq]
     have hq2:(aJ N !=ls)= !q:=by rw[bne,gQ,hq]
     have HQQ:=Hd hq;clear hq;cases q with
     |false=>
      have HNO:=Hd (show O=none by rw[HOE.o,if_neg (λh=>of_decide_eq_false HQQ.o h.2)]);go_wp2_with fail;refine' ah [.inl _, .inl _, .inl _, .inl _, .inl _, .inr (jY (aJ N)), .inl _, .inl _, .inl _, .inl _, .inl _] kR kR ?fZ
      case fZ=>
       refine wE ?_;refine wG (λW hE hN=>by go_simp;refine⟨Below.refl _ _,?_⟩;have h:=fK N ia none k ic 0 0 _ W (HNS.o.ext hE);rw[HLF.o,HOK.o]at h;refine h.mono ?_;rintro e w' ⟨rfl,hb⟩;refine⟨?_,hb⟩;rfl) ?_;iterate 2 refine wD ?_
       refine wE ?_;refine aG rfl (jY.later) (by rfl) (λW hE hN=>?_) (λu5=>?_)
       .go_simp;refine⟨Below.refl _ _,?_⟩;have h:=gB N ia none k ic 0 0 _ W (HNS.o.ext hE).s (λb h=>h) (oz HOK.o);rw[HLF.o]at h;refine h.mono ?_;rintro e w' ⟨ea,en,ec,rfl,hK,hb⟩;exact⟨_,rfl,hb,ea,en,ec,rfl,hK.at_⟩
       simp only[Act.put,pB,pC,pD];refine wG (λW hE hN=>by simp[near,Oper.looksAt,Op.operands,Call.operands]at hN;obtain⟨ea,en,ec,rfl,hK⟩:=hN;have k1:=aO hK 22 9 5 Tryz.underlying22 Tryz.underlying5 Tryz.underlying9;exact gF) ?_;refine wD ?_;refine wG (λW hE hN=>by have k1:=aO (HBR.o.ext hE) 22 9 5 Tryz.underlying22 Tryz.underlying5 Tryz.underlying9;exact gF) ?_;iterate 2 refine wD ?_
       refine aj λW9 hE9 hG9=>?_;have BJ:=hE9.cF;have BK:=hE9.fF;have q9:=HQR.o.ext hE9;have e9:=q9.cells;have g9:=q9.marks;have h9:=q9.lt;have HB9:=Hd (HBL.o.trans (hE9.mono HBL.o.size));clear hE9 hG9 BJ BK c1 m1 l1 d1 n1 o1 cm q9;go_wp2;refine bodyPost_ret (v:= .tuple #[.agg #[.bool false, .slice none 0 0, .slice none 0 0], .bool false]) (by simp[results,Tryz.results62,go_sem, *]) rfl ?_;rw[HNO.o];refine⟨rfl,?_⟩;have h:=HB9.o;have hsz:=h.size;exact(by have hz:=h;exact bV)
     |true=>
      have TL:=Hd (show O=some N by rw[HOE.o,if_pos ⟨HOK.o,of_decide_eq_true HQQ.o⟩]);go_wp2_with fail;refine' ah [.inl _, .inl _, .inl _, .inl _, .inl _, .inr (jY (aJ N)), .inl _, .inl _, .inl _, .inl _, .inl _] kR kR ?iT
      case iT=>
       refine wE ?_;refine wG (λW hE hN=>by go_simp;refine⟨Below.refl _ _,?_⟩;have h:=fK N ia none k ic 0 0 _ W (HNS.o.ext hE);rw[HLF.o,HOK.o]at h;refine h.mono ?_;rintro e w' ⟨rfl,hb⟩;refine⟨?_,hb⟩;rfl) ?_;iterate 2 refine wD ?_
       refine wE ?_;refine aG rfl (jY.later) (by rfl) (λW hE hN=>?_) (λu5=>?_)
       .go_simp;refine⟨Below.refl _ _,?_⟩;have h:=gB N ia none k ic 0 0 _ W (HNS.o.ext hE).s (λb h=>h) (oz HOK.o);rw[HLF.o]at h;refine h.mono ?_;rintro e w' ⟨ea,en,ec,rfl,hK,hb⟩;exact⟨_,rfl,hb,ea,en,ec,rfl,hK.at_⟩
       simp only[Act.put,pB,pC,pD];refine wG (λW hE hN=>by simp[near,Oper.looksAt,Op.operands,Call.operands]at hN;obtain⟨ea,en,ec,rfl,hK⟩:=hN;have k1:=aO hK 22 9 5 Tryz.underlying22 Tryz.underlying5 Tryz.underlying9;exact gF) ?_;refine wD ?_;refine wG (λW hE hN=>by have k1:=aO (HBR.o.ext hE) 22 9 5 Tryz.underlying22 Tryz.underlying5 Tryz.underlying9;exact gF) ?_;iterate 2 refine wD ?_
       refine aj λW9 hE9 hG9=>?_;have BJ:=hE9.cF;have BK:=hE9.fF;have q9:=HQR.o.ext hE9;have e9:=q9.cells;have g9:=q9.marks;have h9:=q9.lt;have p9:=HQN.o.ext hE9;have e8:=p9.cells;have g8:=p9.marks;have h8:=p9.lt;have Vx:=Hd (HNS.o.ext hE9);have HB9:=Hd (HBL.o.trans (hE9.mono HBL.o.size));have hO9:=((((Only.refl w.heap.size W9).set 0 (.bool true)).set 1 (.slice ia k ic)).set 2 (.slice none 0 0));have HO9:=Hd hO9;clear hE9 hG9 BJ BK c1 m1 l1 d1 n1 o1 cm q9 p9 hO9;go_wp2;refine bodyPost_ret (v:= .tuple #[.agg #[.bool true, .slice ia k ic, .slice none 0 0], .bool true]) (by simp[results,Tryz.results62,go_sem, *]) rfl ?_;rw[TL.o];refine⟨ia,k,ic,none,0,0,by rw[HLF.o],(Vx.o.same HO9.o.size (λb h hlt=>HO9.o.block b hlt (by rcases h with h|h;(have:=HS.o b h;omega);omega))).mono (λb h=>h.imp id λh=>oM),?_⟩;have h:=HB9.o;have hsz:=h.size;exact(by have hz:=h;exact bV)
 .skip
  unfold qR at HD HDP;simp only[if_neg hc2]at HD HDP;have hc2':¬c-2=0:=oM;clear hcc;obtain⟨w2,hw2⟩:∃w2,(w.alloc (.cells #[.bool false, .slice none 0 0, .slice none 0 0] 67)).alloc (.cells #[.bool true, .slice none 0 0, .slice none 0 0] 67)=w2:=⟨_,rfl⟩;have hb2:Below w.heap.size w w2:=by rw[<- hw2];exact bW
  have HQ0:=Hd (show Blk w2 w.heap.size [.bool false, .slice none 0 0, .slice none 0 0] 67 by rw[<- hw2];exact(Blk.new w _ _).alloc _);have HQ1:=Hd (show Blk w2 (w.heap.size+1) [.bool true, .slice none 0 0, .slice none 0 0] 67 by rw[<- hw2];exact Blk.new' _ _ _ (by simp));have HB2:=Hd hb2;have HD2:=Hd (HD.o.ext hb2);have HW2:=Hd hw2;clear hb2 hw2;go_enter Tryz.func62,Tryz.ntmps62;go_wp2_with fail;rw[HW2.o];clear HW2;go_loopw [5,6] (λrv ix wr=>RdI 67 60 S w mm (oK mm [] r) rv ix wr) (λ_ ix _=>mm-(intOf ix).toNat)
  case atStart=>exact⟨0,[],r,(some ⟨b,o+2,none⟩),(n-2),(c-2),[], .slice none 0 0,Nat.zero_le _,rfl,rfl,HD2.o,HDP.o,rfl,World.ownsRow_nil _ _ _ _,aS.nil,HQ0.o,HQ1.o,HB2.o⟩
  case round=>
   obtain⟨k,acc,rr,ra,rn,rc,cs,v,hk,rfl,rfl,hR,hrp,vZ,hown,hcl,hq0,hq1,hbel⟩:=hrel;have HR:=Hd hR;have HRP:=Hd hrp;have uV:=Hd vZ;have HOW:=Hd hown;have HCL:=Hd hcl;have HQR:=Hd hq0;have HQN:=Hd hq1;have HBL:=Hd hbel;have cm:=((after hbel).1 b (o+1) hb).trans hc1;have c1:=hq1.cells;have m1:=hq1.marks;have l1:=hq1.lt;have hbw:b<wr.heap.size:=Nat.lt_of_lt_of_le hb hbel.size;clear hR hrp vZ hown hcl hq0 hq1 hbel;by_cases hlt:k<mm
   .have hlt':(k:Int)<(mm:Int):=oM;have HLT:=Hd hlt;have hk6:k<=6:=by have:=HM.o;omega
    have HXA:=Hd (Blk.new wr [.slice none 0 0, .slice none 0 0, .bool false, .int .i64 0] 60);have hba:Below wr.heap.size wr (wr.alloc (.cells #[.slice none 0 0, .slice none 0 0, .bool false, .int .i64 0] 60)):=(Below.refl _ _).alloc (Nat.le_refl _) _;have HBA:=Hd hba;have hit:=yN S ra rn rc rr _ (HR.o.ext hba) HRP.o (λb h=>by have:=HS.o b h;have:=HBL.o.size;simp;omega);clear hlt hk hba;cases hi:nO rr with
    |none=>
     have HC:=Hd (hit.1 hi);have HNO:=Hd (show O=none by
      have h:=uV.o;rw[show mm-k=(mm-(k+1))+1 by have:=HLT.o;omega]at h;rw[Ef hi]at h;rw[<- HOO.o];unfold kS;rw[pz.o,<- h];rfl)
     clear hit hi;go_wp2_with fail;(with_reducible refine HC.o.mono ?_);rintro e w3 ⟨rfl,hb3⟩
     clear HC cm c1 m1 l1;have hx3:=HXA.o.ext hb3;obtain⟨w4,hw4⟩:∃w4,(((w3.setCell ⟨wr.heap.size,0,none⟩ (.slice none 0 0)).setCell ⟨wr.heap.size,1,none⟩ (.slice none 0 0)).setCell ⟨wr.heap.size,2,none⟩ (.bool false)).setCell ⟨wr.heap.size,3,none⟩ (.int .i64 0)=w4:=⟨_,rfl⟩;have hx4:Blk w4 wr.heap.size [(.slice none 0 0),(.slice none 0 0),(.bool false),(.int .i64 0)] 60:=by rw[<- hw4];exact(((hx3.set 0 _).set 1 _).set 2 _).set 3 _
     have hO4:Only wr.heap.size w3 w4:=by rw[<- hw4];exact((((Only.refl wr.heap.size w3).set 0 _).set 1 _).set 2 _).set 3 _
     have jK:Below wr.heap.size wr w4:=gV (HBA.o.trans (hb3.mono HBA.o.size)) hO4 (Nat.le_trans HBA.o.size hb3.size) (Nat.le_refl _);have hq0:=HQR.o.ext jK;have hq1:=HQN.o.ext jK;have HB4:=Hd (HBL.o.trans (jK.mono HBL.o.size));have HO4:=Hd ((aK HOW.o jK).alloc (.cells #[(.slice none 0 0),(.slice none 0 0),(.bool false),(.int .i64 0)] 60));have BI:w4.heap.size=w3.heap.size:=by rw[<- hw4];simp
     have HSR:=Hd ((eG (n:=1) (size:=4) (base:=w3.heap.size) (xs:=[(.slice none 0 0),(.slice none 0 0),(.bool false),(.int .i64 0)]) (Blk.new' w4 [_,_,_,_] 60 BI) (Nat.le_refl _) rfl (by unfold maxLen;omega)).cells (g:=w3.heap.size) rfl);have KH:=Hd hq0;have CP:=Hd hq1;have KI:=Hd jK;have HW4:=Hd hw4;have hs4:w.heap.size+2<=w4.heap.size:=by have h1:=jK.size;have h2:=HQN.o.lt;omega
     have HS4:=Hd hs4;have HON:=Hd hO4;have x3:=hx3.cells;have y3:=hx3.marks;have z3:=hx3.lt;have q3:=(HQN.o.ext (HBA.o.trans (hb3.mono HBA.o.size))).cells;have q3m:=(HQN.o.ext (HBA.o.trans (hb3.mono HBA.o.size))).marks;have q3l:=(HQN.o.ext (HBA.o.trans (hb3.mono HBA.o.size))).lt;have hne:wr.heap.size≠w.heap.size+1:=by have:=HQN.o.lt;omega
     have hne':w.heap.size+1≠wr.heap.size:=by have:=HQN.o.lt;omega
     obtain⟨hi0,hz0,hz1,hz2⟩:=HI.o;clear hb3 hx3 hx4 hO4 jK hq0 hq1 hw4 hs4 BI;go_wp2_with (at_builtin;rw[HW4.o];refine wpList_append_own _ rfl (.tmp 44) (.tmp 46) 23 rfl (w.heap.size+2) 60 i0 _ 4 64 Tryz.underlying23 hi0 hz0 hz1 hz2 rfl dC v k cs rfl HO4.o ⟨w3.heap.size,0,none⟩ 1 1 [(.slice none 0 0),(.slice none 0 0),(.bool false),(.int .i64 0)] rfl rfl HSR.o (by intro u hu;simp at hu;rcases hu with rfl|rfl|rfl|rfl<;>rfl) (by unfold maxLen;omega) oM (by have:=HS4.o;simp;omega) ?_;intro v' w6 hown6 hgrow _;obtain⟨v6a,v6c,rfl⟩:=jP hown6;have hb6:Below (w.heap.size+2) w4 w6:=((Below.refl (w.heap.size+2) w4).alloc (by have:=HS4.o;omega) (.cells #[(.slice none 0 0),(.slice none 0 0),(.bool false),(.int .i64 0)] 60)).grown hgrow (by have:=HS4.o;simp;omega) (λk hk=>(HO4.o.lt k hk).1);have q06:=KH.o.below hb6 oM;have q16:=CP.o.below hb6 oM;have HB6:=Hd hb6;have QV:=Hd hown6;have QW:=Hd q06;have QX:=Hd q16;have c6:=q16.cells;have m6:=q16.marks;have l6:=q16.lt;have d6:=q06.cells;have n6:=q06.marks;have o6:=q06.lt;clear hb6 hown6 hgrow q06 q16 x3 y3 z3 q3 q3m q3l)
     have HBE:=Hd (HB4.o.trans (HB6.o.mono oM));refine bodyPost_ret (v:= .tuple #[.agg #[.bool false, .slice none 0 0, .slice none 0 0], .bool false]) (by simp[results,Tryz.results62,go_sem, *]) rfl ?_;rw[HNO.o];refine⟨rfl,?_⟩;have h:=HBE.o;have hsz:=h.size;exact(by have hz:=h;exact bV)
    |some p=>
     obtain⟨x,r'⟩:=p;have HC:=Hd (hit.2 x r' hi);have HXN:=Hd (QU hi);have Ae:=Hd (show oK (mm-(k+1)) (acc++[x]) r'=oK mm [] r by
      have h:=uV.o;rw[show mm-k=(mm-(k+1))+1 by have:=HLT.o;omega,Eh hi]at h;exact h)
     clear hit hi;go_wp2_with fail;(with_reducible refine HC.o.mono ?_);rintro e w3 ⟨ka,kn,kc,va,vn,vc,ta,tn,tc,rfl,hK,hV,hT,htp,hb3⟩
     have HK3:=Hd hK;have HV3:=Hd hV;have HT3:=Hd hT;have HTP:=Hd htp;have HS3:=Hd (show wr.heap.size<=w3.heap.size from Nat.le_trans HBA.o.size hb3.size);clear HC cm c1 m1 l1 hK hV hT htp;simp only[sH];obtain⟨xi,hxi⟩:∃b,x.int=b:=⟨_,rfl⟩;obtain⟨xn,hxn⟩:∃b,x.n=b:=⟨_,rfl⟩;rw[hxi,hxn];have HXI:=Hd (And.intro hxi hxn);clear hxi hxn;have hx3:=HXA.o.ext hb3;obtain⟨w4,hw4⟩:∃w4,(((w3.setCell ⟨wr.heap.size,0,none⟩ (.slice ka kn kc)).setCell ⟨wr.heap.size,1,none⟩ (.slice va vn vc)).setCell ⟨wr.heap.size,2,none⟩ (.bool xi)).setCell ⟨wr.heap.size,3,none⟩ (.int .i64 xn)=w4:=⟨_,rfl⟩;have hx4:Blk w4 wr.heap.size [(.slice ka kn kc),(.slice va vn vc),(.bool xi),(.int .i64 xn)] 60:=by rw[<- hw4];exact(((hx3.set 0 _).set 1 _).set 2 _).set 3 _
     have hO4:Only wr.heap.size w3 w4:=by rw[<- hw4];exact((((Only.refl wr.heap.size w3).set 0 _).set 1 _).set 2 _).set 3 _
     have jK:Below wr.heap.size wr w4:=gV (HBA.o.trans (hb3.mono HBA.o.size)) hO4 (Nat.le_trans HBA.o.size hb3.size) (Nat.le_refl _);have hq0:=HQR.o.ext jK;have hq1:=HQN.o.ext jK;have HB4:=Hd (HBL.o.trans (jK.mono HBL.o.size));have HO4:=Hd ((aK HOW.o jK).alloc (.cells #[(.slice ka kn kc),(.slice va vn vc),(.bool xi),(.int .i64 xn)] 60));have BI:w4.heap.size=w3.heap.size:=by rw[<- hw4];simp
     have HSR:=Hd ((eG (n:=1) (size:=4) (base:=w3.heap.size) (xs:=[(.slice ka kn kc),(.slice va vn vc),(.bool xi),(.int .i64 xn)]) (Blk.new' w4 [_,_,_,_] 60 BI) (Nat.le_refl _) rfl (by unfold maxLen;omega)).cells (g:=w3.heap.size) rfl);have KH:=Hd hq0;have CP:=Hd hq1;have KI:=Hd jK;have HW4:=Hd hw4;have hs4:w.heap.size+2<=w4.heap.size:=by have h1:=jK.size;have h2:=HQN.o.lt;omega
     have HS4:=Hd hs4;have HON:=Hd hO4;have x3:=hx3.cells;have y3:=hx3.marks;have z3:=hx3.lt;have q3:=(HQN.o.ext (HBA.o.trans (hb3.mono HBA.o.size))).cells;have q3m:=(HQN.o.ext (HBA.o.trans (hb3.mono HBA.o.size))).marks;have q3l:=(HQN.o.ext (HBA.o.trans (hb3.mono HBA.o.size))).lt;have hne:wr.heap.size≠w.heap.size+1:=by have:=HQN.o.lt;omega
     have hne':w.heap.size+1≠wr.heap.size:=by have:=HQN.o.lt;omega
     obtain⟨hi0,hz0,hz1,hz2⟩:=HI.o;clear hb3 hx3 hx4 hO4 jK hq0 hq1 hw4 hs4 BI;go_wp2_with (at_builtin;rw[HW4.o];refine wpList_append_own _ rfl (.tmp 44) (.tmp 46) 23 rfl (w.heap.size+2) 60 i0 _ 4 64 Tryz.underlying23 hi0 hz0 hz1 hz2 rfl dC v k cs rfl HO4.o ⟨w3.heap.size,0,none⟩ 1 1 [(.slice ka kn kc),(.slice va vn vc),(.bool xi),(.int .i64 xn)] rfl rfl HSR.o (by intro u hu;simp at hu;rcases hu with rfl|rfl|rfl|rfl<;>rfl) (by unfold maxLen;omega) oM (by have:=HS4.o;simp;omega) ?_;intro v' w6 hown6 hgrow _;obtain⟨v6a,v6c,rfl⟩:=jP hown6;have hb6:Below (w.heap.size+2) w4 w6:=((Below.refl (w.heap.size+2) w4).alloc (by have:=HS4.o;omega) (.cells #[(.slice ka kn kc),(.slice va vn vc),(.bool xi),(.int .i64 xn)] 60)).grown hgrow (by have:=HS4.o;simp;omega) (λk hk=>(HO4.o.lt k hk).1);have q06:=KH.o.below hb6 oM;have q16:=CP.o.below hb6 oM;have HB6:=Hd hb6;have QV:=Hd hown6;have QW:=Hd q06;have QX:=Hd q16;have c6:=q16.cells;have m6:=q16.marks;have l6:=q16.lt;have d6:=q06.cells;have n6:=q06.marks;have o6:=q06.lt;clear hb6 hown6 hgrow q06 q16 x3 y3 z3 q3 q3m q3l)
     have hsz:w.heap.size+2<=wr.heap.size:=by have:=HQN.o.lt;omega
     have hkeep:∀j,j<w.heap.size->(w6.setCell ⟨w.heap.size+1,1,none⟩ (.slice v6a (k+1) v6c)).heap[j]? =w3.heap[j]?:=λj hj=>
      (Below.heap_setCell w6 ⟨w.heap.size+1,1,none⟩ _ j (λe=>by have e2:j=w.heap.size+1:=e;omega)).trans ((HB6.o.block j oM).trans (HON.o.block j (by have:=HS3.o;omega) oM))
     have hgw:w3.heap.size<=(w6.setCell ⟨w.heap.size+1,1,none⟩ (.slice v6a (k+1) v6c)).heap.size:=by have h1:=HON.o.size;have h2:=HB6.o.size;simp;omega
     have hkr:∀j,j<w.heap.size->(w6.setCell ⟨w.heap.size+1,1,none⟩ (.slice v6a (k+1) v6c)).heap[j]? =wr.heap[j]?:=λj hj=>
      (Below.heap_setCell w6 ⟨w.heap.size+1,1,none⟩ _ j (λe=>by have e2:j=w.heap.size+1:=e;omega)).trans ((HB6.o.block j oM).trans (KI.o.block j oM))
     have hgr:wr.heap.size<=(w6.setCell ⟨w.heap.size+1,1,none⟩ (.slice v6a (k+1) v6c)).heap.size:=by have h1:=KI.o.size;have h2:=HB6.o.size;simp;omega
     have HBE:=Hd ((HB4.o.trans (HB6.o.mono oM)).setCell (p:=⟨w.heap.size+1,1,none⟩) (by show w.heap.size<=w.heap.size+1;omega) (.slice v6a (k+1) v6c));have HT7:=Hd (HT3.o.same hgw λb h _=>hkeep b (HS.o b h));have HC7:=Hd ((HCL.o.same hgr λb h _=>hkr b (HS.o b h)).snoc (x:=x) (HK3.o.same hgw λb h _=>hkeep b (HS.o b h)) (HV3.o.same hgw λb h _=>hkeep b (HS.o b h)) HXN.o);rw[HXI.o.1,HXI.o.2]at HC7;have HO7:=Hd (ownsRow_setCell_below QV.o (a:=⟨w.heap.size+1,1,none⟩) (by show w.heap.size+1<w.heap.size+2;omega) (.slice v6a (k+1) v6c));clear hkeep hgw hkr hgr;go_roundw
     case rel=>exact⟨k+1,acc++[x],r',ta,tn,tc,_,_,HLT.o,by go_num,rfl,HT7.o,HTP.o,Ae.o,HO7.o,HC7.o,QW.o.other oM _ _,QX.o.set 1 _,HBE.o⟩
     case measure=>simp[intOf];have:=HLT.o;omega
   .obtain rfl:k=mm:=oM;have hlt':¬(k:Int)<(k:Int):=oM;obtain⟨ia,ic,rfl,hIS⟩:=HCL.o.shut HOW.o (by have:=HM.o;omega);have hNS:bM wr (λb=>S b\/w.heap.size+2<=b) ia k ic none 0 0 ⟨true,acc,[]⟩:=⟨hIS,dZ.nil_⟩;have hO:O=if bI ⟨true,acc,[]⟩=true/\aJ ⟨true,acc,[]⟩=f::m::r then some ⟨true,acc,[]⟩else none:=by
     have h:=uV.o;rw[Nat.sub_self]at h;rw[<- HOO.o];unfold kS;rw[pz.o,<- h];rfl
    obtain⟨N,hN⟩:∃N:aT,(⟨true,acc,[]⟩:aT)=N:=⟨_,rfl⟩;have hlf:N.leaf=true:=by rw[<- hN]
    rw[hN]at hNS hO;have HNS:=Hd hNS;have HLF:=Hd hlf;have HOE:=Hd hO;have HBR:=Hd (HB.o.at_.ext HBL.o);have d1:=HQR.o.cells;have n1:=HQR.o.marks;have o1:=HQR.o.lt;obtain⟨ls,hls⟩:∃ls,f::m::r=ls:=⟨_,rfl⟩;rw[hls]at HOE HBR;clear hlt hk hIS hNS hO hN hlf hls;cases hok:bI N with
    |false=>
     have HNO:=Hd (show O=none by rw[HOE.o,if_neg (by rw[hok];simp)]);have HOK:=Hd hok;clear hok;go_wp2_with fail;refine' ah [.inl _, .inl _, .inl _, .inl _, .inl undef, .inl undef, .inl undef, .inl undef, .inl undef, .inl undef, .inl _] kR kR ?jI
     case jI=>
      refine wE ?_;refine wG (λW hE hN=>by go_simp;refine⟨Below.refl _ _,?_⟩;have h:=fK N ia none k ic 0 0 _ W (HNS.o.ext hE);rw[HLF.o,HOK.o]at h;refine h.mono ?_;rintro e w' ⟨rfl,hb⟩;refine⟨?_,hb⟩;rfl) ?_;iterate 2 refine wD ?_
      iterate 6 refine wS ?_
      refine wD ?_;refine aj λW9 hE9 hG9=>?_;have BJ:=hE9.cF;have BK:=hE9.fF;have q9:=HQR.o.ext hE9;have e9:=q9.cells;have g9:=q9.marks;have h9:=q9.lt;have HB9:=Hd (HBL.o.trans (hE9.mono HBL.o.size));clear hE9 hG9 BJ BK c1 m1 l1 d1 n1 o1 cm q9;go_wp2;refine bodyPost_ret (v:= .tuple #[.agg #[.bool false, .slice none 0 0, .slice none 0 0], .bool false]) (by simp[results,Tryz.results62,go_sem, *]) rfl ?_;rw[HNO.o];refine⟨rfl,?_⟩;have h:=HB9.o;have hsz:=h.size;exact(by have hz:=h;exact bV)
    |true=>
     have HOK:=Hd hok;clear hok;obtain⟨q,hq⟩:∃q,decide (aJ N=ls)=q:=⟨_,rfl⟩;have hq1:(aJ N==ls)=q:=by rw[gQ,hq]
     have hq2:(aJ N !=ls)= !q:=by rw[bne,gQ,hq]
     have HQQ:=Hd hq;clear hq;cases q with
     |false=>
      have HNO:=Hd (show O=none by rw[HOE.o,if_neg (λh=>of_decide_eq_false HQQ.o h.2)]);go_wp2_with fail;refine' ah [.inl _, .inl _, .inl _, .inl _, .inl _, .inr (jY (aJ N)), .inl _, .inl _, .inl _, .inl _, .inl _] kR kR ?main5
      case main5=>
       refine wE ?_;refine wG (λW hE hN=>by go_simp;refine⟨Below.refl _ _,?_⟩;have h:=fK N ia none k ic 0 0 _ W (HNS.o.ext hE);rw[HLF.o,HOK.o]at h;refine h.mono ?_;rintro e w' ⟨rfl,hb⟩;refine⟨?_,hb⟩;rfl) ?_;iterate 2 refine wD ?_
       refine wE ?_;refine aG rfl (jY.later) (by rfl) (λW hE hN=>?_) (λu5=>?_)
       .go_simp;refine⟨Below.refl _ _,?_⟩;have h:=gB N ia none k ic 0 0 _ W (HNS.o.ext hE).s (λb h=>h) (oz HOK.o);rw[HLF.o]at h;refine h.mono ?_;rintro e w' ⟨ea,en,ec,rfl,hK,hb⟩;exact⟨_,rfl,hb,ea,en,ec,rfl,hK.at_⟩
       simp only[Act.put,pB,pC,pD];refine wG (λW hE hN=>by simp[near,Oper.looksAt,Op.operands,Call.operands]at hN;obtain⟨ea,en,ec,rfl,hK⟩:=hN;have k1:=aO hK 22 9 5 Tryz.underlying22 Tryz.underlying5 Tryz.underlying9;exact gF) ?_;refine wD ?_;refine wG (λW hE hN=>by have k1:=aO (HBR.o.ext hE) 22 9 5 Tryz.underlying22 Tryz.underlying5 Tryz.underlying9;exact gF) ?_;iterate 2 refine wD ?_
       refine aj λW9 hE9 hG9=>?_;have BJ:=hE9.cF;have BK:=hE9.fF;have q9:=HQR.o.ext hE9;have e9:=q9.cells;have g9:=q9.marks;have h9:=q9.lt;have HB9:=Hd (HBL.o.trans (hE9.mono HBL.o.size));clear hE9 hG9 BJ BK c1 m1 l1 d1 n1 o1 cm q9;go_wp2;refine bodyPost_ret (v:= .tuple #[.agg #[.bool false, .slice none 0 0, .slice none 0 0], .bool false]) (by simp[results,Tryz.results62,go_sem, *]) rfl ?_;rw[HNO.o];refine⟨rfl,?_⟩;have h:=HB9.o;have hsz:=h.size;exact(by have hz:=h;exact bV)
     |true=>
      have TL:=Hd (show O=some N by rw[HOE.o,if_pos ⟨HOK.o,of_decide_eq_true HQQ.o⟩]);go_wp2_with fail;refine' ah [.inl _, .inl _, .inl _, .inl _, .inl _, .inr (jY (aJ N)), .inl _, .inl _, .inl _, .inl _, .inl _] kR kR ?nH
      case nH=>
       refine wE ?_;refine wG (λW hE hN=>by go_simp;refine⟨Below.refl _ _,?_⟩;have h:=fK N ia none k ic 0 0 _ W (HNS.o.ext hE);rw[HLF.o,HOK.o]at h;refine h.mono ?_;rintro e w' ⟨rfl,hb⟩;refine⟨?_,hb⟩;rfl) ?_;iterate 2 refine wD ?_
       refine wE ?_;refine aG rfl (jY.later) (by rfl) (λW hE hN=>?_) (λu5=>?_)
       .go_simp;refine⟨Below.refl _ _,?_⟩;have h:=gB N ia none k ic 0 0 _ W (HNS.o.ext hE).s (λb h=>h) (oz HOK.o);rw[HLF.o]at h;refine h.mono ?_;rintro e w' ⟨ea,en,ec,rfl,hK,hb⟩;exact⟨_,rfl,hb,ea,en,ec,rfl,hK.at_⟩
       simp only[Act.put,pB,pC,pD];refine wG (λW hE hN=>by simp[near,Oper.looksAt,Op.operands,Call.operands]at hN;obtain⟨ea,en,ec,rfl,hK⟩:=hN;have k1:=aO hK 22 9 5 Tryz.underlying22 Tryz.underlying5 Tryz.underlying9;exact gF) ?_;refine wD ?_;refine wG (λW hE hN=>by have k1:=aO (HBR.o.ext hE) 22 9 5 Tryz.underlying22 Tryz.underlying5 Tryz.underlying9;exact gF) ?_;iterate 2 refine wD ?_
       refine aj λW9 hE9 hG9=>?_;have BJ:=hE9.cF;have BK:=hE9.fF;have q9:=HQR.o.ext hE9;have e9:=q9.cells;have g9:=q9.marks;have h9:=q9.lt;have p9:=HQN.o.ext hE9;have e8:=p9.cells;have g8:=p9.marks;have h8:=p9.lt;have Vx:=Hd (HNS.o.ext hE9);have HB9:=Hd (HBL.o.trans (hE9.mono HBL.o.size));have hO9:=((((Only.refl w.heap.size W9).set 0 (.bool true)).set 1 (.slice ia k ic)).set 2 (.slice none 0 0));have HO9:=Hd hO9;clear hE9 hG9 BJ BK c1 m1 l1 d1 n1 o1 cm q9 p9 hO9;go_wp2;refine bodyPost_ret (v:= .tuple #[.agg #[.bool true, .slice ia k ic, .slice none 0 0], .bool true]) (by simp[results,Tryz.results62,go_sem, *]) rfl ?_;rw[TL.o];refine⟨ia,k,ic,none,0,0,by rw[HLF.o],(Vx.o.same HO9.o.size (λb h hlt=>HO9.o.block b hlt (by rcases h with h|h;(have:=HS.o b h;omega);omega))).mono (λb h=>h.imp id λh=>oM),?_⟩;have h:=HB9.o;have hsz:=h.size;exact(by have hz:=h;exact bV)
end Go.Proofs.YtenmnhnlcnmloaaGreat
