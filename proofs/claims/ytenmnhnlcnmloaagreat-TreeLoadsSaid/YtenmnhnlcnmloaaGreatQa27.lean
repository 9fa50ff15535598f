/- Part of a proof of a law of the layer of trees. -/
import Derived.Test.YtenmnhnlcnmloaaGreatQa26
import Derived.Test.YtenmnhnlcnmloaaGreatQa01
set_option linter.unusedVariables false
set_option linter.unusedSimpArgs false
set_option maxHeartbeats 8000000
set_option maxRecDepth 8000
namespace Go.Dav
open Go Go.RowKit
theorem NC{l:List UInt8}{k:Nat}{x0:UInt8}(h1:k<l.length)(h2:k%64≠0)(hx:l[k-k%64]? =some x0):dF l (k:Int)=if x0=0 then lU l k else []:=by
 unfold dF;rw[if_neg oM,Int.toNat_natCast];unfold nK;rw[if_pos oM,hx];by_cases h:x0=0
 .rw[if_pos h,h,if_pos rfl]
 .rw[if_neg h,if_neg (λe=>h (Option.some.inj e))]
theorem ND{l:List UInt8}{at_:Int}(h:at_<0\/(l.length:Int)<=at_\/at_%64=0):dF l at_=[]:=by unfold dF;rw[if_pos h]
end Go.Dav
namespace Go.Proofs.YtenmnhnlcnmloaaGreat
open Go.RowKit Go.Dav Go.Shelf
attribute [local go_sem] Gives ite_val ay Oper.semAt_some
theorem IC(a:Option Addr)(n c:Nat)(l:List UInt8)(at_:Int)(w:World)(hl:BytesAt w a n c l)(ha:eY at_)(hn:n<=1048576):
  Calls Tryz.prog 109 #[.slice a n c, .int .i64 at_] w (Iy w 5 3 (dF l at_)):=by
 have hln:=hl.hlen;by_cases h:at_<0\/(n:Int)<=at_\/at_%64=0
 .rw[ND (by rw[hln];exact h)];exact AU a n c l at_ w hl ha h
 .obtain⟨k,rfl⟩:∃k:Nat,at_=(k:Int):=⟨at_.toNat,oM⟩;obtain⟨x0,hx⟩:∃x,l[k-k%64]? =some x:=⟨_,List.getElem?_eq_getElem oM⟩;obtain⟨b,o,rfl,_⟩:=hl.hat _ _ hx;rw[NC oM oM hx];exact AV b o n c l k w hl hn oM oM x0 hx
set_option maxRecDepth 100000 in
theorem J5(aa ba:Option Addr)(an ac bn bc:Nat)(l cs:List UInt8)(w:World)(hl:BytesAt w aa an ac l)(hc:BytesAt w ba bn bc cs)(han:an<=1048576)(hbn:bn<=8192)(h1:1<=bn):
  Calls Tryz.prog 165 #[.slice aa an ac, .slice ba bn bc] w λe w'=>∃v,e= .returned (.tuple #[v, .int .i64 (placeOf l cs:Int)])/\w'.ownsRow w.heap.size 5 1 v (jU l cs).length (u8s (jU l cs))/\Below w.heap.size w w':=by
 have HL:=Hd hl;have HC:=Hd hc;have HLL:=Hd hl.hlen;have HCL:=Hd hc.hlen;have H1:=Hd h1;have htm:(an:Int).tmod 64=((an%64:Nat):Int):=by rw[Int.tmod_eq_emod_of_nonneg oM];omega
 clear hl hc h1;by_cases h0:an%64=0
 .have h0':(an:Int)%64=0:=oM;have HPF:=Hd (show eH l=[] by unfold eH zq;rw[HLL.o];simp[h0]);have HOx:=Hd (show w.ownsRow w.heap.size 5 1 (.slice none 0 0) (eH l).length (u8s (eH l)) by rw[HPF.o];exact World.ownsRow_nil _ _ _ _);have WV:=Hd (Below.refl w.heap.size w);clear h0;go_enter Tryz.func165,Tryz.ntmps165;go_wp2_with fail;clear htm h0';go_loopg [6,8,9] bn (λg vx atv ix wr=>∃k:Nat,k<=bn/\g=bn-k/\ix= .int .i64 (k:Int)/\atv= .int .i64 (if k=0 then-1 else(placeOf l cs:Int))/\wr.ownsRow w.heap.size 5 1 vx (oN an (eH l) (cs.take k)).length (u8s (oN an (eH l) (cs.take k)))/\Below w.heap.size w wr)
  case atStart=>exact⟨0,Nat.zero_le _,oM,by go_num,rfl,by first|exact HOx.o|(have h:=HOx.o;rw[HPF.o]at h⊢;exact h),WV.o⟩
  case round=>
   obtain⟨k,hk,rfl,rfl,rfl,ho,hbl⟩:=hrel;have EH:=rQ an (eH l) (cs.take k);have hpf:=pF l;have htk:(cs.take k).length<=8192:=by rw[List.length_take,HCL.o];omega
   have HO:=Hd ho;have HBL:=Hd hbl;obtain⟨ra,rc,rfl,_⟩:=bf ho;obtain⟨b,hb⟩:∃b,oN an (eH l) (cs.take k)=b:=⟨_,rfl⟩;rw[hb]at HO EH;have HBB:=Hd hb;rw[hb];have ZR:b.length<=20000:=oM;obtain⟨av,hav⟩:∃av:Int,(if k=0 then-1 else(placeOf l cs:Int))=av:=⟨_,rfl⟩;rw[hav];have HAV:=Hd hav;clear ho hbl hb hav EH hpf htk;by_cases hlt:k<bn
   .obtain⟨c,hc⟩:∃c,cs[k]? =some c:=⟨_,List.getElem?_eq_getElem (by rw[HCL.o];exact hlt)⟩;obtain⟨bb,oo,rfl,hlb,hcell0⟩:=HC.o.hat k c hc;have hcell:=(HBL.o.cell (p:=⟨bb,oo+k,none⟩) hlb).trans hcell0;have hkl:(k:Int)<(bn:Int):=oM;have HNX:=Hd (xJ (n:=an) (b0:=eH l) hc);have HLT:=Hd hlt;have HCC:=Hd hc;have k1:IntKind.i64.wrap ((an:Int)+(b.length:Int))=(an:Int)+(b.length:Int):=IntWalk.i64_in _ oM;have k2:((an:Int)+(b.length:Int)).tmod 64=((an:Int)+(b.length:Int))%64:=Int.tmod_eq_emod_of_nonneg oM;clear hc hlt hcell0 hlb;have HCF:=Hd (show ∀W',Below w.heap.size w W'->W'.cell? ⟨bb,oo+k,none⟩=some (.int .u8 (c.toNat:Int))from λW' hW'=>by
     obtain⟨b',o',e5,hb',WW⟩:=HC.o.hat k c HCC.o;cases e5;exact(hW'.cell (p:=⟨bb,oo+k,none⟩) hb').trans WW)
    by_cases h0k:k=0
    .have HPL:=Hd (show ∀b',dU an b=b'->(placeOf l cs:Int)=(an:Int)+(b'.length:Int)from λb' hb'=>by
      subst h0k;have h:=HCC.o;cases cs with
      |nil=>cases h
      |cons c' cs'=>
       show((l.length+(fA l.length (eH l) c').length-1:Nat):Int)=_;have h2:eH l=b:=HBB.o;rw[HLL.o,h2];unfold fA;rw[hb',List.length_append];simp only[List.length_singleton];omega)
     have WX:((k:Int)==0)=true:=by rw[h0k];rfl
     clear h0k;by_cases hm:(an+b.length)%64=0
     .have k3:((an:Int)+(b.length:Int))%64=0:=oM;have HPD:=Hd (show dU an b=b++[0] by unfold dU;rw[if_pos hm]);have Ld:(b++[0]).length=b.length+1:=by simp
      have HCX:=Hd (cells_one (S:=λb=>b=wr.heap.size) (g:=wr.heap.size) (v:= .int .u8 0) rfl (by simp) (Blk.new wr [.int .u8 0] 5|>.cell 0 rfl));clear hm hcell;go_wp2_with (first|(at_builtin;refine ak rfl (.tmp 46) (.tmp 47) 22 rfl aF w.heap.size _ b.length (u8s b) rfl (HO.o.alloc _) (λb=>b=wr.heap.size) (some ⟨wr.heap.size,0,none⟩) 1 1 [.int .u8 0] rfl HCX.o (λu hu=>by simp at hu;subst hu;rfl) (λh=>by cases h) (by unfold maxLen;omega) oM (by have:=HBL.o.size;simp;omega) ?_;intro v2 w2 hown2 hgrow2;have bel2:=Hd (aV (HBL.o.alloc HBL.o.size _) (by have:=HBL.o.size;simp;omega) (HO.o.alloc _) (Nat.le_refl _) hgrow2);have hs2:=bel2.o.size;obtain⟨r2,c2,rfl,hz2⟩:=bf hown2;obtain⟨m1,hm1⟩:∃m1,b.length+1=m1:=⟨_,rfl⟩;rw[hm1]at hown2⊢;have HM1:=Hd hm1;have HO2:=Hd hown2;have hcell2:=HCF.o w2 bel2.o;have j1:IntKind.i64.wrap ((an:Int)+(m1:Int))=(an:Int)+(m1:Int):=IntWalk.i64_in _ oM;have HCY:=Hd (cells_one (S:=λb=>b=w2.heap.size) (g:=w2.heap.size) (v:= .int .u8 (c.toNat:Int)) rfl (by simp) (Blk.new w2 [.int .u8 (c.toNat:Int)] 5|>.cell 0 rfl));have hmb:m1<=20001:=oM;clear HCX hown2 hgrow2 hz2 hm1)|(at_builtin;refine ak rfl (.tmp 55) (.tmp 60) 22 rfl aF w.heap.size _ m1 (u8s b++[.int .u8 0]) rfl (HO2.o.alloc _) (λb=>b=w2.heap.size) (some ⟨w2.heap.size,0,none⟩) 1 1 [.int .u8 (c.toNat:Int)] rfl HCY.o (λu hu=>by simp at hu;subst hu;rfl) (λh=>by cases h) (by unfold maxLen;omega) oM (by simp;omega) ?_;intro v4 w4 hown4 hgrow4;have AX:=Hd (aV (bel2.o.alloc bel2.o.size _) (by simp;omega) (HO2.o.alloc _) (Nat.le_refl _) hgrow4);have HO4:=Hd hown4;clear HCY hown4 hgrow4))
      go_roundg (bn-(k+1))
      case measure=>have:=HLT.o;omega
      case rel=>
       refine⟨k+1,HLT.o,rfl,by go_num,?_,?_,AX.o⟩
       .rw[if_neg (Nat.succ_ne_zero _)];rw[HPL.o _ HPD.o,Ld,HM1.o]
       .have h:=HO4.o;rw[HNX.o,HBB.o];unfold fA;rw[HPD.o,List.length_append,Ld,HM1.o,aW,aW];exact h
     .have k3:(((an:Int)+(b.length:Int))%64==0)=false:=by rw[beq_eq_false_iff_ne];omega
      have HPD:=Hd (show dU an b=b by unfold dU;rw[if_neg hm]);have HCY:=Hd (cells_one (S:=λb=>b=wr.heap.size) (g:=wr.heap.size) (v:= .int .u8 (c.toNat:Int)) rfl (by simp) (Blk.new wr [.int .u8 (c.toNat:Int)] 5|>.cell 0 rfl))
      clear hm;go_wp2_with (at_builtin;refine ak rfl (.tmp 55) (.tmp 60) 22 rfl aF w.heap.size _ b.length (u8s b) rfl (HO.o.alloc _) (λb=>b=wr.heap.size) (some ⟨wr.heap.size,0,none⟩) 1 1 [.int .u8 (c.toNat:Int)] rfl HCY.o (λu hu=>by simp at hu;subst hu;rfl) (λh=>by cases h) (by unfold maxLen;omega) oM (by have:=HBL.o.size;simp;omega) ?_;intro v4 w4 hown4 hgrow4;have AX:=Hd (aV (HBL.o.alloc HBL.o.size _) (by have:=HBL.o.size;simp;omega) (HO.o.alloc _) (Nat.le_refl _) hgrow4);have HO4:=Hd hown4;clear HCY hown4 hgrow4)
      go_roundg (bn-(k+1))
      case measure=>have:=HLT.o;omega
      case rel=>
       refine⟨k+1,HLT.o,rfl,by go_num,?_,?_,AX.o⟩
       .rw[if_neg (Nat.succ_ne_zero _)];rw[HPL.o _ HPD.o]
       .have h:=HO4.o;rw[HNX.o,HBB.o];unfold fA;rw[HPD.o,List.length_append,aW];exact h
    .have WX:((k:Int)==0)=false:=by rw[beq_eq_false_iff_ne];omega
     have Uc:=Hd (show av=(placeOf l cs:Int) by rw[<- HAV.o,if_neg h0k]);clear h0k;by_cases hm:(an+b.length)%64=0
     .have k3:((an:Int)+(b.length:Int))%64=0:=oM;have HPD:=Hd (show dU an b=b++[0] by unfold dU;rw[if_pos hm]);have Ld:(b++[0]).length=b.length+1:=by simp
      have HCX:=Hd (cells_one (S:=λb=>b=wr.heap.size) (g:=wr.heap.size) (v:= .int .u8 0) rfl (by simp) (Blk.new wr [.int .u8 0] 5|>.cell 0 rfl));clear hm hcell;go_wp2_with (first|(at_builtin;refine ak rfl (.tmp 46) (.tmp 47) 22 rfl aF w.heap.size _ b.length (u8s b) rfl (HO.o.alloc _) (λb=>b=wr.heap.size) (some ⟨wr.heap.size,0,none⟩) 1 1 [.int .u8 0] rfl HCX.o (λu hu=>by simp at hu;subst hu;rfl) (λh=>by cases h) (by unfold maxLen;omega) oM (by have:=HBL.o.size;simp;omega) ?_;intro v2 w2 hown2 hgrow2;have bel2:=Hd (aV (HBL.o.alloc HBL.o.size _) (by have:=HBL.o.size;simp;omega) (HO.o.alloc _) (Nat.le_refl _) hgrow2);have hs2:=bel2.o.size;obtain⟨r2,c2,rfl,hz2⟩:=bf hown2;obtain⟨m1,hm1⟩:∃m1,b.length+1=m1:=⟨_,rfl⟩;rw[hm1]at hown2⊢;have HM1:=Hd hm1;have HO2:=Hd hown2;have hcell2:=HCF.o w2 bel2.o;have j1:IntKind.i64.wrap ((an:Int)+(m1:Int))=(an:Int)+(m1:Int):=IntWalk.i64_in _ oM;have HCY:=Hd (cells_one (S:=λb=>b=w2.heap.size) (g:=w2.heap.size) (v:= .int .u8 (c.toNat:Int)) rfl (by simp) (Blk.new w2 [.int .u8 (c.toNat:Int)] 5|>.cell 0 rfl));have hmb:m1<=20001:=oM;clear HCX hown2 hgrow2 hz2 hm1)|(at_builtin;refine ak rfl (.tmp 55) (.tmp 60) 22 rfl aF w.heap.size _ m1 (u8s b++[.int .u8 0]) rfl (HO2.o.alloc _) (λb=>b=w2.heap.size) (some ⟨w2.heap.size,0,none⟩) 1 1 [.int .u8 (c.toNat:Int)] rfl HCY.o (λu hu=>by simp at hu;subst hu;rfl) (λh=>by cases h) (by unfold maxLen;omega) oM (by simp;omega) ?_;intro v4 w4 hown4 hgrow4;have AX:=Hd (aV (bel2.o.alloc bel2.o.size _) (by simp;omega) (HO2.o.alloc _) (Nat.le_refl _) hgrow4);have HO4:=Hd hown4;clear HCY hown4 hgrow4))
      go_roundg (bn-(k+1))
      case measure=>have:=HLT.o;omega
      case rel=>
       refine⟨k+1,HLT.o,rfl,by go_num,?_,?_,AX.o⟩
       .rw[if_neg (Nat.succ_ne_zero _)];rw[Uc.o]
       .have h:=HO4.o;rw[HNX.o,HBB.o];unfold fA;rw[HPD.o,List.length_append,Ld,HM1.o,aW,aW];exact h
     .have k3:(((an:Int)+(b.length:Int))%64==0)=false:=by rw[beq_eq_false_iff_ne];omega
      have HPD:=Hd (show dU an b=b by unfold dU;rw[if_neg hm]);have HCY:=Hd (cells_one (S:=λb=>b=wr.heap.size) (g:=wr.heap.size) (v:= .int .u8 (c.toNat:Int)) rfl (by simp) (Blk.new wr [.int .u8 (c.toNat:Int)] 5|>.cell 0 rfl))
      clear hm;go_wp2_with (at_builtin;refine ak rfl (.tmp 55) (.tmp 60) 22 rfl aF w.heap.size _ b.length (u8s b) rfl (HO.o.alloc _) (λb=>b=wr.heap.size) (some ⟨wr.heap.size,0,none⟩) 1 1 [.int .u8 (c.toNat:Int)] rfl HCY.o (λu hu=>by simp at hu;subst hu;rfl) (λh=>by cases h) (by unfold maxLen;omega) oM (by have:=HBL.o.size;simp;omega) ?_;intro v4 w4 hown4 hgrow4;have AX:=Hd (aV (HBL.o.alloc HBL.o.size _) (by have:=HBL.o.size;simp;omega) (HO.o.alloc _) (Nat.le_refl _) hgrow4);have HO4:=Hd hown4;clear HCY hown4 hgrow4)
      go_roundg (bn-(k+1))
      case measure=>have:=HLT.o;omega
      case rel=>
       refine⟨k+1,HLT.o,rfl,by go_num,?_,?_,AX.o⟩
       .rw[if_neg (Nat.succ_ne_zero _)];rw[Uc.o]
       .have h:=HO4.o;rw[HNX.o,HBB.o];unfold fA;rw[HPD.o,List.length_append,aW];exact h
   .obtain rfl:k=bn:=oM;have hkl:¬((k:Int)<(k:Int)):=oM;have WY:=Hd (show av=(placeOf l cs:Int) by rw[<- HAV.o,if_neg (by have:=H1.o;omega)]);have Qi:=Hd (show b=jU l cs by rw[<- HBB.o,List.take_of_length_le (by rw[HCL.o];omega)];unfold jU;rw[HLL.o]);clear hlt hk;go_wp2_with fail;refine bodyPost_ret (v:= .tuple #[.slice ra b.length rc, .int .i64 av]) (by simp[results,Tryz.results165,go_sem]) rfl ⟨_,by rw[WY.o],by rw[<- Qi.o];exact HO.o,HBL.o⟩
 .have h0':((an:Int)%64 !=0)=true:=by simp;omega
  obtain⟨fr,hfr⟩:∃fr,an-an%64=fr:=⟨_,rfl⟩;obtain⟨x,hx⟩:∃x,l[fr]? =some x:=⟨_,List.getElem?_eq_getElem (by have:=HLL.o;omega)⟩;obtain⟨b,o,rfl,_,hc0⟩:=HL.o.hat fr x hx;have e1:IntKind.i64.wrap ((an:Int)-(an:Int)%64)=(fr:Int):=by
   rw[show(an:Int)-(an:Int)%64=(fr:Int) by omega];exact IntWalk.i64_in _ oM
  have e2:(an:Int)-(an:Int)%64=(fr:Int):=oM;have e4:fr<an:=oM;have HV:=Hd (show zq l=(x !=0) by unfold zq;rw[HLL.o,hfr,hx,decide_eq_true h0,Bool.true_and];rfl);clear hx hfr;by_cases hx0:x=0
  .subst hx0;have hc0':w.cell? ⟨b,o+fr,none⟩=some (.int .u8 0):=hc0;have HPF:=Hd (show eH l=[] by unfold eH;rw[HV.o];rfl);have HOx:=Hd (show w.ownsRow w.heap.size 5 1 (.slice none 0 0) (eH l).length (u8s (eH l)) by rw[HPF.o];exact World.ownsRow_nil _ _ _ _);have WV:=Hd (Below.refl w.heap.size w);clear hc0 h0;go_enter Tryz.func165,Tryz.ntmps165;go_wp2_with fail;clear htm h0' hc0' e1 e2 e4;go_loopg [6,8,9] bn (λg vx atv ix wr=>∃k:Nat,k<=bn/\g=bn-k/\ix= .int .i64 (k:Int)/\atv= .int .i64 (if k=0 then-1 else(placeOf l cs:Int))/\wr.ownsRow w.heap.size 5 1 vx (oN an (eH l) (cs.take k)).length (u8s (oN an (eH l) (cs.take k)))/\Below w.heap.size w wr)
   case atStart=>exact⟨0,Nat.zero_le _,oM,by go_num,rfl,by first|exact HOx.o|(have h:=HOx.o;rw[HPF.o]at h⊢;exact h),WV.o⟩
   case round=>
    obtain⟨k,hk,rfl,rfl,rfl,ho,hbl⟩:=hrel;have EH:=rQ an (eH l) (cs.take k);have hpf:=pF l;have htk:(cs.take k).length<=8192:=by rw[List.length_take,HCL.o];omega
    have HO:=Hd ho;have HBL:=Hd hbl;obtain⟨ra,rc,rfl,_⟩:=bf ho;obtain⟨b,hb⟩:∃b,oN an (eH l) (cs.take k)=b:=⟨_,rfl⟩;rw[hb]at HO EH;have HBB:=Hd hb;rw[hb];have ZR:b.length<=20000:=oM;obtain⟨av,hav⟩:∃av:Int,(if k=0 then-1 else(placeOf l cs:Int))=av:=⟨_,rfl⟩;rw[hav];have HAV:=Hd hav;clear ho hbl hb hav EH hpf htk;by_cases hlt:k<bn
    .obtain⟨c,hc⟩:∃c,cs[k]? =some c:=⟨_,List.getElem?_eq_getElem (by rw[HCL.o];exact hlt)⟩;obtain⟨bb,oo,rfl,hlb,hcell0⟩:=HC.o.hat k c hc;have hcell:=(HBL.o.cell (p:=⟨bb,oo+k,none⟩) hlb).trans hcell0;have hkl:(k:Int)<(bn:Int):=oM;have HNX:=Hd (xJ (n:=an) (b0:=eH l) hc);have HLT:=Hd hlt;have HCC:=Hd hc;have k1:IntKind.i64.wrap ((an:Int)+(b.length:Int))=(an:Int)+(b.length:Int):=IntWalk.i64_in _ oM;have k2:((an:Int)+(b.length:Int)).tmod 64=((an:Int)+(b.length:Int))%64:=Int.tmod_eq_emod_of_nonneg oM;clear hc hlt hcell0 hlb;have HCF:=Hd (show ∀W',Below w.heap.size w W'->W'.cell? ⟨bb,oo+k,none⟩=some (.int .u8 (c.toNat:Int))from λW' hW'=>by
      obtain⟨b',o',e5,hb',WW⟩:=HC.o.hat k c HCC.o;cases e5;exact(hW'.cell (p:=⟨bb,oo+k,none⟩) hb').trans WW)
     by_cases h0k:k=0
     .have HPL:=Hd (show ∀b',dU an b=b'->(placeOf l cs:Int)=(an:Int)+(b'.length:Int)from λb' hb'=>by
       subst h0k;have h:=HCC.o;cases cs with
       |nil=>cases h
       |cons c' cs'=>
        show((l.length+(fA l.length (eH l) c').length-1:Nat):Int)=_;have h2:eH l=b:=HBB.o;rw[HLL.o,h2];unfold fA;rw[hb',List.length_append];simp only[List.length_singleton];omega)
      have WX:((k:Int)==0)=true:=by rw[h0k];rfl
      clear h0k;by_cases hm:(an+b.length)%64=0
      .have k3:((an:Int)+(b.length:Int))%64=0:=oM;have HPD:=Hd (show dU an b=b++[0] by unfold dU;rw[if_pos hm]);have Ld:(b++[0]).length=b.length+1:=by simp
       have HCX:=Hd (cells_one (S:=λb=>b=wr.heap.size) (g:=wr.heap.size) (v:= .int .u8 0) rfl (by simp) (Blk.new wr [.int .u8 0] 5|>.cell 0 rfl));clear hm hcell;go_wp2_with (first|(at_builtin;refine ak rfl (.tmp 46) (.tmp 47) 22 rfl aF w.heap.size _ b.length (u8s b) rfl (HO.o.alloc _) (λb=>b=wr.heap.size) (some ⟨wr.heap.size,0,none⟩) 1 1 [.int .u8 0] rfl HCX.o (λu hu=>by simp at hu;subst hu;rfl) (λh=>by cases h) (by unfold maxLen;omega) oM (by have:=HBL.o.size;simp;omega) ?_;intro v2 w2 hown2 hgrow2;have bel2:=Hd (aV (HBL.o.alloc HBL.o.size _) (by have:=HBL.o.size;simp;omega) (HO.o.alloc _) (Nat.le_refl _) hgrow2);have hs2:=bel2.o.size;obtain⟨r2,c2,rfl,hz2⟩:=bf hown2;obtain⟨m1,hm1⟩:∃m1,b.length+1=m1:=⟨_,rfl⟩;rw[hm1]at hown2⊢;have HM1:=Hd hm1;have HO2:=Hd hown2;have hcell2:=HCF.o w2 bel2.o;have j1:IntKind.i64.wrap ((an:Int)+(m1:Int))=(an:Int)+(m1:Int):=IntWalk.i64_in _ oM;have HCY:=Hd (cells_one (S:=λb=>b=w2.heap.size) (g:=w2.heap.size) (v:= .int .u8 (c.toNat:Int)) rfl (by simp) (Blk.new w2 [.int .u8 (c.toNat:Int)] 5|>.cell 0 rfl));have hmb:m1<=20001:=oM;clear HCX hown2 hgrow2 hz2 hm1)|(at_builtin;refine ak rfl (.tmp 55) (.tmp 60) 22 rfl aF w.heap.size _ m1 (u8s b++[.int .u8 0]) rfl (HO2.o.alloc _) (λb=>b=w2.heap.size) (some ⟨w2.heap.size,0,none⟩) 1 1 [.int .u8 (c.toNat:Int)] rfl HCY.o (λu hu=>by simp at hu;subst hu;rfl) (λh=>by cases h) (by unfold maxLen;omega) oM (by simp;omega) ?_;intro v4 w4 hown4 hgrow4;have AX:=Hd (aV (bel2.o.alloc bel2.o.size _) (by simp;omega) (HO2.o.alloc _) (Nat.le_refl _) hgrow4);have HO4:=Hd hown4;clear HCY hown4 hgrow4))
       go_roundg (bn-(k+1))
       case measure=>have:=HLT.o;omega
       case rel=>
        refine⟨k+1,HLT.o,rfl,by go_num,?_,?_,AX.o⟩
        .rw[if_neg (Nat.succ_ne_zero _)];rw[HPL.o _ HPD.o,Ld,HM1.o]
        .have h:=HO4.o;rw[HNX.o,HBB.o];unfold fA;rw[HPD.o,List.length_append,Ld,HM1.o,aW,aW];exact h
      .have k3:(((an:Int)+(b.length:Int))%64==0)=false:=by rw[beq_eq_false_iff_ne];omega
       have HPD:=Hd (show dU an b=b by unfold dU;rw[if_neg hm]);have HCY:=Hd (cells_one (S:=λb=>b=wr.heap.size) (g:=wr.heap.size) (v:= .int .u8 (c.toNat:Int)) rfl (by simp) (Blk.new wr [.int .u8 (c.toNat:Int)] 5|>.cell 0 rfl))
       clear hm;go_wp2_with (at_builtin;refine ak rfl (.tmp 55) (.tmp 60) 22 rfl aF w.heap.size _ b.length (u8s b) rfl (HO.o.alloc _) (λb=>b=wr.heap.size) (some ⟨wr.heap.size,0,none⟩) 1 1 [.int .u8 (c.toNat:Int)] rfl HCY.o (λu hu=>by simp at hu;subst hu;rfl) (λh=>by cases h) (by unfold maxLen;omega) oM (by have:=HBL.o.size;simp;omega) ?_;intro v4 w4 hown4 hgrow4;have AX:=Hd (aV (HBL.o.alloc HBL.o.size _) (by have:=HBL.o.size;simp;omega) (HO.o.alloc _) (Nat.le_refl _) hgrow4);have HO4:=Hd hown4;clear HCY hown4 hgrow4)
       go_roundg (bn-(k+1))
       case measure=>have:=HLT.o;omega
       case rel=>
        refine⟨k+1,HLT.o,rfl,by go_num,?_,?_,AX.o⟩
        .rw[if_neg (Nat.succ_ne_zero _)];rw[HPL.o _ HPD.o]
        .have h:=HO4.o;rw[HNX.o,HBB.o];unfold fA;rw[HPD.o,List.length_append,aW];exact h
     .have WX:((k:Int)==0)=false:=by rw[beq_eq_false_iff_ne];omega
      have Uc:=Hd (show av=(placeOf l cs:Int) by rw[<- HAV.o,if_neg h0k]);clear h0k;by_cases hm:(an+b.length)%64=0
      .have k3:((an:Int)+(b.length:Int))%64=0:=oM;have HPD:=Hd (show dU an b=b++[0] by unfold dU;rw[if_pos hm]);have Ld:(b++[0]).length=b.length+1:=by simp
       have HCX:=Hd (cells_one (S:=λb=>b=wr.heap.size) (g:=wr.heap.size) (v:= .int .u8 0) rfl (by simp) (Blk.new wr [.int .u8 0] 5|>.cell 0 rfl));clear hm hcell;go_wp2_with (first|(at_builtin;refine ak rfl (.tmp 46) (.tmp 47) 22 rfl aF w.heap.size _ b.length (u8s b) rfl (HO.o.alloc _) (λb=>b=wr.heap.size) (some ⟨wr.heap.size,0,none⟩) 1 1 [.int .u8 0] rfl HCX.o (λu hu=>by simp at hu;subst hu;rfl) (λh=>by cases h) (by unfold maxLen;omega) oM (by have:=HBL.o.size;simp;omega) ?_;intro v2 w2 hown2 hgrow2;have bel2:=Hd (aV (HBL.o.alloc HBL.o.size _) (by have:=HBL.o.size;simp;omega) (HO.o.alloc _) (Nat.le_refl _) hgrow2);have hs2:=bel2.o.size;obtain⟨r2,c2,rfl,hz2⟩:=bf hown2;obtain⟨m1,hm1⟩:∃m1,b.length+1=m1:=⟨_,rfl⟩;rw[hm1]at hown2⊢;have HM1:=Hd hm1;have HO2:=Hd hown2;have hcell2:=HCF.o w2 bel2.o;have j1:IntKind.i64.wrap ((an:Int)+(m1:Int))=(an:Int)+(m1:Int):=IntWalk.i64_in _ oM;have HCY:=Hd (cells_one (S:=λb=>b=w2.heap.size) (g:=w2.heap.size) (v:= .int .u8 (c.toNat:Int)) rfl (by simp) (Blk.new w2 [.int .u8 (c.toNat:Int)] 5|>.cell 0 rfl));have hmb:m1<=20001:=oM;clear HCX hown2 hgrow2 hz2 hm1)|(at_builtin;refine ak rfl (.tmp 55) (.tmp 60) 22 rfl aF w.heap.size _ m1 (u8s b++[.int .u8 0]) rfl (HO2.o.alloc _) (λb=>b=w2.heap.size) (some ⟨w2.heap.size,0,none⟩) 1 1 [.int .u8 (c.toNat:Int)] rfl HCY.o (λu hu=>by simp at hu;subst hu;rfl) (λh=>by cases h) (by unfold maxLen;omega) oM (by simp;omega) ?_;intro v4 w4 hown4 hgrow4;have AX:=Hd (aV (bel2.o.alloc bel2.o.size _) (by simp;omega) (HO2.o.alloc _) (Nat.le_refl _) hgrow4);have HO4:=Hd hown4;clear HCY hown4 hgrow4))
       go_roundg (bn-(k+1))
       case measure=>have:=HLT.o;omega
       case rel=>
        refine⟨k+1,HLT.o,rfl,by go_num,?_,?_,AX.o⟩
        .rw[if_neg (Nat.succ_ne_zero _)];rw[Uc.o]
        .have h:=HO4.o;rw[HNX.o,HBB.o];unfold fA;rw[HPD.o,List.length_append,Ld,HM1.o,aW,aW];exact h
      .have k3:(((an:Int)+(b.length:Int))%64==0)=false:=by rw[beq_eq_false_iff_ne];omega
       have HPD:=Hd (show dU an b=b by unfold dU;rw[if_neg hm]);have HCY:=Hd (cells_one (S:=λb=>b=wr.heap.size) (g:=wr.heap.size) (v:= .int .u8 (c.toNat:Int)) rfl (by simp) (Blk.new wr [.int .u8 (c.toNat:Int)] 5|>.cell 0 rfl))
       clear hm;go_wp2_with (at_builtin;refine ak rfl (.tmp 55) (.tmp 60) 22 rfl aF w.heap.size _ b.length (u8s b) rfl (HO.o.alloc _) (λb=>b=wr.heap.size) (some ⟨wr.heap.size,0,none⟩) 1 1 [.int .u8 (c.toNat:Int)] rfl HCY.o (λu hu=>by simp at hu;subst hu;rfl) (λh=>by cases h) (by unfold maxLen;omega) oM (by have:=HBL.o.size;simp;omega) ?_;intro v4 w4 hown4 hgrow4;have AX:=Hd (aV (HBL.o.alloc HBL.o.size _) (by have:=HBL.o.size;simp;omega) (HO.o.alloc _) (Nat.le_refl _) hgrow4);have HO4:=Hd hown4;clear HCY hown4 hgrow4)
       go_roundg (bn-(k+1))
       case measure=>have:=HLT.o;omega
       case rel=>
        refine⟨k+1,HLT.o,rfl,by go_num,?_,?_,AX.o⟩
        .rw[if_neg (Nat.succ_ne_zero _)];rw[Uc.o]
        .have h:=HO4.o;rw[HNX.o,HBB.o];unfold fA;rw[HPD.o,List.length_append,aW];exact h
    .obtain rfl:k=bn:=oM;have hkl:¬((k:Int)<(k:Int)):=oM;have WY:=Hd (show av=(placeOf l cs:Int) by rw[<- HAV.o,if_neg (by have:=H1.o;omega)]);have Qi:=Hd (show b=jU l cs by rw[<- HBB.o,List.take_of_length_le (by rw[HCL.o];omega)];unfold jU;rw[HLL.o]);clear hlt hk;go_wp2_with fail;refine bodyPost_ret (v:= .tuple #[.slice ra b.length rc, .int .i64 av]) (by simp[results,Tryz.results165,go_sem]) rfl ⟨_,by rw[WY.o],by rw[<- Qi.o];exact HO.o,HBL.o⟩
  .have hz:((x.toNat:Int) !=0)=true:=by
    rw[bne_iff_ne];intro e;exact hx0 (UInt8.toNat_inj.1 (by exact_mod_cast e))
   have HPF:=Hd (show eH l=List.replicate (64-an%64) 0 by unfold eH;rw[HV.o,HLL.o,show(x !=0)=true by simpa using hx0];rfl);clear hx0;go_enter Tryz.func165,Tryz.ntmps165;go_wp2_with fail;clear htm h0' hc0 e1 e2 e4 hz;go_loopg [6] (64-an%64) (λg vx wr=>∃k:Nat,k<=64-an%64/\g=64-an%64-k/\wr.ownsRow w.heap.size 5 1 vx k (u8s (List.replicate k 0))/\Below w.heap.size w wr)
   case atStart=>exact⟨0,oM,rfl,World.ownsRow_nil _ _ _ _,Below.refl _ _⟩
   case round=>
    obtain⟨k,hk,rfl,ho,hbl⟩:=hrel;have HO:=Hd ho;have HBL:=Hd hbl;obtain⟨ra,rc,rfl,_⟩:=bf ho;have e5:IntKind.i64.wrap ((an:Int)+(k:Int))=(an:Int)+(k:Int):=IntWalk.i64_in _ oM;have t2:((an:Int)+(k:Int)).tmod 64=((an:Int)+(k:Int))%64:=Int.tmod_eq_emod_of_nonneg oM;clear ho hbl;by_cases hlt:k<64-an%64
    .have d4:(((an:Int)+(k:Int))%64 !=0)=true:=by rw[bne_iff_ne];omega
     have HCX:=Hd (cells_one (S:=λb=>b=wr.heap.size) (g:=wr.heap.size) (v:= .int .u8 0) rfl (by simp) (Blk.new wr [.int .u8 0] 5|>.cell 0 rfl));go_wp2_with (at_builtin;refine ak rfl (.tmp 31) (.tmp 32) 22 rfl aF w.heap.size _ k (u8s (List.replicate k 0)) rfl (HO.o.alloc _) (λb=>b=wr.heap.size) (some ⟨wr.heap.size,0,none⟩) 1 1 [.int .u8 0] rfl HCX.o (λu hu=>by simp at hu;subst hu;rfl) (λh=>by cases h) (by unfold maxLen;omega) oM (by have:=HBL.o.size;simp;omega) ?_;intro v2 w2 hown2 hgrow2;have bel2:=Hd (aV (HBL.o.alloc HBL.o.size _) (by have:=HBL.o.size;simp;omega) (HO.o.alloc _) (Nat.le_refl _) hgrow2);have HO2:=Hd hown2;clear HCX hown2 hgrow2)
     go_roundg (64-an%64-(k+1))
     case measure=>omega
     case rel=>exact⟨k+1,oM,rfl,by have h:=HO2.o;rw[List.replicate_succ',aW];exact h,bel2.o⟩
    .obtain rfl:k=64-an%64:=oM;have d4:((an:Int)+((64-an%64:Nat):Int))%64=0:=oM;have HOx:=Hd (show wr.ownsRow w.heap.size 5 1 (.slice ra (64-an%64) rc) (eH l).length (u8s (eH l)) by rw[HPF.o,List.length_replicate];exact HO.o);have WV:=HBL;clear hlt;go_wp2_with fail;clear d4 e5 t2;go_loopg [6,8,9] bn (λg vx atv ix wr=>∃k:Nat,k<=bn/\g=bn-k/\ix= .int .i64 (k:Int)/\atv= .int .i64 (if k=0 then-1 else(placeOf l cs:Int))/\wr.ownsRow w.heap.size 5 1 vx (oN an (eH l) (cs.take k)).length (u8s (oN an (eH l) (cs.take k)))/\Below w.heap.size w wr)
     case atStart=>exact⟨0,Nat.zero_le _,oM,by go_num,rfl,by first|exact HOx.o|(have h:=HOx.o;rw[HPF.o]at h⊢;exact h),WV.o⟩
     case round=>
      obtain⟨k,hk,rfl,rfl,rfl,ho,hbl⟩:=hrel;have EH:=rQ an (eH l) (cs.take k);have hpf:=pF l;have htk:(cs.take k).length<=8192:=by rw[List.length_take,HCL.o];omega
      have HO:=Hd ho;have HBL:=Hd hbl;obtain⟨ra,rc,rfl,_⟩:=bf ho;obtain⟨b,hb⟩:∃b,oN an (eH l) (cs.take k)=b:=⟨_,rfl⟩;rw[hb]at HO EH;have HBB:=Hd hb;rw[hb];have ZR:b.length<=20000:=oM;obtain⟨av,hav⟩:∃av:Int,(if k=0 then-1 else(placeOf l cs:Int))=av:=⟨_,rfl⟩;rw[hav];have HAV:=Hd hav;clear ho hbl hb hav EH hpf htk;by_cases hlt:k<bn
      .obtain⟨c,hc⟩:∃c,cs[k]? =some c:=⟨_,List.getElem?_eq_getElem (by rw[HCL.o];exact hlt)⟩;obtain⟨bb,oo,rfl,hlb,hcell0⟩:=HC.o.hat k c hc;have hcell:=(HBL.o.cell (p:=⟨bb,oo+k,none⟩) hlb).trans hcell0;have hkl:(k:Int)<(bn:Int):=oM;have HNX:=Hd (xJ (n:=an) (b0:=eH l) hc);have HLT:=Hd hlt;have HCC:=Hd hc;have k1:IntKind.i64.wrap ((an:Int)+(b.length:Int))=(an:Int)+(b.length:Int):=IntWalk.i64_in _ oM;have k2:((an:Int)+(b.length:Int)).tmod 64=((an:Int)+(b.length:Int))%64:=Int.tmod_eq_emod_of_nonneg oM;clear hc hlt hcell0 hlb;have HCF:=Hd (show ∀W',Below w.heap.size w W'->W'.cell? ⟨bb,oo+k,none⟩=some (.int .u8 (c.toNat:Int))from λW' hW'=>by
        obtain⟨b',o',e5,hb',WW⟩:=HC.o.hat k c HCC.o;cases e5;exact(hW'.cell (p:=⟨bb,oo+k,none⟩) hb').trans WW)
       by_cases h0k:k=0
       .have HPL:=Hd (show ∀b',dU an b=b'->(placeOf l cs:Int)=(an:Int)+(b'.length:Int)from λb' hb'=>by
         subst h0k;have h:=HCC.o;cases cs with
         |nil=>cases h
         |cons c' cs'=>
          show((l.length+(fA l.length (eH l) c').length-1:Nat):Int)=_;have h2:eH l=b:=HBB.o;rw[HLL.o,h2];unfold fA;rw[hb',List.length_append];simp only[List.length_singleton];omega)
        have WX:((k:Int)==0)=true:=by rw[h0k];rfl
        clear h0k;by_cases hm:(an+b.length)%64=0
        .have k3:((an:Int)+(b.length:Int))%64=0:=oM;have HPD:=Hd (show dU an b=b++[0] by unfold dU;rw[if_pos hm]);have Ld:(b++[0]).length=b.length+1:=by simp
         have HCX:=Hd (cells_one (S:=λb=>b=wr.heap.size) (g:=wr.heap.size) (v:= .int .u8 0) rfl (by simp) (Blk.new wr [.int .u8 0] 5|>.cell 0 rfl));clear hm hcell;go_wp2_with (first|(at_builtin;refine ak rfl (.tmp 46) (.tmp 47) 22 rfl aF w.heap.size _ b.length (u8s b) rfl (HO.o.alloc _) (λb=>b=wr.heap.size) (some ⟨wr.heap.size,0,none⟩) 1 1 [.int .u8 0] rfl HCX.o (λu hu=>by simp at hu;subst hu;rfl) (λh=>by cases h) (by unfold maxLen;omega) oM (by have:=HBL.o.size;simp;omega) ?_;intro v2 w2 hown2 hgrow2;have bel2:=Hd (aV (HBL.o.alloc HBL.o.size _) (by have:=HBL.o.size;simp;omega) (HO.o.alloc _) (Nat.le_refl _) hgrow2);have hs2:=bel2.o.size;obtain⟨r2,c2,rfl,hz2⟩:=bf hown2;obtain⟨m1,hm1⟩:∃m1,b.length+1=m1:=⟨_,rfl⟩;rw[hm1]at hown2⊢;have HM1:=Hd hm1;have HO2:=Hd hown2;have hcell2:=HCF.o w2 bel2.o;have j1:IntKind.i64.wrap ((an:Int)+(m1:Int))=(an:Int)+(m1:Int):=IntWalk.i64_in _ oM;have HCY:=Hd (cells_one (S:=λb=>b=w2.heap.size) (g:=w2.heap.size) (v:= .int .u8 (c.toNat:Int)) rfl (by simp) (Blk.new w2 [.int .u8 (c.toNat:Int)] 5|>.cell 0 rfl));have hmb:m1<=20001:=oM;clear HCX hown2 hgrow2 hz2 hm1)|(at_builtin;refine ak rfl (.tmp 55) (.tmp 60) 22 rfl aF w.heap.size _ m1 (u8s b++[.int .u8 0]) rfl (HO2.o.alloc _) (λb=>b=w2.heap.size) (some ⟨w2.heap.size,0,none⟩) 1 1 [.int .u8 (c.toNat:Int)] rfl HCY.o (λu hu=>by simp at hu;subst hu;rfl) (λh=>by cases h) (by unfold maxLen;omega) oM (by simp;omega) ?_;intro v4 w4 hown4 hgrow4;have AX:=Hd (aV (bel2.o.alloc bel2.o.size _) (by simp;omega) (HO2.o.alloc _) (Nat.le_refl _) hgrow4);have HO4:=Hd hown4;clear HCY hown4 hgrow4))
         go_roundg (bn-(k+1))
         case measure=>have:=HLT.o;omega
         case rel=>
          refine⟨k+1,HLT.o,rfl,by go_num,?_,?_,AX.o⟩
          .rw[if_neg (Nat.succ_ne_zero _)];rw[HPL.o _ HPD.o,Ld,HM1.o]
          .have h:=HO4.o;rw[HNX.o,HBB.o];unfold fA;rw[HPD.o,List.length_append,Ld,HM1.o,aW,aW];exact h
        .have k3:(((an:Int)+(b.length:Int))%64==0)=false:=by rw[beq_eq_false_iff_ne];omega
         have HPD:=Hd (show dU an b=b by unfold dU;rw[if_neg hm]);have HCY:=Hd (cells_one (S:=λb=>b=wr.heap.size) (g:=wr.heap.size) (v:= .int .u8 (c.toNat:Int)) rfl (by simp) (Blk.new wr [.int .u8 (c.toNat:Int)] 5|>.cell 0 rfl))
         clear hm;go_wp2_with (at_builtin;refine ak rfl (.tmp 55) (.tmp 60) 22 rfl aF w.heap.size _ b.length (u8s b) rfl (HO.o.alloc _) (λb=>b=wr.heap.size) (some ⟨wr.heap.size,0,none⟩) 1 1 [.int .u8 (c.toNat:Int)] rfl HCY.o (λu hu=>by simp at hu;subst hu;rfl) (λh=>by cases h) (by unfold maxLen;omega) oM (by have:=HBL.o.size;simp;omega) ?_;intro v4 w4 hown4 hgrow4;have AX:=Hd (aV (HBL.o.alloc HBL.o.size _) (by have:=HBL.o.size;simp;omega) (HO.o.alloc _) (Nat.le_refl _) hgrow4);have HO4:=Hd hown4;clear HCY hown4 hgrow4)
         go_roundg (bn-(k+1))
         case measure=>have:=HLT.o;omega
         case rel=>
          refine⟨k+1,HLT.o,rfl,by go_num,?_,?_,AX.o⟩
          .rw[if_neg (Nat.succ_ne_zero _)];rw[HPL.o _ HPD.o]
          .have h:=HO4.o;rw[HNX.o,HBB.o];unfold fA;rw[HPD.o,List.length_append,aW];exact h
       .have WX:((k:Int)==0)=false:=by rw[beq_eq_false_iff_ne];omega
        have Uc:=Hd (show av=(placeOf l cs:Int) by rw[<- HAV.o,if_neg h0k]);clear h0k;by_cases hm:(an+b.length)%64=0
        .have k3:((an:Int)+(b.length:Int))%64=0:=oM;have HPD:=Hd (show dU an b=b++[0] by unfold dU;rw[if_pos hm]);have Ld:(b++[0]).length=b.length+1:=by simp
         have HCX:=Hd (cells_one (S:=λb=>b=wr.heap.size) (g:=wr.heap.size) (v:= .int .u8 0) rfl (by simp) (Blk.new wr [.int .u8 0] 5|>.cell 0 rfl));clear hm hcell;go_wp2_with (first|(at_builtin;refine ak rfl (.tmp 46) (.tmp 47) 22 rfl aF w.heap.size _ b.length (u8s b) rfl (HO.o.alloc _) (λb=>b=wr.heap.size) (some ⟨wr.heap.size,0,none⟩) 1 1 [.int .u8 0] rfl HCX.o (λu hu=>by simp at hu;subst hu;rfl) (λh=>by cases h) (by unfold maxLen;omega) oM (by have:=HBL.o.size;simp;omega) ?_;intro v2 w2 hown2 hgrow2;have bel2:=Hd (aV (HBL.o.alloc HBL.o.size _) (by have:=HBL.o.size;simp;omega) (HO.o.alloc _) (Nat.le_refl _) hgrow2);have hs2:=bel2.o.size;obtain⟨r2,c2,rfl,hz2⟩:=bf hown2;obtain⟨m1,hm1⟩:∃m1,b.length+1=m1:=⟨_,rfl⟩;rw[hm1]at hown2⊢;have HM1:=Hd hm1;have HO2:=Hd hown2;have hcell2:=HCF.o w2 bel2.o;have j1:IntKind.i64.wrap ((an:Int)+(m1:Int))=(an:Int)+(m1:Int):=IntWalk.i64_in _ oM;have HCY:=Hd (cells_one (S:=λb=>b=w2.heap.size) (g:=w2.heap.size) (v:= .int .u8 (c.toNat:Int)) rfl (by simp) (Blk.new w2 [.int .u8 (c.toNat:Int)] 5|>.cell 0 rfl));have hmb:m1<=20001:=oM;clear HCX hown2 hgrow2 hz2 hm1)|(at_builtin;refine ak rfl (.tmp 55) (.tmp 60) 22 rfl aF w.heap.size _ m1 (u8s b++[.int .u8 0]) rfl (HO2.o.alloc _) (λb=>b=w2.heap.size) (some ⟨w2.heap.size,0,none⟩) 1 1 [.int .u8 (c.toNat:Int)] rfl HCY.o (λu hu=>by simp at hu;subst hu;rfl) (λh=>by cases h) (by unfold maxLen;omega) oM (by simp;omega) ?_;intro v4 w4 hown4 hgrow4;have AX:=Hd (aV (bel2.o.alloc bel2.o.size _) (by simp;omega) (HO2.o.alloc _) (Nat.le_refl _) hgrow4);have HO4:=Hd hown4;clear HCY hown4 hgrow4))
         go_roundg (bn-(k+1))
         case measure=>have:=HLT.o;omega
         case rel=>
          refine⟨k+1,HLT.o,rfl,by go_num,?_,?_,AX.o⟩
          .rw[if_neg (Nat.succ_ne_zero _)];rw[Uc.o]
          .have h:=HO4.o;rw[HNX.o,HBB.o];unfold fA;rw[HPD.o,List.length_append,Ld,HM1.o,aW,aW];exact h
        .have k3:(((an:Int)+(b.length:Int))%64==0)=false:=by rw[beq_eq_false_iff_ne];omega
         have HPD:=Hd (show dU an b=b by unfold dU;rw[if_neg hm]);have HCY:=Hd (cells_one (S:=λb=>b=wr.heap.size) (g:=wr.heap.size) (v:= .int .u8 (c.toNat:Int)) rfl (by simp) (Blk.new wr [.int .u8 (c.toNat:Int)] 5|>.cell 0 rfl))
         clear hm;go_wp2_with (at_builtin;refine ak rfl (.tmp 55) (.tmp 60) 22 rfl aF w.heap.size _ b.length (u8s b) rfl (HO.o.alloc _) (λb=>b=wr.heap.size) (some ⟨wr.heap.size,0,none⟩) 1 1 [.int .u8 (c.toNat:Int)] rfl HCY.o (λu hu=>by simp at hu;subst hu;rfl) (λh=>by cases h) (by unfold maxLen;omega) oM (by have:=HBL.o.size;simp;omega) ?_;intro v4 w4 hown4 hgrow4;have AX:=Hd (aV (HBL.o.alloc HBL.o.size _) (by have:=HBL.o.size;simp;omega) (HO.o.alloc _) (Nat.le_refl _) hgrow4);have HO4:=Hd hown4;clear HCY hown4 hgrow4)
         go_roundg (bn-(k+1))
         case measure=>have:=HLT.o;omega
         case rel=>
          refine⟨k+1,HLT.o,rfl,by go_num,?_,?_,AX.o⟩
          .rw[if_neg (Nat.succ_ne_zero _)];rw[Uc.o]
          .have h:=HO4.o;rw[HNX.o,HBB.o];unfold fA;rw[HPD.o,List.length_append,aW];exact h
      .obtain rfl:k=bn:=oM;have hkl:¬((k:Int)<(k:Int)):=oM;have WY:=Hd (show av=(placeOf l cs:Int) by rw[<- HAV.o,if_neg (by have:=H1.o;omega)]);have Qi:=Hd (show b=jU l cs by rw[<- HBB.o,List.take_of_length_le (by rw[HCL.o];omega)];unfold jU;rw[HLL.o]);clear hlt hk;go_wp2_with fail;refine bodyPost_ret (v:= .tuple #[.slice ra b.length rc, .int .i64 av]) (by simp[results,Tryz.results165,go_sem]) rfl ⟨_,by rw[WY.o],by rw[<- Qi.o];exact HO.o,HBL.o⟩
end Go.Proofs.YtenmnhnlcnmloaaGreat
