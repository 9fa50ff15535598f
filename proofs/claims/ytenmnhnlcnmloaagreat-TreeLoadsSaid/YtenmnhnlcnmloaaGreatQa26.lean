/- Part of a proof of a law of the layer of trees. -/
import Derived.Test.YtenmnhnlcnmloaaGreatQa21
import Derived.Test.YtenmnhnlcnmloaaGreatQa17
import Derived.Test.YtenmnhnlcnmloaaGreatQa01
set_option linter.unusedVariables false
set_option linter.unusedSimpArgs false
set_option maxHeartbeats 8000000
set_option maxRecDepth 8000
namespace Go.Dav
open Go Go.RowKit
theorem qJ{W:World}{p t:Nat}{l:List UInt8}(h:Blk W p (u8s l) t):bP W (λb=>b=p) (some ⟨p,0,none⟩) l.length (u8s l):=
 ⟨xg l,λk v hk=>⟨p,0,rfl,h.lt,rfl,by rw[Nat.zero_add];exact h.cell k hk⟩⟩
theorem Iu{W W':World}{base base' e e' n n':Nat}{v v':Value}{xs xs':List Value}(h:W.ownsRow base e 1 v n xs)(h':W.ownsRow base' e' 1 v' n' xs')(hne:e≠e')(hg:W.grownBy W' v'.ownBlock):W'.ownsRow base e 1 v n xs:=by
 refine h.kept hg ?_;rcases h.2 with⟨rfl,_⟩|⟨g,c,cur,rfl,_,h3,_⟩
 .exact .inl rfl
 .refine .inr λe1=>?_;rcases h'.2 with⟨rfl,_⟩|⟨g',c',cur',rfl,_,h3',_⟩
  .simp[Value.ownBlock]at e1
  .obtain rfl:g=g':=by simpa[Value.ownBlock]using e1
   rw[h3]at h3';cases h3';exact hne rfl
def intsOf(pre:List (Nat×UInt8)):List Value:=pre.map λx=>Value.int .i64 (x.1:Int)
def bytesIn(pre:List (Nat×UInt8)):List UInt8:=pre.map (·.2)
theorem Iw(l:List UInt8)(i:Nat):(lU l i).length<=l.length-i:=by
 unfold lU;have:∀(m:List UInt8) (i:Nat),(um i m).length<=m.length:=λm=>by
  induction m with
  |nil=>intro i;exact Nat.le_refl _
  |cons c r ih=>
   intro i;unfold um;have:=ih (i+1);split
   .split
    .simp only[List.length_cons];omega
    .simp
   .simp only[List.length_cons];omega
 have:=this (l.drop i) i;rwa [List.length_drop]at this
def Iy(w:World)(tb ti:Nat)(T:List (Nat×UInt8))(e:Ending)(w':World):Prop:=
 ∃vb vp,e= .returned (.tuple #[vb,vp])/\w'.ownsRow w.heap.size tb 1 vb T.length (u8s (bytesIn T))/\w'.ownsRow w.heap.size ti 1 vp T.length (intsOf T)/\Below w.heap.size w w'
end Go.Dav
namespace Go.Proofs.YtenmnhnlcnmloaaGreat
open Go.RowKit Go.Dav Go.Shelf
attribute [local go_sem] Gives ite_val ay Oper.semAt_some
set_option maxRecDepth 100000 in
theorem AQ(a:Option Addr)(n c:Nat)(l:List UInt8)(w:World)(S:Nat->Prop)(hl:au w S a n c l)(hn:n<=1048576):
  Calls Tryz.prog 110 #[.slice a n c] w λe w'=>∃v,e= .returned v/\w'.ownsRow w.heap.size 5 1 v (6+n) (u8s (outOf l))/\Below w.heap.size w w':=by
 have HL:=Hd hl;have HLN:=Hd hl.at_.hlen;have RG:=Hd hl.at_.hnil;have hn':(n:Int)<=1048576:=oM;have t1:(n:Int).tdiv 256=(n:Int)/256:=Int.tdiv_eq_ediv_of_nonneg oM;have t2:(n:Int).tmod 256=(n:Int)%256:=Int.tmod_eq_emod_of_nonneg oM;have hb0:Blk (w.alloc (.cells #[.int .u8 ((n:Int)/256%256), .int .u8 ((n:Int)%256)] 5)) w.heap.size (u8s (dJ n)) 5:=by rw[PK];exact Blk.new w _ _
 have hcs:=qJ (hb0.alloc (.cells #[] 5));have ho:=World.ownsRow_made (e:=5) (size:=1) (w.alloc (.cells #[.int .u8 ((n:Int)/256%256), .int .u8 ((n:Int)%256)] 5)) #[] 0 (Nat.le_refl _) (by unfold maxLen;omega) rfl;rw[World.size_alloc]at ho;have HB0:=Hd (hb0.alloc (.cells #[] 5));have CS1:=Hd hcs;have YC:=Hd ho;have Vz:=Hd (show Below w.heap.size w ((w.alloc (.cells #[.int .u8 ((n:Int)/256%256), .int .u8 ((n:Int)%256)] 5)).alloc (.cells #[] 5))from bW);clear hl hb0 hcs ho;go_enter Tryz.func110,Tryz.ntmps110;go_wp2_with (first|(at_builtin;refine ak rfl (.tmp 16) (.tmp 17) 22 rfl aF (w.heap.size+1) _ 0 [] rfl YC.o (λb=>b=w.heap.size) (some ⟨w.heap.size,0,none⟩) 2 2 (u8s (dJ n)) rfl CS1.o (iy _) (λh=>by cases h) (by unfold maxLen;omega) oM (by simp) ?_;intro v1 w1 hown1 hgrow1;have xu:=Hd ((Below.refl (w.heap.size+1) _).grown hgrow1 (by simp) (λk hk=>(YC.o.lt k hk).1));have hs1:=xu.o.size;simp only[World.size_alloc]at hs1;have HB1:=Hd (HB0.o.below xu.o oM);have bw1:=Vz.o.trans (xu.o.mono oM);have BW1:=Hd bw1;have HL1:=Hd (HL.o.ext bw1);obtain⟨r1,c1,rfl,hz1⟩:=bf hown1;have HO1:=Hd hown1;clear YC CS1 hown1 hgrow1 bw1 hz1)|(at_builtin;refine ak rfl (.tmp 19) (.tmp 20) 22 rfl aF (w.heap.size+1) _ (0+2) ([]++u8s (dJ n)) rfl HO1.o S a n c (u8s l) rfl HL1.o.cells (iy _) RG.o (by unfold maxLen;omega) oM oM ?_;intro v2 w2 hown2 hgrow2;have bel2:=Hd (aV xu.o oM HO1.o (Nat.le_refl _) hgrow2);have hs2:=hgrow2.size;have HB2:=Hd (HB0.o.below bel2.o oM);have bw2:=Vz.o.trans (bel2.o.mono oM);have BW2:=Hd bw2;have HL2:=Hd (HL.o.ext bw2);obtain⟨r2,c2,rfl,hz2⟩:=bf hown2;have HO2:=Hd hown2;have YD:=Hd (World.ownsRow_made (e:=5) (size:=1) w2 #[] 0 (Nat.le_refl _) (by unfold maxLen;omega) rfl);have CS3:=Hd (qJ (HB2.o.alloc (.cells #[] 5)));clear HO1 hown2 hgrow2 bw2 hz2)|(at_builtin;refine ak rfl (.tmp 22) (.tmp 23) 22 rfl aF w2.heap.size _ 0 [] rfl YD.o (λb=>b=w.heap.size) (some ⟨w.heap.size,0,none⟩) 2 2 (u8s (dJ n)) rfl CS3.o (iy _) (λh=>by cases h) (by unfold maxLen;omega) oM (by simp) ?_;intro v3 w3 hown3 hgrow3;have bel3:=Hd (((Below.refl w2.heap.size w2).alloc (Nat.le_refl _) (.cells #[] 5)).grown hgrow3 (by simp) (λk hk=>(YD.o.lt k hk).1));have hs3:=bel3.o.size;have BW3:=Hd (BW2.o.trans (bel3.o.mono oM));have HL3:=Hd (HL2.o.ext bel3.o);have ZP:=Hd (aK HO2.o bel3.o);obtain⟨r3,c3,rfl,hz3⟩:=bf hown3;have HO3:=Hd hown3;clear YD CS3 hown3 hgrow3 hz3))
 obtain⟨s,hs⟩:∃s,Dy (dJ n++l)=s:=⟨_,rfl⟩;have hsl:s<4294967296:=by rw[<- hs];exact Hl _
 have ho:=ZP.o;rw[List.nil_append,<- aW,Nat.zero_add]at ho;obtain⟨_,_,ee,hby⟩:=fM ho oM;cases ee;have hA:=Hr 0 _ _ _ _ oM w3 hby.at_;have HA:=Hd (hA.mono (R':=λe w'=>e= .returned (.int .u32 (s:Int))/\Below w3.heap.size w3 w') (λe w' h=>by rw[<- hs];exact h));have HSL:=Hd hsl;have HS:=Hd hs;clear ho hby hA hs hsl HO2 ZP;refine HA.o.mono ?_;rintro e w4 ⟨rfl,hb4⟩;have hs4:=hb4.size;have BW4:=Hd (BW3.o.trans (hb4.mono BW3.o.size));have HO4:=Hd (aK HO3.o hb4);clear hb4 HA HO3;go_wp2_with fail;refine(Ht s HSL.o w4).mono ?_;rintro e w5 ⟨p,rfl,hp,hbp,hb5⟩;have hs5:=hb5.size;have BW5:=Hd (BW4.o.trans (hb5.mono BW4.o.size));have HO5:=Hd (aK HO4.o hb5);have CSP:=Hd (qJ hbp);clear hb5 HO4 hbp;go_wp2_with (first|(at_builtin;refine ak rfl (.tmp 25) (.tmp 28) 22 rfl aF w2.heap.size _ (0+2) ([]++u8s (dJ n)) rfl HO5.o (λb=>b=p) (some ⟨p,0,none⟩) 4 4 (u8s (fC s)) rfl CSP.o (iy _) (λh=>by cases h) (by unfold maxLen;omega) oM oM ?_;intro v6 w6 hown6 hgrow6;have ZQ:=Hd (aV BW5.o oM HO5.o oM hgrow6);have hs6:=hgrow6.size;have HL6:=Hd (HL.o.ext ZQ.o);obtain⟨r6,c6,rfl,hz6⟩:=bf hown6;have HO6:=Hd hown6;clear HO5 hown6 hgrow6 hz6)|(at_builtin;refine ak rfl (.tmp 30) (.tmp 31) 22 rfl aF w2.heap.size _ (0+2+4) ([]++u8s (dJ n)++u8s (fC s)) rfl HO6.o S a n c (u8s l) rfl HL6.o.cells (iy _) RG.o (by unfold maxLen;omega) oM oM ?_;intro v7 w7 Iz yG;have abn:=Hd (aV ZQ.o oM HO6.o oM yG);have HO7:=Hd Iz;clear HO6 Iz yG))
 go_ret;refine⟨_,rfl,?_,abn.o⟩;have h:=HO7.o.mono (base':=w.heap.size) oM;rw[List.nil_append,<- aW,<- aW]at h;have e:outOf l=dJ n++fC s++l:=by unfold outOf;rw[HLN.o,HS.o]
 rw[e];exact h
theorem IB:(Tryz.prog.info? 3).map (λi=>(i.zero,i.size,i.bytes))=some (some (.int .i64 0),1,8):=kR
theorem jO:BQ Tryz.prog 24 3 8:=by
 obtain⟨i0,hi,hz0,hz1,hz2⟩:=info_parts IB;exact⟨Tryz.underlying24,i0,_,hi,hz0,hz1,hz2,rfl⟩
theorem AU(a:Option Addr)(n c:Nat)(l:List UInt8)(at_:Int)(w:World)(hl:BytesAt w a n c l)(ha:eY at_)(h:at_<0\/(n:Int)<=at_\/at_%64=0):
  Calls Tryz.prog 109 #[.slice a n c, .int .i64 at_] w (Iy w 5 3 []):=by
 have hend:∀w',Below w.heap.size w w'->Iy w 5 3 [] (.returned (.tuple #[.slice none 0 0, .slice none 0 0])) w':=λw' hb=>⟨_,_,rfl,World.ownsRow_nil _ _ _ _,World.ownsRow_nil _ _ _ _,hb⟩;have WU:=Hd hend;clear hl hend;by_cases h1:at_<0
 .have d1:decide (at_<0)=true:=decide_eq_true h1;clear h h1;go_enter Tryz.func109,Tryz.ntmps109;go_wp2;refine bodyPost_ret (v:= .tuple #[.slice none 0 0, .slice none 0 0]) (by simp[results,Tryz.results109,go_sem]) rfl (WU.o _ (Below.refl _ _))
 .obtain⟨k,rfl⟩:∃k:Nat,at_=(k:Int):=⟨at_.toNat,oM⟩;have d1:decide ((k:Int)<0)=false:=decide_eq_false h1;by_cases h2:n<=k
  .have d2:decide (n<=k)=true:=decide_eq_true h2;clear h h1 h2;go_enter Tryz.func109,Tryz.ntmps109;go_wp2;refine bodyPost_ret (v:= .tuple #[.slice none 0 0, .slice none 0 0]) (by simp[results,Tryz.results109,go_sem]) rfl (WU.o _ (Below.refl _ _))
  .have d2:decide (n<=k)=false:=decide_eq_false h2;have t1:(k:Int).tmod 64=(k:Int)%64:=Int.tmod_eq_emod_of_nonneg oM;have d3:(k:Int)%64=0:=oM;clear h h1 h2;go_enter Tryz.func109,Tryz.ntmps109;go_wp2;refine bodyPost_ret (v:= .tuple #[.slice none 0 0, .slice none 0 0]) (by simp[results,Tryz.results109,go_sem]) rfl (WU.o _ (Below.refl _ _))
set_option maxRecDepth 100000 in
theorem AV(b o n c:Nat)(l:List UInt8)(k:Nat)(w:World)(hl:BytesAt w (some ⟨b,o,none⟩) n c l)(hn:n<=1048576)(h1:k<n)(h2:k%64≠0)(x0:UInt8)(hx:l[k-k%64]? =some x0):
  Calls Tryz.prog 109 #[.slice (some ⟨b,o,none⟩) n c, .int .i64 (k:Int)] w (Iy w 5 3 (if x0=0 then lU l k else [])):=by
 have hend:∀w',Below w.heap.size w w'->Iy w 5 3 [] (.returned (.tuple #[.slice none 0 0, .slice none 0 0])) w':=λw' hb=>⟨_,_,rfl,World.ownsRow_nil _ _ _ _,World.ownsRow_nil _ _ _ _,hb⟩;have WU:=Hd hend;have hln:=hl.hlen;have d1:decide ((k:Int)<0)=false:=decide_eq_false oM;have d2:decide (n<=k)=false:=decide_eq_false oM;have t1:(k:Int).tmod 64=(k:Int)%64:=Int.tmod_eq_emod_of_nonneg oM;have d3:((k:Int)%64==0)=false:=by rw[beq_eq_false_iff_ne];omega
 obtain⟨fr,hfr⟩:∃fr,k-k%64=fr:=⟨_,rfl⟩;have e1:IntKind.i64.wrap ((k:Int)-(k:Int)%64)=(fr:Int):=by
  rw[show(k:Int)-(k:Int)%64=(fr:Int) by omega];exact IntWalk.i64_in _ oM
 have e2:(k:Int)-(k:Int)%64=(fr:Int):=oM;have e3:IntKind.i64.wrap (fr:Int)=(fr:Int):=IntWalk.i64_in _ oM;have e4:fr<n:=oM;rw[hfr]at hx;have c0:w.cell? ⟨b,o+fr,none⟩=some (.int .u8 (x0.toNat:Int)):=by
  obtain⟨b',o',h3,_,h4⟩:=hl.hat fr x0 hx;cases h3;exact h4
 have HL:=Hd hl;have HLN:=Hd hln;clear hend hl hln hx hfr;by_cases h0:x0=0
 .subst h0;rw[if_pos rfl];have c0':w.cell? ⟨b,o+fr,none⟩=some (.int .u8 0):=c0;clear c0;go_enter Tryz.func109,Tryz.ntmps109;go_wp2_with fail;go_loopg [6,7,8] (n-k) (λg bs ps ix wr=>∃(i:Nat) (pre:List (Nat×UInt8)),k<=i/\i<=n/\g=n-i/\ix= .int .i64 (i:Int)/\pre++lU l i=lU l k/\wr.ownsRow w.heap.size 5 1 bs pre.length (u8s (bytesIn pre))/\wr.ownsRow w.heap.size 3 1 ps pre.length (intsOf pre)/\Below w.heap.size w wr)
  case atStart=>exact⟨k,[],Nat.le_refl _,oM,rfl,rfl,rfl,World.ownsRow_nil _ _ _ _,World.ownsRow_nil _ _ _ _,Below.refl _ _⟩
  case round=>
   obtain⟨i,pre,hk1,hk2,rfl,rfl,hpre,hob,hop,hbl⟩:=hrel;have hpl:pre.length<=1048576:=by
    have h3:=congrArg List.length hpre;have h4:=Iw l k;rw[List.length_append]at h3;have:=HLN.o;omega
   have HOB:=Hd hob;have HOP:=Hd hop;have HBL:=Hd hbl;have Ua:=Hd hpre;obtain⟨ra,rc,rfl,_⟩:=bf hob;obtain⟨pa,pc,rfl,_⟩:=bf hop;have t2:(i:Int).tmod 64=(i:Int)%64:=Int.tmod_eq_emod_of_nonneg oM;clear hob hop hbl hpre c0' d1 d2 d3 t1 e1 e2 e3 e4;by_cases hin:i<n
   .obtain⟨x,hx⟩:∃x,l[i]? =some x:=⟨_,List.getElem?_eq_getElem (by have:=HLN.o;omega)⟩;obtain⟨b',o',e5,hb',hc⟩:=HL.o.hat i x hx;cases e5;have hc':=(HBL.o.cell (p:=⟨b,o+i,none⟩) hb').trans hc;have hin':(i:Int)<(n:Int):=oM;have HX:=Hd hx;clear hx hc hb';by_cases h64:i%64=0
    .have d4:(i:Int)%64=0:=oM;by_cases hx0:x=0
     .subst hx0;have hc2:wr.cell? ⟨b,o+i,none⟩=some (.int .u8 0):=hc';clear hc';go_wp2_with fail;go_roundg (n-(i+1))
      case measure=>omega
      case rel=>exact⟨i+1,pre,oM,oM,rfl,by go_num,by rw[<- Dz HX.o h64];exact Ua.o,HOB.o,HOP.o,HBL.o⟩
     .have hz:((x.toNat:Int) !=0)=true:=by
       rw[bne_iff_ne];intro e;exact hx0 (UInt8.toNat_inj.1 (by exact_mod_cast e))
      have Qi:=Hd (show pre=lU l k by rw[<- Ua.o,DC HX.o h64 hx0,List.append_nil]);clear hx0 h64;go_wp2_with fail;refine bodyPost_ret (v:= .tuple #[.slice ra pre.length rc, .slice pa pre.length pc]) (by simp[results,Tryz.results109,go_sem]) rfl ⟨_,_,rfl,by rw[<- Qi.o];exact HOB.o,by rw[<- Qi.o];exact HOP.o,HBL.o⟩
    .have d4:¬(i:Int)%64=0:=oM;have XK:=Hd (Ib HX.o h64);have HCX:=Hd (cells_one (S:=λb=>b=wr.heap.size) (g:=wr.heap.size) (v:= .int .u8 (x.toNat:Int)) rfl (by simp) (Blk.new wr [.int .u8 (x.toNat:Int)] 5|>.cell 0 rfl))
     clear h64;go_wp2_with (first|(at_builtin;refine ak rfl (.tmp 49) (.tmp 54) 22 rfl aF w.heap.size _ pre.length (u8s (bytesIn pre)) rfl (HOB.o.alloc _) (λb=>b=wr.heap.size) (some ⟨wr.heap.size,0,none⟩) 1 1 [.int .u8 (x.toNat:Int)] rfl HCX.o (λu hu=>by simp at hu;subst hu;rfl) (λh=>by cases h) (by unfold maxLen;omega) oM (by have:=HBL.o.size;simp;omega) ?_;intro v2 w2 hown2 hgrow2;have bel2:=Hd (aV (HBL.o.alloc HBL.o.size _) (by have:=HBL.o.size;simp;omega) (HOB.o.alloc _) (Nat.le_refl _) hgrow2);have hs2:=bel2.o.size;have HP2:=Hd (Iu (HOP.o.alloc _) (HOB.o.alloc (.cells #[.int .u8 (x.toNat:Int)] 5)) dC hgrow2);obtain⟨r2,c2,rfl,hz2⟩:=bf hown2;have HO2:=Hd hown2;have HCI:=Hd (cells_one (S:=λb=>b=w2.heap.size) (g:=w2.heap.size) (v:= .int .i64 (i:Int)) rfl (by simp) (Blk.new w2 [.int .i64 (i:Int)] 3|>.cell 0 rfl));clear HOB HOP HCX hown2 hgrow2 hz2)|(at_builtin;refine ak rfl (.tmp 56) (.tmp 58) 24 rfl jO w.heap.size _ pre.length (intsOf pre) rfl (HP2.o.alloc _) (λb=>b=w2.heap.size) (some ⟨w2.heap.size,0,none⟩) 1 1 [.int .i64 (i:Int)] rfl HCI.o (λu hu=>by simp at hu;subst hu;rfl) (λh=>by cases h) (by unfold maxLen;omega) oM (by simp;omega) ?_;intro v3 w3 hown3 hgrow3;have bel3:=Hd (aV (bel2.o.alloc oM _) (by simp;omega) (HP2.o.alloc _) (Nat.le_refl _) hgrow3);have HB3:=Hd (Iu (HO2.o.alloc _) (HP2.o.alloc (.cells #[.int .i64 (i:Int)] 3)) dC hgrow3);obtain⟨r3,c3,rfl,hz3⟩:=bf hown3;have HO3:=Hd hown3;clear HP2 HO2 HCI hown3 hgrow3 hz3))
     go_roundg (n-(i+1))
     case measure=>omega
     case rel=>
      refine⟨i+1,pre++[(i,x)],oM,oM,rfl,by go_num,?_,?_,?_,bel3.o⟩
      .rw[List.append_assoc,List.singleton_append,<- XK.o];exact Ua.o
      .have h:=HB3.o;rw[List.length_append,bytesIn,List.map_append,aW];exact h
      .have h:=HO3.o;rw[List.length_append,intsOf,List.map_append];exact h
   .have hni:¬((i:Int)<(n:Int)):=oM;have Qi:=Hd (show pre=lU l k by rw[<- Ua.o,rU (by have:=HLN.o;omega),List.append_nil]);clear hin;go_wp2_with fail;refine bodyPost_ret (v:= .tuple #[.slice ra pre.length rc, .slice pa pre.length pc]) (by simp[results,Tryz.results109,go_sem]) rfl ⟨_,_,rfl,by rw[<- Qi.o];exact HOB.o,by rw[<- Qi.o];exact HOP.o,HBL.o⟩
 .rw[if_neg h0];have hz:((x0.toNat:Int) !=0)=true:=by
   rw[bne_iff_ne];intro e;exact h0 (UInt8.toNat_inj.1 (by exact_mod_cast e))
  clear h0;go_enter Tryz.func109,Tryz.ntmps109;go_wp2;refine bodyPost_ret (v:= .tuple #[.slice none 0 0, .slice none 0 0]) (by simp[results,Tryz.results109,go_sem]) rfl (WU.o _ (Below.refl _ _))
end Go.Proofs.YtenmnhnlcnmloaaGreat
