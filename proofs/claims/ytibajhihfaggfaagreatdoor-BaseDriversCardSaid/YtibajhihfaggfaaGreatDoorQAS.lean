/- BaseDrivers. No condition. -/
import Derived.Test.YtibajhihfaggfaaGreatDoorQAP
set_option linter.all false
set_option maxRecDepth 100000
set_option maxHeartbeats 0
namespace Go.Proofs.Gm
open Go.Proofs.Tryz Go.RowKit Go.Maps Go.Proofs.Bm
def acp{F:Nat}(dx:F<=6000){C:Ctx}{w:YC}{l r1 r2:Zi}{nm:Yz}(h:PS C w l)(jV:C.x5=some (.bool false))(h1:cK "class" l=some r1)(h2:word 2 r1=some (nm,r2))(hn4:zX.contains nm=false){r3 r5 r6 r7 r8 r:Zi}{fo pa cr fe iv:Zg}(h3:(if aO "[" r2=true then((ld r2.tail).bind λx=>(cK "]" x.2).bind λy=>some ([x.1],y)) else some ([],r2))=some (fo,r3))(oQ:∀s∈fo.map bF,bW s)(h5:(if aO "inherit" r3=true then((nc F r3.tail).bind λx=>if dv x.2==2 then none else some ([x.1],x.2)) else some ([],r3))=some (pa,r5))(hpn:(∃x,pa=[x])->∀nm r1,word 2 r3.tail=some (nm,r1)->zW.contains nm=false)(h6:(if aO "create" r5=true then((fB 1 F r5.tail).bind λx=>some (strs x.1,x.2)) else some ([],r5))=some (cr,r6))(h7:qm (fo.map bF) F r6=some (fe,r7))(hfe:fe.length<=1000000)(h8:(if aO "invariant" r7=true then cI F r7.tail else some ([],r7))=some (iv,r8))(h9:cK "end" r8=some r)(hD:Ii 116 [.str nm,false,fo,pa,(cr),fe,iv]):Calls prog 72 #[pP C] w (Sz C [.str nm,false,fo,pa,cr,fe,iv] r w):=by
 have hdf:aO "deferred" l=false:=V6 h1 aj;obtain⟨t0,l0,rfl⟩:∃t0 l0,l=t0::l0:=by cases l with|nil=>cases h1|cons t r=>exact⟨t,r,rfl⟩
 have WO:∀s∈fo.map bF,gB false false true s=false:=by
  split at h3
  .obtain⟨⟨x,q1⟩,e1,e2⟩:=aw.1 h3;obtain⟨q2,e3,e4⟩:=aw.1 e2
   cases e4;unfold ld at e1;obtain⟨⟨xa,q4⟩,_,e1⟩:=aw.1 e1;obtain⟨q5,_,e1⟩:=aw.1 e1;obtain⟨⟨xb,q6⟩,_,e1⟩:=aw.1 e1;split at e1
   .cases e1
   .rename_i hb
    cases e1;simp only[j5,rV,gI] at hb;intro s hs;simp only[lp,xK,bF,JH] at hs;subst hs;exact amb hb.1
  .cases h3;intro s hs;cases hs
 have S0:=(ST.start h).box (cO #[eS,false,nS,nS,nS,nS,nS] 83);have nA:C.Bd<=w.heap.size:=h.bd;revert jV h2 hn4 h3 oQ h5 hpn h6 h7 hfe h8 h9 hD h1 hdf WO nA;refine akd ?_;intro jV h2 hn4 h3 oQ h5 hpn h6 h7 hfe h8 h9 hD h1 hdf WO nA;go_enter func72,ntmps72;go_wp2_with fail;refine(af5 S0.ps).mono ?_;rintro e w1 ⟨px,py,rfl,K⟩;have S1:=((S0.zd K).box (cO #[px,py] 42)).ajZ (cO #[eS,false,nS,nS,nS,nS,nS] 83) (w1.heap.size+1) ai;go_wp2_with fail;refine(bU S1.ps jV "deferred" hdf).mono ?_;rintro e w2 ⟨rfl,P,K⟩;have S2:=S1.aB P K;have d1:=bc (S2.heap 0) 1;have f1:=S2.lg 0 1;go_wp2_with fail;have S3:=S2.st 0 1 (.bool false);refine(dc S3.ps jV "class" h1).mono ?_;rintro e w4 ⟨rfl,P,K⟩;have S4:=S3.aB P K;go_wp2_with fail;refine(rR S4.ps jV true true true h2 (af6 hn4)).mono ?_;rintro e w5 ⟨rfl,P,K⟩;have S5:=S4.aB P K;have d0:=bc (S5.heap 0) 0;have f0:=S5.lg 0 0;have d4:=S5.ps.c4;have f4:=S5.ps.fr 4;go_wp2_with fail;have S6:=S5.st 0 0 (.string (bs nm));have Ma:=cn nA S6.sg.le;have S7:=S6.dj (fs:=[]) (fv:=sV none 0 0) (Bd:=C.Bd) (aM _) Ma .nil;obtain⟨B24,af8⟩:∃B,aO "[" r2=B:=⟨_,rfl⟩
 refine(sC S7.ps jV "[" af8).mono ?_;rintro e w8 ⟨rfl,P,K⟩;have S8:=S7.aB P K;replace af8:=ah af8;go_upto_if 24 with fail;go_cut [] from 24 to 54 (λwc=>∃(fv:YE) (Bd:Nat) (fa:YS) (fc:Nat),ST (C.dj (fo.map bF) fv Bd) w r3 [(w1.heap.size+1,cO #[.string (bs nm),false,sV fa fo.length fc,nS,nS,nS,nS] 83),(w1,cO #[px,py] 42),(w,cO #[eS,false,nS,nS,nS,nS,nS] 83)] [] [(.sl (strs (fo.map bF)),fv),(.sl fo,sV fa fo.length fc)] wc)
 case first=>
  cases B24 with
  |true=>
   rw[aI rfl] at S8;have h3:=h3.out;rw[aI af8.out] at h3;obtain⟨⟨x,q1⟩,e1,e2⟩:=aw.1 h3;obtain⟨q2,hm,e4⟩:=aw.1 e2
   cases e4;unfold ld at e1;obtain⟨⟨xa,q4⟩,hxa,e1⟩:=aw.1 e1;obtain⟨q5,Sp,e1⟩:=aw.1 e1;obtain⟨⟨xb,q6⟩,hxb,e1⟩:=aw.1 e1;dsimp only at hm Sp hxb e1;split at e1
   .cases e1
   rename_i IS
   cases e1;simp only[j5,rV,gI] at IS;have hnc:aO "," q1=false:=V6 hm aj;revert hm hxa Sp hxb IS hnc;refine LX ?_;intro hm hxa Sp hxb IS hnc;go_wp2_with fail;go_loopg [5] 1 (λgg s5 wr=>(gg=1/\s5=.bool true/\ST (C.dj [] (sV none 0 0) C.Bd) w r2.tail [(w1.heap.size+1,cO #[.string (bs nm),false,nS,nS,nS,nS,nS] 83),(w1,cO #[px,py] 42),(w,cO #[eS,false,nS,nS,nS,nS,nS] 83)] [] [] wr)∨(gg=0/\s5=.bool false/\∃(fv:YE) (Bd:Nat) (fa:YS) (fc:Nat),ST (C.dj [xa] fv Bd) w q1 [(w1.heap.size+1,cO #[.string (bs nm),false,sV fa 1 fc,nS,nS,nS,nS] 83),(w1,cO #[px,py] 42),(w,cO #[eS,false,nS,nS,nS,nS,nS] 83)] [] [(.sl (strs [xa]),fv),(.sl [([xa,xb]:Row)],sV fa 1 fc)] wr))
   case atStart=>exact .inl ⟨rfl,rfl,S8⟩
   case round=>
    rcases hrel with⟨rfl,rfl,SL⟩|⟨rfl,rfl,fv,Bd,fa,fc,SL⟩
    .clear S8;go_wp2_with fail;refine(rR SL.ps jV true true true hxa (af6 IS.1)).mono ?_;rintro e w9 ⟨rfl,P,K⟩;have S9:=SL.aB P K;have ie:=S9.box (cO #[xa,eS] 130);go_wp2_with fail;refine(dc ie.ps jV ":" Sp).mono ?_;rintro e xS ⟨rfl,P,K⟩;have ke:=ie.aB P K;go_wp2_with fail;refine(rR ke.ps jV false true true hxb (af7 IS.2)).mono ?_;rintro e vl ⟨rfl,P,K⟩;have jx:=ke.aB P K;have d0:=bc (jx.heap 0) 1;have f0:=jx.lg 0 1;have mx:=jx.st 0 1 (.string (bs xb));have qo:=mx.own 130 2;have hl:=qo.heap 0;have d2:=bc (qo.heap 1) 2;have BP:=qo.aoO (T:=130) (cs:=[.string (bs xa),.string (bs xb)]) (rw:=[xa,xb]) vl.heap.size ai (.cons (.str _) (.cons (.str _) .nil));go_wp2_with (first|refine T6 hl ?_|(at_builtin;refine adw ?_));refine adx ?_;refine VF (T:=78) (x:=⟨130,2,sV none 0 0,[]⟩) (rows2:=[[xa,xb]]) (.tmp 37) (.tmp 39) BP af ai vY (BP.data 0) rfl rfl ?_;intro fa fc W SD;have d2:=bc (SD.heap 1) 2;have f2:=SD.lg 1 2;go_wp2_with fail;have Qd:=((SD.Uk).set 1 2 (sV fa 1 fc) #[.string (bs nm),false,sV fa 1 fc,nS,nS,nS,nS]).Tm.own 9 1;refine aY [some 42,some 43,some 44,some 45,some 46,some 47,some 48,some 49,some 50,some 51,some 52,none] [0,1,2,3,4,5,6,7,8,9,10,11] (A:=?_) (λlb u V=>((lb 7=false->ST (C.dj [] (sV none 0 0) C.Bd) w q1 [(w9,cO #[.string (bs xa),.string (bs xb)] 130),(w1.heap.size+1,cO #[.string (bs nm),.bool false,sV fa 1 fc,sV none 0 0,sV none 0 0,sV none 0 0,sV none 0 0] 83),(w1,cO #[iV px,iV py] 42),(w,cO #[.string ⟨#[]⟩,.bool false,sV none 0 0,sV none 0 0,sV none 0 0,sV none 0 0,sV none 0 0] 83)] [⟨9,1,sV none 0 0,[]⟩] [(.sl [([.str xa,.str xb]:Row)],sV fa 1 fc)] V)/\(lb 7=true->lb 8=false->∃a,u 7=sV a 1 1/\ST (C.dj [] (sV none 0 0) C.Bd) w q1 [(w9,cO #[.string (bs xa),.string (bs xb)] 130),(w1.heap.size+1,cO #[.string (bs nm),.bool false,sV fa 1 fc,sV none 0 0,sV none 0 0,sV none 0 0,sV none 0 0] 83),(w1,cO #[iV px,iV py] 42),(w,cO #[.string ⟨#[]⟩,.bool false,sV none 0 0,sV none 0 0,sV none 0 0,sV none 0 0,sV none 0 0] 83)] [⟨9,1,sV none 0 0,[]⟩] ((.sl [[.str xa]],sV a 1 1)::[(.sl [([.str xa,.str xb]:Row)],sV fa 1 fc)]) V)/\(lb 8=true->lb 11=false->∃v2,u 8=v2/\ST (C.dj [] (sV none 0 0) C.Bd) w q1 [(w9,cO #[.string (bs xa),.string (bs xb)] 130),(w1.heap.size+1,cO #[.string (bs nm),.bool false,sV fa 1 fc,sV none 0 0,sV none 0 0,sV none 0 0,sV none 0 0] 83),(w1,cO #[iV px,iV py] 42),(w,cO #[.string ⟨#[]⟩,.bool false,sV none 0 0,sV none 0 0,sV none 0 0,sV none 0 0,sV none 0 0] 83)] [⟨9,1,v2,[]++[[.str xa]]⟩] [(.sl [([.str xa,.str xb]:Row)],sV fa 1 fc)] V)/\(lb 11=true->∃(fv:YE) (Bd:Nat),ST (C.dj [xa] fv Bd) w q1 [(w9,cO #[.string (bs xa),.string (bs xb)] 130),(w1.heap.size+1,cO #[.string (bs nm),.bool false,sV fa 1 fc,sV none 0 0,sV none 0 0,sV none 0 0,sV none 0 0] 83),(w1,cO #[iV px,iV py] 42),(w,cO #[.string ⟨#[]⟩,.bool false,sV none 0 0,sV none 0 0,sV none 0 0,sV none 0 0,sV none 0 0] 83)] [] ((.sl (strs [xa]),fv)::[(.sl [([.str xa,.str xb]:Row)],sV fa 1 fc)]) V))/\VT [some (pP C),some (pP C),some (pP C),some (.pointer (some ⟨C.p,4,none⟩)),some (sV none 0 0),some (.pointer (some ⟨w9,0,none⟩)),some (.string (bs xa)),none,none,some (pP C),some (.pointer (some ⟨C.p,4,none⟩)),none] lb u) af af (λu=>?_) (λlb u h0=>⟨⟨λ_=>Qd.drew,λe=>mX,λe=>HD,λe=>vX⟩,VT.none rfl h0⟩) ?_ (λlb u V hl hI=>?_);rotate_left
     .exact bK
     .repeat' first|apply Bm.be.cons|exact Bm.be.nil
      all_goals intro lb u V K hl hn hf hI hK
      .exact fV
      .go_simp;exact hK _ _ _ ⟨hI.1,hI.2.yes 1⟩ rfl
      .exact rE
      .exact Kv
      .have e3:=hI.2 3 _ rfl (hn 3 af);have d:V.cell? ⟨C.p,4,none⟩=some (sV none 0 0):=by
        cases e3:lb 7 with
        |false=>exact(hI.1.1 e3).ps.c4
        |true=>obtain⟨_,_,hs⟩:=hI.1.2.1 e3 (hf 8 af);exact hs.ps.c4
       exact as9
      .exact aty
      .have e5:=hI.2 5 _ rfl (hn 5 af);have d:_=(some (.string (bs xa)):Option Value):=(hI.1.1 (hf 7 af)).cell 0 0;exact Du
      .have e6:=hI.2 6 _ rfl (hn 6 af);have SC:=hI.1.1 hl;go_simp;exact hK _ _ _ ⟨⟨λe=>bM,λ_ _=>⟨some ⟨V,0,none⟩,rfl,SC.lay (T:=9) (cs:=[.string (bs xa)]) (rw:=[xa]) (.cons (.str _) .nil)⟩,λe=>rK,λe=>Hg⟩,hI.2.no 7⟩ pt
      .have e4:=hI.2 4 _ rfl (hn 4 af);obtain⟨a,e7,SC⟩:=hI.1.2.1 (hn 7 af) hl;refine Zs (T:=22) (x:=⟨9,1,sV none 0 0,[]⟩) (rows2:=[[xa]]) (.tmp 46) (.tmp 49) SC af ai vY (SC.data 0) (hs:=e4) (hz:=e7) ?_;intro a2 c2 w' SD;exact hK _ _ _ ⟨⟨λe=>Hh,λ_ e=>bM,λ_ _=>⟨_,rfl,SD.Uk⟩,λe=>Hg⟩,hI.2.no 8⟩ rfl
      .have e0:=hI.2 0 _ rfl (hn 0 af);go_simp;exact hK _ _ _ ⟨hI.1,hI.2.yes 9⟩ mI
      .exact EW
      .have zv:=hI.2 10 _ rfl (hn 10 af);obtain⟨v2,e8,SC⟩:=hI.1.2.2.1 (hn 8 af) hl;obtain⟨a2,c2,rfl⟩:=SC.form;have d:=SC.ps.c4;have d2:=SC.ps.fr 4;have SG:=SC.Tm;go_simp;refine hK undef _ _ ⟨⟨λe=>Hh,λ_ e=>(by rw[jJ aj,hn 8 af] at e;cases e),λ_ e=>bM,λ_=>⟨_,V.heap.size,SG.dj (fs:=[xa]) (Bd:=V.heap.size) (cn nA.out SG.sg.le) (aM _) ((SG.data 0).mono λb hb hl=>⟨hl,by have:=SG.sg.pw;have:=hb.1;exact λe=>by rw[e] at this;omega,hb.2.1,by simp⟩)⟩⟩,hI.2.no 11⟩ (by rw[e8,zv];try rfl)
     obtain⟨fv,Bd,SE⟩:=hI.1.2.2.2 (hl 11 aj);have SF:=SE.aqs (Kept.refl _ _);go_wp2_with fail;refine(bU SF.ps jV "," hnc).mono ?_;rintro e w17 ⟨rfl,P,K⟩;have E2:=SF.aB P K;go_wp2_with fail;go_roundg 0
     case measure=>omega
     case rel=>exact .inr ⟨rfl,rfl,_,_,_,_,E2⟩
    .clear S8;go_wp2_with fail;refine(dc SL.ps jV "]" hm).mono ?_;rintro e w9 ⟨rfl,P,K⟩;have S9:=SL.aB P K;go_wp2_with fail;go_meet
     case rel=>exact⟨_,_,_,_,S9⟩
  |false=>
   rw[aE ai] at S8;have h3:=h3.out;rw[aE (by rw[af8.out];simp)] at h3
   cases h3;have SN:=S8.nil.nil;go_wp2_with fail;go_meet
   case rel=>exact⟨_,_,none,0,SN⟩
 case rest=>
  obtain⟨fv,Bd,fa,fc,S9⟩:=hcut;have hC1:(C.dj (fo.map bF) fv Bd).fs=fo.map bF:=rfl;replace hC1:=ah hC1;go_wp2_with fail;obtain⟨B56,af9⟩:∃B,aO "inherit" r3=B:=⟨_,rfl⟩
  refine(sC S9.ps jV "inherit" af9).mono ?_;rintro e AT ⟨rfl,P,K⟩;have ie:=S9.aB P K;replace af9:=ah af9;go_upto_if 56 with fail;go_cut [] from 56 to 67 (λwc=>∃(ga:YS) (gc:Nat),ST (C.dj (fo.map bF) fv Bd) w r5 [(w1.heap.size+1,cO #[.string (bs nm),false,sV fa fo.length fc,sV ga pa.length gc,nS,nS,nS] 83),(w1,cO #[px,py] 42),(w,cO #[eS,false,nS,nS,nS,nS,nS] 83)] [] [(.sl pa,sV ga pa.length gc),(.sl (strs (fo.map bF)),fv),(.sl fo,sV fa fo.length fc)] wc)
  case first=>
   cases B56 with
   |true=>
    rw[aI rfl] at ie;have h5:=h5.out;rw[aI af9.out] at h5;obtain⟨⟨x,q1⟩,hx,e2⟩:=aw.1 h5;dsimp only at e2;split at e2
    .cases e2
    rename_i jF
    cases e2;have xe:((dv r5:Int)==2)=false:=by rw[gH];simp only[dU] at jF;omega
    have eK:=λnm r1 hw=>af7 (hpn ⟨_,rfl⟩ nm r1 hw);revert hx eK;refine ct ?_;intro hx eK;go_wp2_with fail;go_loopg [7] 1 (λgg s7 wr=>(gg=1/\s7=.bool true/\ST (C.dj (fo.map bF) fv Bd) w r3.tail [(w1.heap.size+1,cO #[.string (bs nm),false,sV fa fo.length fc,nS,nS,nS,nS] 83),(w1,cO #[px,py] 42),(w,cO #[eS,false,nS,nS,nS,nS,nS] 83)] [] [(.sl (strs (fo.map bF)),fv),(.sl fo,sV fa fo.length fc)] wr)∨(gg=0/\s7=.bool false/\∃(ga:YS) (gc:Nat),ST (C.dj (fo.map bF) fv Bd) w r5 [(w1.heap.size+1,cO #[.string (bs nm),false,sV fa fo.length fc,sV ga 1 gc,nS,nS,nS] 83),(w1,cO #[px,py] 42),(w,cO #[eS,false,nS,nS,nS,nS,nS] 83)] [] [(.sl [x],sV ga 1 gc),(.sl (strs (fo.map bF)),fv),(.sl fo,sV fa fo.length fc)] wr))
    case atStart=>exact .inl ⟨rfl,rfl,ie⟩
    case round=>
     rcases hrel with⟨rfl,rfl,SL⟩|⟨rfl,rfl,ga,gc,SL⟩
     .clear ie;go_wp2_with fail;have ke:=SL.own 171 6;refine aY [some 61,some 62,some 63,some 64,some 65,some 66,some 67,none] [0,1,2,3,4,5,6,7] (A:=?_) (λlb u V=>((lb 3=false->ST (C.dj (fo.map bF) fv Bd) w r3.tail [(w1.heap.size+1,cO #[.string (bs nm),false,sV fa fo.length fc,nS,nS,nS,nS] 83),(w1,cO #[px,py] 42),(w,cO #[eS,false,nS,nS,nS,nS,nS] 83)] (⟨171,6,sV none 0 0,[]⟩::[]) [(.sl (strs (fo.map bF)),fv),(.sl fo,sV fa fo.length fc)] V)/\(lb 3=true->lb 4=false->∃(pn:Yz) (ga:YS) (gm gc:Nat),u 3=.agg #[pn,nS,nS,nS,sV ga gm gc,nS]/\aP (Fr w [(w1.heap.size+1,cO #[.string (bs nm),false,sV fa fo.length fc,nS,nS,nS,nS] 83),(w1,cO #[px,py] 42),(w,cO #[eS,false,nS,nS,nS,nS,nS] 83)] (⟨171,6,sV none 0 0,[]⟩::[])) V x [.string (bs pn),sV none 0 0,sV none 0 0,sV none 0 0,sV ga gm gc,sV none 0 0]/\ST (C.dj (fo.map bF) fv Bd) w r5 [(w1.heap.size+1,cO #[.string (bs nm),false,sV fa fo.length fc,nS,nS,nS,nS] 83),(w1,cO #[px,py] 42),(w,cO #[eS,false,nS,nS,nS,nS,nS] 83)] (⟨171,6,sV none 0 0,[]⟩::[]) [(.sl (strs (fo.map bF)),fv),(.sl fo,sV fa fo.length fc)] V)/\(lb 4=true->lb 5=false->∃a,u 4=sV a 1 1/\(x).length=6/\an (Fr w [(w1.heap.size+1,cO #[.string (bs nm),false,sV fa fo.length fc,nS,nS,nS,nS] 83),(w1,cO #[px,py] 42),(w,cO #[eS,false,nS,nS,nS,nS,nS] 83)] (⟨171,6,sV none 0 0,[]⟩::[])) V (.sl [x]) (sV a 1 1)/\ST (C.dj (fo.map bF) fv Bd) w r5 [(w1.heap.size+1,cO #[.string (bs nm),false,sV fa fo.length fc,nS,nS,nS,nS] 83),(w1,cO #[px,py] 42),(w,cO #[eS,false,nS,nS,nS,nS,nS] 83)] (⟨171,6,sV none 0 0,[]⟩::[]) [(.sl (strs (fo.map bF)),fv),(.sl fo,sV fa fo.length fc)] V)/\(lb 5=true->lb 7=false->∃v2,u 5=v2/\ST (C.dj (fo.map bF) fv Bd) w r5 [(w1.heap.size+1,cO #[.string (bs nm),false,sV fa fo.length fc,nS,nS,nS,nS] 83),(w1,cO #[px,py] 42),(w,cO #[eS,false,nS,nS,nS,nS,nS] 83)] (⟨171,6,v2,([]++[x])⟩::[]) [(.sl (strs (fo.map bF)),fv),(.sl fo,sV fa fo.length fc)] V)/\(lb 7=true->∃v2,ST (C.dj (fo.map bF) fv Bd) w r5 [(w1.heap.size+1,cO #[.string (bs nm),false,sV fa fo.length fc,v2,nS,nS,nS] 83),(w1,cO #[px,py] 42),(w,cO #[eS,false,nS,nS,nS,nS,nS] 83)] (⟨171,6,v2,([]++[x])⟩::[]) [(.sl (strs (fo.map bF)),fv),(.sl fo,sV fa fo.length fc)] V))/\VT [some (.pointer (some ⟨w1.heap.size+1,3,none⟩)),some (sV none 0 0),some (pP C),none,none,none,some (.pointer (some ⟨w1.heap.size+1,3,none⟩)),none] lb u) af af (λu=>?_) (λlb u h0=>⟨⟨λ_=>ke.drew,λe=>qf,λe=>qe,λe=>qd,λe=>mX⟩,VT.none rfl h0⟩) ?_ (λlb u V hl hI=>?_);rotate_left
      .exact bK
      .repeat' first|apply Bm.be.cons|exact Bm.be.nil
       all_goals intro lb u V K hl hn hf hI hK
       .exact fV
       .have e0:=hI.2 0 _ rfl (hn 0 af);have d:_=(some (sV none 0 0):Option Value):=(show V.cell? _=some (sV none 0 0) from by
         cases e3:lb 3 with
         |false=>exact(hI.1.1 e3).cell 0 3
         |true=>
          cases e4:lb 4 with
          |false=>obtain⟨_,_,_,_,_,_,hs⟩:=hI.1.2.1 e3 e4;exact hs.cell 0 3
          |true=>obtain⟨_,_,_,_,hs⟩:=hI.1.2.2.1 e4 (hf 5 af);exact hs.cell 0 3)
        exact mH
       .exact oq
       .have e2:=hI.2 2 _ rfl (hn 2 af);go_simp;have SC:=hI.1.1 hl;refine(YK dx SC.ps jV hx eK).mono ?_;rintro e wA ⟨⟨v,rfl,pn,ga,gm,gc,rfl,hr⟩,P,K⟩;dsimp only;have SD:=SC.aB P K;exact hK _ _ _ ⟨⟨λe=>bM,λ_ _=>⟨_,_,_,_,rfl,hr.mono λ_ hb _=>SC.free hb,SD⟩,λe=>tV,λe=>iM,λe=>kh⟩,hI.2.no 3⟩ ki
       .obtain⟨pn,ga,gm,gc,eca,hr,SC⟩:=hI.1.2.1 (hn 3 af) hl;go_simp;have SL:=SC.lay (T:=171) hr;exact hK _ _ _ ⟨⟨λe=>iN,λ_ e=>bM,λ_ _=>⟨some ⟨V,0,none⟩,rfl,by rw[hr.1];rfl,SL.data 0,SL.Uk⟩,λe=>iM,λe=>kh⟩,hI.2.no 4⟩ (by rw[eca];try rfl)
       .have e1:=hI.2 1 _ rfl (hn 1 af);obtain⟨a,ela,hy,hd,SC⟩:=hI.1.2.2.1 (hn 4 af) hl;refine Zs (T:=79) (x:=⟨171,6,sV none 0 0,[]⟩) (rows2:=[x]) (.tmp 62) (.tmp 65) SC af ai Ht hd (hs:=e1) (hz:=ela) ?_;intro a2 c2 w' SD;exact hK _ _ _ ⟨⟨λe=>iN,λ_ e=>gL,λ_ e=>bM,λ_ _=>⟨_,rfl,SD⟩,λe=>kh⟩,hI.2.no 5⟩ rfl
       .exact ur
       .have e6:=hI.2 6 _ rfl (hn 6 af);obtain⟨v2,eap,SC⟩:=hI.1.2.2.2.1 (hn 5 af) hl;obtain⟨a2,c2,jo⟩:=SC.form;generalize List.length _=n2 at jo;subst jo;have d:=bc (SC.heap 0) 3;have d2:=SC.lg 0 3;go_simp;refine hK undef _ _ ⟨⟨λe=>iN,λ_ e=>gL,λ_ e=>mV,λ_ e=>bM,λ_=>⟨_,SC.set 0 3 _ _⟩⟩,hI.2.no 7⟩ (by rw[eap,e6];try rfl)
      obtain⟨v2,SE⟩:=hI.1.2.2.2.2 (hl 7 aj);obtain⟨ga,gc,rfl⟩:=SE.form;have SF:=SE.Tm;go_wp2_with fail;refine(gA SF.ps jV).mono ?_;rintro e vl ⟨rfl,K⟩;have jx:=SF.zd K;go_wp2_with fail;go_roundg 0
      case measure=>omega
      case rel=>exact .inr ⟨rfl,rfl,_,_,jx⟩
     .clear ie;go_wp2_with fail;go_meet
      case rel=>exact⟨_,_,SL⟩
   |false=>
    rw[aE ai] at ie;have h5:=h5.out;rw[aE (by rw[af9.out];simp)] at h5
    cases h5;have SN:=ie.nil;exact kl
  case rest=>
   obtain⟨ga,gc,ke⟩:=hcut;go_wp2_with fail;obtain⟨B69,aga⟩:∃B,aO "create" r5=B:=⟨_,rfl⟩
   refine(sC ke.ps jV "create" aga).mono ?_;rintro e vl ⟨rfl,P,K⟩;have jx:=ke.aB P K;replace aga:=ah aga;go_upto_if 69 with fail;go_cut [] from 69 to 72 (λwc=>∃(ca:YS) (cc:Nat),ST (C.dj (fo.map bF) fv Bd) w r6 [(w1.heap.size+1,cO #[.string (bs nm),false,sV fa fo.length fc,sV ga pa.length gc,sV ca cr.length cc,nS,nS] 83),(w1,cO #[px,py] 42),(w,cO #[eS,false,nS,nS,nS,nS,nS] 83)] [] [(.sl cr,sV ca cr.length cc),(.sl pa,sV ga pa.length gc),(.sl (strs (fo.map bF)),fv),(.sl fo,sV fa fo.length fc)] wc)
   case first=>
    cases B69 with
    |true=>
     rw[aI rfl] at jx;have h6:=h6.out;rw[aI aga.out] at h6;obtain⟨⟨x,q1⟩,hx,e2⟩:=aw.1 h6
     cases e2;go_wp2_with fail;refine(Q1 hx jx.ps jV dx).mono ?_;rintro e ND ⟨⟨ca,cc,rfl,hv,-⟩,P,K⟩;have mx:=jx.IM P K hv;have d4:=bc (mx.heap 0) 4;have f4:=mx.lg 0 4;go_wp2_with fail;have qo:=mx.st 0 4 (.slice ca (strs x).length cc);exact Ev
    |false=>
     rw[aE ai] at jx;have h6:=h6.out;rw[aE (by rw[aga.out];simp)] at h6
     cases h6;exact E5
   case rest=>
    obtain⟨ca,cc,mx⟩:=hcut;have qo:=mx.own 149 15;go_wp2_with fail;go_loopg [] F (λgg wr=>∃(acc xs:Zg) (f:Nat) (rc:Zi) (v5:YE),ST (C.dj (fo.map bF) fv Bd) w rc [(w1.heap.size+1,cO #[.string (bs nm),false,sV fa fo.length fc,sV ga pa.length gc,sV ca cr.length cc,v5,nS] 83),(w1,cO #[px,py] 42),(w,cO #[eS,false,nS,nS,nS,nS,nS] 83)] [⟨149,15,v5,acc⟩] [(.sl cr,sV ca cr.length cc),(.sl pa,sV ga pa.length gc),(.sl (strs (fo.map bF)),fv),(.sl fo,sV fa fo.length fc)] wr/\qm (fo.map bF) f rc=some (xs,r7)/\fe=acc++xs/\f<=gg/\f<=F)
    case atStart=>exact⟨[],fe,F,r6,_,qo,h7,rfl,aM _,aM _⟩
    case round=>
     obtain⟨acc,xs,f,rc,v5,SL,hm,agb,de,gT⟩:=hrel
     cases f with
     |zero=>cases hm
     |succ f=>
     obtain⟨a5,c5,rfl⟩:=SL.form;simp only[qm,cF] at hm;rcases tE (aO "feature" rc) with hfw|hfw
     .clear qo;rw[aI hfw] at hm;obtain⟨q1,hob,hm⟩:=aw.1 hm;obtain⟨⟨cl,q2⟩,kc,hm⟩:=aw.1 hm;obtain⟨q3,xE,hm⟩:=aw.1 hm;obtain⟨⟨ys,q4⟩,hys,hm⟩:=aw.1 hm;obtain⟨⟨zs,q5⟩,Me,hm⟩:=aw.1 hm
      cases hm;dsimp only at xE hys Me;revert de gT hob kc xE hys Me agb;refine TR ?_;intro de gT hob kc xE hys Me agb;go_wp2_with fail;refine(dP SL.ps jV "feature" hfw).mono ?_;rintro e WM ⟨rfl,P,K⟩;have BP:=SL.aB P K;go_wp2_with fail;refine(dc BP.ps jV "\x7b" hob).mono ?_;rintro e w16 ⟨rfl,P,K⟩;have Qd:=BP.aB P K;go_wp2_with fail
      cases f with
      |zero=>cases kc.out
      |succ f0=>
      obtain⟨f,aiY⟩:∃f,f=f0+1:=⟨_,rfl⟩
      have BE:=kc.out;simp only[fB,cF] at BE;obtain⟨⟨c0,q0⟩,hw0,BE⟩:=aw.1 BE;have agc:∃xsN,(if aO "," q0=true then fB 2 f0 q0.tail=some (xsN,q2) else xsN=[]/\q0=q2)/\cl=[c0]++xsN:=by
       dsimp only at BE;split at BE
       .rename_i hc;obtain⟨⟨xs,q9⟩,e1,e2⟩:=aw.1 BE;exact Ea
       .rename_i hc
        cases BE;exact EA
      obtain⟨xsN,Ic,Tx⟩:=agc;revert Ic Tx;refine ct ?_;intro Ic Tx;rw[<-aiY] at de gT hys Me;replace aiY:=ah aiY;refine(gd (k:=2) Qd.ps jV hw0).mono ?_;rintro e w17 ⟨rfl,P,K⟩;have E2:=Qd.aB P K;have BD:=(E2.box (cO #[c0] 9)).afq (wd:=1) (x:=[c0]) (.cons (.str _) .nil) rfl;go_wp2_with fail;go_loopg [8] f0 (λgg s8 wr=>∃(Ty xsN:Y9) (f2:Nat) (rc2:Zi),ST (C.dj (fo.map bF) fv Bd) w rc2 [(w1.heap.size+1,cO #[.string (bs nm),false,sV fa fo.length fc,sV ga pa.length gc,sV ca cr.length cc,sV a5 acc.length c5,nS] 83),(w1,cO #[px,py] 42),(w,cO #[eS,false,nS,nS,nS,nS,nS] 83)] [⟨9,1,s8,strs Ty⟩,⟨149,15,sV a5 acc.length c5,acc⟩] [(.sl cr,sV ca cr.length cc),(.sl pa,sV ga pa.length gc),(.sl (strs (fo.map bF)),fv),(.sl fo,sV fa fo.length fc)] wr/\(if aO "," rc2=true then fB 2 f2 rc2.tail=some (xsN,q2) else xsN=[]/\rc2=q2)/\cl=Ty++xsN/\f2<=gg/\Ty.length+f2<=10000)
      case atStart=>exact⟨[c0],xsN,f0,q0,BD,Ic,Tx,aM _,by have:=aiY.out;have:=gT.out;simp;omega⟩
      case round=>
       obtain⟨Ty,xsN,f2,rc2,SN,Ic,Tx,Of,h6N⟩:=hrel;obtain⟨a8,c8,rfl⟩:=SN.form;rcases tE (aO "," rc2) with hcm|hcm
       .rw[aI hcm] at Ic
        cases f2 with
        |zero=>cases Ic
        |succ f2=>
        simp only[fB,cF] at Ic;obtain⟨⟨c1,q6⟩,N7,Ic⟩:=aw.1 Ic;have agc:∃ysN,(if aO "," q6=true then fB 2 f2 q6.tail=some (ysN,q2) else ysN=[]/\q6=q2)/\xsN=[c1]++ysN:=by
         dsimp only at Ic;split at Ic
         .rename_i hc;obtain⟨⟨xs,q9⟩,e1,e2⟩:=aw.1 Ic;exact Ea
         .rename_i hc
          cases Ic;exact EA
        obtain⟨ysN,amc,hxN⟩:=agc;revert Tx Of h6N amc hxN;refine nx ?_;intro Tx Of h6N amc hxN;go_wp2_with fail;refine(dP SN.ps jV "," hcm).mono ?_;rintro e w19 ⟨rfl,P,K⟩;have xv:=SN.aB P K;go_wp2_with fail;refine(gd (k:=2) xv.ps jV N7).mono ?_;rintro e w20 ⟨rfl,P,K⟩;have BQ:=xv.aB P K;have Mi:=BQ.lay (T:=9) (cs:=[.string (bs c1)]) (rw:=[c1]) (.cons (.str _) .nil);refine kN ?_;refine VF (T:=22) (x:=⟨9,1,.slice a8 (strs Ty).length c8,strs Ty⟩) (rows2:=[[c1]]) (.tmp 82) (.tmp 85) Mi af (by have:=h6N.out;simp[strs];omega) vY (Mi.data 0) rfl rfl ?_;intro a9 c9 W SD;generalize Value.slice a9 _ c9=v9 at SD|-;have e1:strs Ty++[[.str c1]]=strs (Ty++[c1]):=bR;have SE:=SD.Uk;simp only[e1] at SE;replace SE:=ah SE;go_wp2_with fail;go_roundg f2
        case measure=>have:=Of.out;omega
        case rel=>exact⟨Ty++[c1],ysN,f2,q6,SE,amc,by rw[Tx.out,hxN.out];simp,aM _,by have:=h6N.out;simp;omega⟩
       .rw[aE (by rw[hcm];simp)] at Ic;obtain⟨rfl,rfl⟩:=Ic;rw[gp] at Tx;subst Tx;go_wp2_with fail;refine(bU SN.ps jV "," hcm).mono ?_;rintro e w19 ⟨rfl,P,K⟩;have xv:=SN.aB P K;go_wp2_with fail;refine(dc xv.ps jV "\x7d" xE).mono ?_;rintro e w20 ⟨rfl,P,K⟩;have BQ:=xv.aB P K;have Mi:=BQ.Tm;go_wp2_with fail;go_loopg [9] f (λgg s9 wr=>∃(nD xs3:Zg) (f3:Nat) (rc3:Zi) (v5:YE) (go:TG),s9=.bool go/\ST (C.dj (fo.map bF) fv Bd) w rc3 [(w1.heap.size+1,cO #[.string (bs nm),false,sV fa fo.length fc,sV ga pa.length gc,sV ca cr.length cc,v5,nS] 83),(w1,cO #[px,py] 42),(w,cO #[eS,false,nS,nS,nS,nS,nS] 83)] [⟨149,15,v5,nD⟩] [(.sl (strs cl),.slice a8 (strs cl).length c8),(.sl cr,sV ca cr.length cc),(.sl pa,sV ga pa.length gc),(.sl (strs (fo.map bF)),fv),(.sl fo,sV fa fo.length fc)] wr/\(if go=true then nM (fo.map bF) cl f3 rc3=some (xs3,q4) else xs3=[]/\rc3=q4)/\fe=nD++(xs3++zs)/\f3<=gg/\f3<=F)
        case atStart=>exact⟨acc,ys,f,q3,_,true,rfl,Mi,by simpa using hys.out,agb.out,aM _,by have:=gT.out;omega⟩
        case round=>
         obtain⟨nD,xs3,f3,rc3,v5,go,rfl,SM,fy,V7,Bk,hf3⟩:=hrel;obtain⟨a6,c6,rfl⟩:=SM.form
         cases go with
         |true=>
          rw[aI rfl] at fy
          cases f3 with
          |zero=>cases fy
          |succ f3=>
          rw[qT] at fy;obtain⟨⟨x,q7⟩,hx,fy⟩:=aw.1 fy;obtain⟨⟨ys3,q8⟩,hmo,fy⟩:=aw.1 fy
          cases fy;dsimp only at hmo;obtain⟨go2,aoP⟩:∃go2,(dv q7==1)=go2:=⟨_,rfl⟩
          have xe:((dv q7:Int)==1)=go2:=by rw[<-aoP,sM];simp;omega
          unfold U7 at hmo;rw[aoP] at hmo;have amd:if go2=true then nM (fo.map bF) cl f3 q7=some (ys3,q8) else ys3=[]/\q7=q8:=by
           cases go2 with
           |true=>simpa using hmo
           |false=>simp at hmo|-;exact⟨hmo.1.symm▸rfl,hmo.2⟩
          revert Bk hf3 hx V7 amd;refine nx ?_;intro Bk hf3 hx V7 amd;go_wp2_with fail;refine aY [some 93,some 94,some 95,some 96,some 97,some 98,some 99,some 100,none] [0,1,2,3,4,5,6,7,8] (A:=?_) (λlb u V=>((lb 4=false->ST (C.dj (fo.map bF) fv Bd) w rc3 [(w1.heap.size+1,cO #[.string (bs nm),false,sV fa fo.length fc,sV ga pa.length gc,sV ca cr.length cc,sV a6 nD.length c6,nS] 83),(w1,cO #[px,py] 42),(w,cO #[eS,false,nS,nS,nS,nS,nS] 83)] (⟨149,15,sV a6 nD.length c6,nD⟩::[]) [(.sl (strs cl),.slice a8 (strs cl).length c8),(.sl cr,sV ca cr.length cc),(.sl pa,sV ga pa.length gc),(.sl (strs (fo.map bF)),fv),(.sl fo,sV fa fo.length fc)] V)/\(lb 4=true->lb 5=false->∃(k tk:Int) (fnm tn:Yz) (tv ts rs:TG) (x2 x3 x6 x9 xC zw As xw:YS) (m2 k2 m3 k3 m6 k6 m9 k9 m10 k10 m11 k11 m12 k12 m13 k13:Nat),u 4=.agg #[k,fnm,sV x2 m2 k2,sV x3 m3 k3,tk,tn,sV x6 m6 k6,tv,ts,sV x9 m9 k9,sV xC m10 k10,sV zw m11 k11,sV As m12 k12,sV xw m13 k13,rs]/\aP (Fr w [(w1.heap.size+1,cO #[.string (bs nm),false,sV fa fo.length fc,sV ga pa.length gc,sV ca cr.length cc,sV a6 nD.length c6,nS] 83),(w1,cO #[px,py] 42),(w,cO #[eS,false,nS,nS,nS,nS,nS] 83)] (⟨149,15,sV a6 nD.length c6,nD⟩::[])) V x [iV k,.string (bs fnm),sV x2 m2 k2,sV x3 m3 k3,iV tk,.string (bs tn),sV x6 m6 k6,.bool tv,.bool ts,sV x9 m9 k9,sV xC m10 k10,sV zw m11 k11,sV As m12 k12,sV xw m13 k13,.bool rs]/\ST (C.dj (fo.map bF) fv Bd) w q7 [(w1.heap.size+1,cO #[.string (bs nm),false,sV fa fo.length fc,sV ga pa.length gc,sV ca cr.length cc,sV a6 nD.length c6,nS] 83),(w1,cO #[px,py] 42),(w,cO #[eS,false,nS,nS,nS,nS,nS] 83)] (⟨149,15,sV a6 nD.length c6,nD⟩::[]) [(.sl (strs cl),.slice a8 (strs cl).length c8),(.sl cr,sV ca cr.length cc),(.sl pa,sV ga pa.length gc),(.sl (strs (fo.map bF)),fv),(.sl fo,sV fa fo.length fc)] V)/\(lb 5=true->lb 6=false->∃a,u 5=sV a 1 1/\(x).length=15/\an (Fr w [(w1.heap.size+1,cO #[.string (bs nm),false,sV fa fo.length fc,sV ga pa.length gc,sV ca cr.length cc,sV a6 nD.length c6,nS] 83),(w1,cO #[px,py] 42),(w,cO #[eS,false,nS,nS,nS,nS,nS] 83)] (⟨149,15,sV a6 nD.length c6,nD⟩::[])) V (.sl [x]) (sV a 1 1)/\ST (C.dj (fo.map bF) fv Bd) w q7 [(w1.heap.size+1,cO #[.string (bs nm),false,sV fa fo.length fc,sV ga pa.length gc,sV ca cr.length cc,sV a6 nD.length c6,nS] 83),(w1,cO #[px,py] 42),(w,cO #[eS,false,nS,nS,nS,nS,nS] 83)] (⟨149,15,sV a6 nD.length c6,nD⟩::[]) [(.sl (strs cl),.slice a8 (strs cl).length c8),(.sl cr,sV ca cr.length cc),(.sl pa,sV ga pa.length gc),(.sl (strs (fo.map bF)),fv),(.sl fo,sV fa fo.length fc)] V)/\(lb 6=true->lb 8=false->∃v2,u 6=v2/\ST (C.dj (fo.map bF) fv Bd) w q7 [(w1.heap.size+1,cO #[.string (bs nm),false,sV fa fo.length fc,sV ga pa.length gc,sV ca cr.length cc,sV a6 nD.length c6,nS] 83),(w1,cO #[px,py] 42),(w,cO #[eS,false,nS,nS,nS,nS,nS] 83)] (⟨149,15,v2,(nD++[x])⟩::[]) [(.sl (strs cl),.slice a8 (strs cl).length c8),(.sl cr,sV ca cr.length cc),(.sl pa,sV ga pa.length gc),(.sl (strs (fo.map bF)),fv),(.sl fo,sV fa fo.length fc)] V)/\(lb 8=true->∃v2,ST (C.dj (fo.map bF) fv Bd) w q7 [(w1.heap.size+1,cO #[.string (bs nm),false,sV fa fo.length fc,sV ga pa.length gc,sV ca cr.length cc,v2,nS] 83),(w1,cO #[px,py] 42),(w,cO #[eS,false,nS,nS,nS,nS,nS] 83)] (⟨149,15,v2,(nD++[x])⟩::[]) [(.sl (strs cl),.slice a8 (strs cl).length c8),(.sl cr,sV ca cr.length cc),(.sl pa,sV ga pa.length gc),(.sl (strs (fo.map bF)),fv),(.sl fo,sV fa fo.length fc)] V))/\VT [some (.pointer (some ⟨w1.heap.size+1,5,none⟩)),some (sV a6 nD.length c6),some (pP C),some (.slice a8 (strs cl).length c8),none,none,none,some (.pointer (some ⟨w1.heap.size+1,5,none⟩)),none] lb u) af af (λu=>?_) (λlb u h0=>⟨⟨λ_=>SM.drew,λe=>qe,λe=>qd,λe=>(by rw[h0 6 aj] at e;cases e),λe=>HD⟩,VT.none rfl h0⟩) ?_ (λlb u V hl hI=>?_);rotate_left
          .exact bK
          .repeat' first|apply Bm.be.cons|exact Bm.be.nil
           all_goals intro lb u V K hl hn hf hI hK
           .exact fV
           .have e0:=hI.2 0 _ rfl (hn 0 af);have d:_=(some (sV a6 nD.length c6):Option Value):=(show V.cell? _=some (sV a6 nD.length c6) from by
             cases e3:lb 4 with
             |false=>exact(hI.1.1 e3).cell 0 5
             |true=>
              cases e4:lb 5 with
              |false=>obtain⟨_,_,_,_,_,_,_,_,_,_,_,_,_,_,_,_,_,_,_,_,_,_,_,_,_,_,_,_,_,_,_,_,_,hs⟩:=hI.1.2.1 e3 e4;exact hs.cell 0 5
              |true=>obtain⟨_,_,_,_,hs⟩:=hI.1.2.2.1 e4 (hf 6 af);exact hs.cell 0 5)
            exact mH
           .exact oq
           .exact Kh
           .have e2:=hI.2 2 _ rfl (hn 2 af);have e3:=hI.2 3 _ rfl (hn 3 af);go_simp;have SC:=hI.1.1 hl;refine(VO (F:=f3) (by have:=hf3.out;omega) SC.ps jV oQ WO (SC.data 0) (λb hb=>by have:=SC.sg.pw;have:=hb.1;exact λe=>by rw[e] at this;omega) hx).mono ?_;rintro e wA ⟨⟨v,rfl,k,tk,fnm,tn,tv,ts,rs,x2,x3,x6,x9,xC,zw,As,xw,m2,k2,m3,k3,m6,k6,m9,k9,m10,k10,m11,k11,m12,k12,m13,k13,rfl,hr⟩,P,K⟩;dsimp only;have SD:=SC.aB P K;exact hK _ _ _ ⟨⟨λe=>bM,λ_ _=>⟨_,_,_,_,_,_,_,_,_,_,_,_,_,_,_,_,_,_,_,_,_,_,_,_,_,_,_,_,_,_,_,rfl,hr.mono λ_ hb _=>hb.elim (λh=>SC.free h) id,SD⟩,λe=>iM,λe=>vS,λe=>rK⟩,hI.2.no 4⟩ (by rw[e2,e3];try rfl)
           .obtain⟨k,tk,fnm,tn,tv,ts,rs,x2,x3,x6,x9,xC,zw,As,xw,m2,k2,m3,k3,m6,k6,m9,k9,m10,k10,m11,k11,m12,k12,m13,k13,eca,hr,SC⟩:=hI.1.2.1 (hn 4 af) hl;go_simp;have SL:=SC.lay (T:=149) hr;exact hK _ _ _ ⟨⟨λe=>gL,λ_ e=>bM,λ_ _=>⟨some ⟨V,0,none⟩,rfl,by rw[hr.1];rfl,SL.data 0,SL.Uk⟩,λe=>vS,λe=>rK⟩,hI.2.no 5⟩ (by rw[eca];try rfl)
           .have e1:=hI.2 1 _ rfl (hn 1 af);obtain⟨a,ela,hy,hd,SC⟩:=hI.1.2.2.1 (hn 5 af) hl;refine Zs (T:=80) (x:=⟨149,15,sV a6 nD.length c6,nD⟩) (rows2:=[x]) (.tmp 94) (.tmp 98) SC af (by have:=hfe.out;have h:=V7.out;rw[h] at this;simp at this|-;omega) Ht hd (hs:=e1) (hz:=ela) ?_;intro a2 c2 w' SD;exact hK _ _ _ ⟨⟨λe=>gL,λ_ e=>mV,λ_ e=>bM,λ_ _=>⟨_,rfl,SD⟩,λe=>rK⟩,hI.2.no 6⟩ rfl
           .exact atx
           .have e7:=hI.2 7 _ rfl (hn 7 af);obtain⟨v2,eap,SC⟩:=hI.1.2.2.2.1 (hn 6 af) hl;obtain⟨a2,c2,jo⟩:=SC.form;generalize List.length _=n2 at jo;subst jo;have d:=bc (SC.heap 0) 5;have d2:=SC.lg 0 5;go_simp;refine hK undef _ _ ⟨⟨λe=>gL,λ_ e=>mV,λ_ e=>(by rw[jJ aj,hn 6 af] at e;cases e),λ_ e=>bM,λ_=>⟨_,SC.set 0 5 _ _⟩⟩,hI.2.no 8⟩ (by rw[eap,e7];try rfl)
          obtain⟨v2,SE⟩:=hI.1.2.2.2.2 (hl 8 aj);go_wp2_with fail;refine(gA SE.ps jV).mono ?_;rintro e w22 ⟨rfl,K⟩;have LK:=SE.zd K;go_wp2_with fail;go_roundg f3
          case measure=>have:=Bk.out;omega
          case rel=>exact⟨nD++[x],ys3,f3,q7,_,go2,rfl,LK,amd,by rw[V7.out];simp,aM _,by have:=hf3.out;omega⟩
         |false=>
          rw[aE ai] at fy;obtain⟨rfl,rfl⟩:=fy;rw[xR] at V7;replace V7:=ah V7;go_wp2_with fail;go_roundg f
          case measure=>have:=de.out;omega
          case rel=>exact⟨nD,zs,f,rc3,_,SM.Uk,Me,V7,aM _,by have:=gT.out;omega⟩
     .clear qo;rw[aE (by rw[hfw];simp)] at hm
      cases hm;rw[gp] at agb;subst agb;go_wp2_with fail;refine(bU SL.ps jV "feature" hfw).mono ?_;rintro e WM ⟨rfl,P,K⟩;have BP:=SL.aB P K;have Qd:=BP.Tm;go_wp2_with fail;obtain⟨aqS,V8⟩:∃B,aO "invariant" r7=B:=⟨_,rfl⟩
      refine(sC Qd.ps jV "invariant" V8).mono ?_;rintro e w17 ⟨rfl,P,K⟩;have E2:=Qd.aB P K;replace V8:=ah V8;go_upto_if 102 with fail;go_cut [] from 102 to 105 (λwc=>∃(ia:YS) (ic:Nat),ST (C.dj (fo.map bF) fv Bd) w r8 [(w1.heap.size+1,cO #[.string (bs nm),false,sV fa fo.length fc,sV ga pa.length gc,sV ca cr.length cc,sV a5 fe.length c5,sV ia iv.length ic] 83),(w1,cO #[px,py] 42),(w,cO #[eS,false,nS,nS,nS,nS,nS] 83)] [] [(.sl iv,sV ia iv.length ic),(.sl fe,sV a5 fe.length c5),(.sl cr,sV ca cr.length cc),(.sl pa,sV ga pa.length gc),(.sl (strs (fo.map bF)),fv),(.sl fo,sV fa fo.length fc)] wc)
      case first=>
       cases aqS with
       |true=>rw[aI rfl] at E2;have h8:=h8.out;rw[aI V8.out] at h8;go_wp2_with fail;refine(rQ dx E2.ps jV h8).mono ?_;rintro e w18 ⟨⟨ia,ic,rfl,hv,-⟩,P,K⟩;have BD:=E2.IM P K hv;have d6:=bc (BD.heap 0) 6;have f6:=BD.lg 0 6;go_wp2_with fail;have xv:=BD.st 0 6 (sV ia iv.length ic);exact Ep
       |false=>
        rw[aE ai] at E2;have h8:=h8.out;rw[aE (by rw[V8.out];simp)] at h8
        cases h8;exact EZ
      case rest=>
       obtain⟨ia,ic,BD⟩:=hcut;go_wp2_with fail;refine(dc BD.ps jV "end" h9).mono ?_;rintro e w19 ⟨rfl,P,K⟩;have xv:=BD.aB P K;have hl:=xv.heap 0;have hb:=xv.heap 2;have d5:=xv.ps.c5 _ jV;have Zr:ClV w _ [.str nm,false,fo,pa,cr,fe,iv] (.agg #[.string (bs nm),false,sV fa fo.length fc,sV ga pa.length gc,sV ca cr.length cc,sV a5 fe.length c5,sV ia iv.length ic]):=⟨nm,fa,ga,ca,a5,ia,fo.length,fc,pa.length,gc,cr.length,cc,fe.length,c5,iv.length,ic,rfl,.cons (.str _) (.cons (.bool _) (.cons (xv.new 5) (.cons (xv.new 3) (.cons (xv.new 2) (.cons (xv.new 1) (.cons (xv.new 0) .nil))))))⟩
       have BN:=ah (hD _ _ _ Zr);go_wp2_with (refine ldg hl ?_);refine BN.mono ?_;rintro e w20 ⟨n,rfl,ap1,K⟩;have BQ:=xv.zd K;have hl:=BQ.heap 0;have hb:=BQ.heap 2;have arT:¬((40:Int) < (n:Int)):=ab;go_wp2_with (first|refine T6 hl ?_|refine str hb ?_);have Mi:=BQ.row 2 #[.string (bs nm),false,sV fa fo.length fc,sV ga pa.length gc,sV ca cr.length cc,sV a5 fe.length c5,sV ia iv.length ic];refine ou (Mi.heap 2) ?_;refine⟨⟨_,rfl,⟨nm,fa,ga,ca,a5,ia,fo.length,fc,pa.length,gc,cr.length,cc,fe.length,c5,iv.length,ic,rfl,.cons (.str _) (.cons (.bool _) (.cons (Mi.new 5) (.cons (Mi.new 3) (.cons (Mi.new 2) (.cons (Mi.new 1) (.cons (Mi.new 0) .nil))))))⟩⟩,⟨fo.map bF,fv,Bd,Mi.ps,((Mi.new 4).and Mi.fm).mono λ_ hb _=>⟨hb.1,hb.2.1⟩⟩,Mi.sg.kp⟩
def LQ{g:Row->Option Nat}:∀{l1 l2:Zg} {n:Nat},fG g n (l1++l2)=(fG g n l1).bind λm=>fG g m l2
 |[],_,_=>rfl
 |x::xs,l2,n=>by
  show(g x).bind _=((g x).bind _).bind _
  cases g x with
  |none=>rfl
  |some d=>exact LQ
def aiZ(w:YC)(f:Nat)(fe:Zg)(N:Nat)(o:Obj)(gg:Nat)(s3 s5:YE)(wr:YC):Prop:=
 ∃k n:Nat,s5=iV k/\s3=iV n/\k+gg=fe.length/\dFe f n (fe.drop k)=some N/\Kept aK w wr/\n<=6000/\wr.heap[w.heap.size]?=some o
def Tz{f:Nat}(hf:f<=6000){S:Wq}{w:YC}{row:Row}{N:Nat}{cs:YT}(hd:Ou f row=some N)(hR:aP S w row cs):Calls prog 116 #[.agg cs.toArray] w λe w'=>e=.returned (iV N)/\Kept aK w w':=by
 obtain⟨nm,dd,fo,pa,cr,fe,iv,n0,rfl,h1,h2,h3⟩:=Im hd;obtain⟨a2,c2,a3,c3,a4,c4,a5,c5,a6,c6,rfl,v2,v3,v4,v5,v6,l2,l3,l4,l5,l6⟩:=hR.nl;obtain⟨-,hpa⟩:=zJ h2;have nz:n0<=6000:=fl (λr n h=>cn (yF h) hf) (dE _) h1;have als:pa.length<=9223372036854775807:=l3;have aqd:fe.length<=9223372036854775807:=l5;have K0:Kept aK w (w.alloc (cO #[nm,dd,sV a2 fo.length c2,sV a3 pa.length c3,sV a4 cr.length c4,sV a5 fe.length c5,sV a6 iv.length c6] 83)):=(Kept.refl aK w).alloc _;have mf:(w.alloc (.cells #[nm,dd,.slice a2 fo.length c2,.slice a3 pa.length c3,.slice a4 cr.length c4,.slice a5 fe.length c5,.slice a6 iv.length c6] 83)).heap[w.heap.size]?=some (.cells #[nm,dd,.slice a2 fo.length c2,.slice a3 pa.length c3,.slice a4 cr.length c4,.slice a5 fe.length c5,.slice a6 iv.length c6] 83):=ao;have b6:=aC mf 6;clear hd hR v2 v4 l2 l4 h2;revert h1 h3 v3 v5 v6 l6 hpa K0 mf;refine hd9 ?_;intro h1 h3 v3 v5 v6 l6 hpa K0 mf;go_enter func116,ntmps116;go_wp2_with fail;refine bD ((SP hf (zG f hf)) h1 (v6.kept K0 (λ_ _ _ e=>e))) λw1 K1=>?_;have lL:=ah (aJ mf.out K1);have Io:=ah (K0.trans' K1);clear b6;go_wp2_with fail;go_loopg [3,4] pa.length (λgg s3 s4 wr=>(∃k:Nat,s3=iV (n0:Nat)/\s4=iV k/\k+gg=pa.length/\Kept aK w wr)/\wr.heap[w.heap.size]?=some (cO #[nm,dd,sV a2 fo.length c2,sV a3 pa.length c3,sV a4 cr.length c4,sV a5 fe.length c5,sV a6 iv.length c6] 83))
 case atStart=>exact⟨⟨0,rfl,rfl,by omega,Io⟩,lL⟩
 case round=>
  obtain⟨⟨j,rfl,rfl,zC,hK⟩,Il⟩:=hrel;have b3:=bc Il 3;clear lL;by_cases hj:j < pa.length
  .obtain⟨x,hx⟩:∃x,pa[j]?=some x:=⟨_,ck hj⟩
   obtain⟨pn,pl2,pl3,pl4,pl5,rfl⟩:=hpa.out x (cm hx);obtain⟨g,off,rfl,-,NY,hR,fY⟩:=v3.out.elem hx;obtain⟨p1,e1,p2,e2,p3,e3,p4,e4,p5,e5,rfl,vp,-⟩:=hR.SX;refine GQ ?_;intro de;have q1:wr.cell? ⟨g,off+j*6+1,none⟩=(some (sV p1 0 e1):Option Value):=de (fY 1 _ rfl);have jS:(j:Int) < (pa.length:Int):=ab;have sQ:(0:Int)<=(j:Int):=ab;have aoQ:Calls prog 201 #[sV p1 0 e1] wr λe w'=>e=.returned (iV ((0:Nat):Int))/\Kept aK wr w':=(aas hf (Ik f hf)) (show fG (By f) 0 []=some 0 from rfl) (vp.kept hK (λ_ _ _ e=>e))
   have hct:=ah aoQ;clear aoQ;replace hK:=ah hK;replace Il:=ah Il;clear fY de hR vp;replace hx:=ah hx;go_wp2_with fail;refine hct.mono ?_;rintro e w2 ⟨rfl,K2⟩;have gu:=ah (hK.trans' K2);have jy:=ah (aJ Il.out K2);clear hct Il b3 q1;go_wp2_with fail;go_roundg (gk - 1)
   case measure=>omega
   case rel=>exact⟨⟨j+1,rfl,rfl,by omega,gu⟩,jy⟩
  .have QB:j=pa.length:=by omega
   have jS:¬((j:Int) < (pa.length:Int)):=ab;replace hK:=ah hK;replace Il:=ah Il;go_wp2_with fail;go_loopg [3,5] fe.length (λgg s3 s5 wr=>aiZ w f fe N (cO #[nm,dd,sV a2 fo.length c2,sV a3 pa.length c3,sV a4 cr.length c4,sV a5 fe.length c5,sV a6 iv.length c6] 83) gg s3 s5 wr)
   case atStart=>exact⟨0,n0,rfl,rfl,by omega,by simpa using h3.out,hK.out,nz,Il.out⟩
   case round=>
    clear hj QB jS zC b3 Il;obtain⟨j,n,rfl,rfl,zC,cg,hK,hn,Il⟩:=hrel;have b5:=bc Il 5;by_cases hj:j < fe.length
    .obtain⟨row,m,aL,lG,fy⟩:=Vb cg hj;obtain⟨g,off,rfl,-,NY,hR,fY⟩:=v5.out.elem aL;obtain⟨fk,fn,cl,ags,tk,tn,ta,tv,ts,lo,rq,en,bo,rb,rs,d1,d2,d3,d4,d5,rfl,e1,e2',e3',e4',e5',hlen,Cj⟩:=OB lG;obtain⟨b2,e2,b3,e3,b6,e6,b9,e9,Pn,zv,Sb,xU,Sc,Qz,L8,QA,rfl,u2,u3,u6,u9,QQ,QR,U3,U4,-⟩:=hR.SW;have de:∀{i u},w.cell? ⟨g,i,none⟩=some u->wr.cell? ⟨g,i,none⟩=some u:=λh=>(hK.cell (cA w _ h) (λe=>e)).trans h;obtain⟨q0,q1,q2,q3,q4,q5,q6,q7,q8,q9,q10,q11,q12,q13,q14,-⟩:=hc (o:=off+j*15) λk _ e=>de (fY k _ e);have jS:(j:Int) < (fe.length:Int):=ab;have sQ:(0:Int)<=(j:Int):=ab;rw[LQ] at Cj;obtain⟨M1,Xs,WK⟩:=aw.1 Cj;obtain⟨da,hda,hM1⟩:=zH (n:=0) (by simpa using Xs);rw[hM1] at WK;obtain⟨dl,SH,hM2⟩:=zH (n:=0) (by simpa using WK);obtain⟨M,hMe⟩:∃M,M=max (max (max n da) dl) d1:=⟨_,rfl⟩
     have hme:max (max (max (max M d2) d3) d4) d5=m:=ab;have hm6:m<=6000:=by refine Gp ?_;intro x1 x2 x3 x4 x5;have x6:=fl (B:=f) (λr n=>Sy) (dE _) hda;have x7:=fl (B:=f) (λr n=>Sy) (dE _) SH;omega
     refine GF ?_;intro ut nB;refine GK ?_;intro gu;have aoR:=ah (aD (x:=cO #[fk,fn,sV b2 cl.length e2,sV b3 ags.length e3,tk,tn,sV b6 ta.length e6,tv,ts,sV b9 lo.length e9,sV Pn rq.length zv,sV Sb en.length xU,sV Sc bo.length Qz,sV L8 rb.length QA,rs] 149) Il);clear fY de hR lG cg u2 u6 Cj Xs WK hM1 hM2;revert hK fy Il aL e1 e2' e3' e4' e5' u3 u9 QQ QR U3 U4 hda SH hMe hme hm6 ut nB;refine apr ?_;intro hK fy Il aL e1 e2' e3' e4' e5' u3 u9 QQ QR U3 U4 hda SH hMe hme hm6 ut nB;go_wp2_with fail;have hKq:=gu;have hbq:=nB;refine xr [some 38,some 39,some 40,some 41,some 42,some 43,some 44,some 45,some 46,some 47,some 48,some 3] [0,1,2,3,4,5,6,7,8,9,10,11] (A:=?_) (λlb u V=>(Kept aK ((wr.alloc (cO #[fk,fn,sV b2 cl.length e2,sV b3 ags.length e3,tk,tn,sV b6 ta.length e6,tv,ts,sV b9 lo.length e9,sV Pn rq.length zv,sV Sb en.length xU,sV Sc bo.length Qz,sV L8 rb.length QA,rs] 149))) V/\Kept aK w V/\V.heap[wr.heap.size]?=some (.cells #[fk,fn,sV b2 cl.length e2,sV b3 ags.length e3,tk,tn,sV b6 ta.length e6,tv,ts,sV b9 lo.length e9,sV Pn rq.length zv,sV Sb en.length xU,sV Sc bo.length Qz,sV L8 rb.length QA,rs] 149 (0,0))/\(lb 11=false->u 11=iV (n:Nat)))/\VT [some (iV (n:Nat)),some (.pointer (some ⟨wr,3,none⟩)),some (sV b3 ags.length e3),some (iV (da:Nat)),some (.pointer (some ⟨wr,9,none⟩)),some (sV b9 lo.length e9),some (iV (dl:Nat)),some (.pointer (some ⟨wr,4,none⟩)),some (.agg #[tk,tn,sV b6 ta.length e6,tv,ts]),some (iV (d1:Nat)),some (iV (M:Nat)),some (iV (M:Nat))] lb u) af af (λu=>?_) (λlb u h0 hu=>?_) ?_ (λlb u V hl hI=>?_);rotate_left
     .exact bK
     .exact DR
     .repeat' first|apply Bm.be.cons|exact Bm.be.nil
      all_goals intro lb u V K hl hn Pj hI j8
      .have ex:=hI.1.2.2.2 (Pj 11 af);exact D6
      .exact fJ
      .have e1:=hI.2 1 _ rfl (hn 1 af);have d3:=bc hI.1.2.2.1 3;exact Bb
      .have e2:=hI.2 2 _ rfl (hn 2 af);go_simp;refine bD ((aeV hf (Ik f hf)) hda (u3.kept hI.1.2.1 (λ_ _ _ e=>e))) λwA KA=>?_;exact QF
      .exact iP
      .have e4:=hI.2 4 _ rfl (hn 4 af);have d9:=bc hI.1.2.2.1 9;exact uo
      .have e5:=hI.2 5 _ rfl (hn 5 af);go_simp;refine bD ((aeV hf (Ik f hf)) SH (u9.kept hI.1.2.1 (λ_ _ _ e=>e))) λwA KA=>?_;exact DI
      .exact uu
      .have e7:=hI.2 7 _ rfl (hn 7 af);obtain⟨-,-,-,-,d4,d5,d6,d7,d8,-⟩:=cc hI.1.2.2.1;exact tY
      .have e8:=hI.2 8 _ rfl (hn 8 af);go_simp;refine bD ((Ik f hf) e1 (ut.kept hI.1.2.1 (λ_ _ _ e=>e))) λwA KA=>?_;exact J9
      .have e0:=hI.2 0 _ rfl (hn 0 af);have e3:=hI.2 3 _ rfl (hn 3 af);have e6:=hI.2 6 _ rfl (hn 6 af);have e9:=hI.2 9 _ rfl (hn 9 af);rw[e0,e3,e6,e9];refine eh rfl (Jr rfl n [da,dl,d1] rfl hMe.symm ?_);exact j8 _ _ _ ⟨hI.1,hI.2.yes 10⟩ (by rw[e0,e3,e6,e9];try rfl)
      .have zv:=hI.2 10 _ rfl (hn 10 af);rw[zv];go_simp;exact j8 _ _ _ ⟨⟨hI.1.1,hI.1.2.1,hI.1.2.2.1,λe=>bM⟩,hI.2.yes 11⟩ uJ
     obtain⟨V1,rfl⟩:∃x,x=V:=⟨_,rfl⟩
     have xU:=hI.2 11 _ rfl (hl 11 aj);obtain⟨⟨KW,KX,hbX,-⟩,-⟩:=hI;replace hKq:=ah KX;have ame:=ah (aJ aoR.out KW);replace hbq:=ah hbX;rw[xU];clear hl KX hbX xU nB aoR;go_wp2_with fail;refine xr [some 49,some 50,some 51,some 52,some 53,some 54,some 55,some 56,some 57,some 58,some 59,some 60,some 61,some 62,some 3] [0,1,2,3,4,5,6,7,8,9,10,11,12,13,14] (A:=?_) (λlb u V=>(Kept aK V1 V/\Kept aK w V/\V.heap[wr.heap.size]?=some (.cells #[fk,fn,sV b2 cl.length e2,sV b3 ags.length e3,tk,tn,sV b6 ta.length e6,tv,ts,sV b9 lo.length e9,sV Pn rq.length zv,sV Sb en.length xU,sV Sc bo.length Qz,sV L8 rb.length QA,rs] 149 (0,0))/\(lb 14=false->u 14=iV (M:Nat)))/\VT [some (iV (M:Nat)),some (.pointer (some ⟨wr,10,none⟩)),some (sV Pn rq.length zv),some (iV (d2:Nat)),some (.pointer (some ⟨wr,11,none⟩)),some (sV Sb en.length xU),some (iV (d3:Nat)),some (.pointer (some ⟨wr,12,none⟩)),some (sV Sc bo.length Qz),some (iV (d4:Nat)),some (.pointer (some ⟨wr,13,none⟩)),some (sV L8 rb.length QA),some (iV (d5:Nat)),some (iV (m:Nat)),some (iV (m:Nat))] lb u) af af (λu=>?_) (λlb u h0 hu=>?_) ?_ (λlb u V hl hI=>?_);rotate_left
     .exact bK
     .exact DR
     .repeat' first|apply Bm.be.cons|exact Bm.be.nil
      all_goals intro lb u V K hl hn Pj hI j8
      .have ex:=hI.1.2.2.2 (Pj 14 af);exact D6
      .exact fJ
      .have e1:=hI.2 1 _ rfl (hn 1 af);have d10:=bc hI.1.2.2.1 10;exact Bb
      .have e2:=hI.2 2 _ rfl (hn 2 af);go_simp;refine bD ((SP hf (zG f hf)) e2' (QQ.kept hI.1.2.1 (λ_ _ _ e=>e))) λwA KA=>?_;exact QF
      .exact iP
      .have e4:=hI.2 4 _ rfl (hn 4 af);have d11:=bc hI.1.2.2.1 11;exact uo
      .have e5:=hI.2 5 _ rfl (hn 5 af);go_simp;refine bD ((SP hf (zG f hf)) e3' (QR.kept hI.1.2.1 (λ_ _ _ e=>e))) λwA KA=>?_;exact DI
      .exact uu
      .have e7:=hI.2 7 _ rfl (hn 7 af);have d12:=bc hI.1.2.2.1 12;exact tY
      .have e8:=hI.2 8 _ rfl (hn 8 af);go_simp;refine bD ((aat f hf) e4' (U3.kept hI.1.2.1 (λ_ _ _ e=>e))) λwA KA=>?_;exact J9
      .go_simp;exact j8 _ _ _ ⟨hI.1,hI.2.yes 10⟩ rfl
      .have zv:=hI.2 10 _ rfl (hn 10 af);have d13:=bc hI.1.2.2.1 13;exact Ko
      .have xU:=hI.2 11 _ rfl (hn 11 af);go_simp;refine bD ((aat f hf) e5' (U4.kept hI.1.2.1 (λ_ _ _ e=>e))) λwA KA=>?_;dsimp only;exact j8 _ _ _ ⟨⟨hI.1.1.trans' KA,hI.1.2.1.trans' KA,aJ hI.1.2.2.1 KA,hI.1.2.2.2⟩,hI.2.yes 12⟩ asH
      .have e0:=hI.2 0 _ rfl (hn 0 af);have e3:=hI.2 3 _ rfl (hn 3 af);have e6:=hI.2 6 _ rfl (hn 6 af);have e9:=hI.2 9 _ rfl (hn 9 af);have Qz:=hI.2 12 _ rfl (hn 12 af);rw[e0,e3,e6,e9,Qz];refine eh rfl (Jr rfl M [d2,d3,d4,d5] rfl hme ?_);exact j8 _ _ _ ⟨hI.1,hI.2.yes 13⟩ (by rw[e0,e3,e6,e9,Qz];try rfl)
      .have QA:=hI.2 13 _ rfl (hn 13 af);rw[QA];go_simp;exact j8 _ _ _ ⟨⟨hI.1.1,hI.1.2.1,hI.1.2.2.1,λe=>bM⟩,hI.2.yes 14⟩ (by rw[QA];try rfl)
     have e14:=hI.2 14 _ rfl (hl 14 aj);obtain⟨⟨KW,KX,hbX,-⟩,-⟩:=hI;replace hKq:=ah KX;replace ame:=ah (aJ ame.out KW);rw[e14];clear hl KX hbX e14 hbq;go_wp2_with fail;go_roundg (gk - 1)
     case measure=>omega
     case rel=>exact⟨j+1,m,rfl,rfl,by omega,fy,hKq,hm6,ame⟩
    exact Kn
def O3{f:Nat}(hf:f<=6000){row:Row}(h:T0 f row=true):Ii 116 row:=by
 unfold T0 at h;rw[dD] at h;obtain⟨_,h⟩:=h;split at h
 .rename_i n hn;intro S w v hv;obtain⟨nm,a2,a3,a4,a5,a6,m2,c2,m3,c3,m4,c4,m5,c5,m6,c6,rfl,hR⟩:=hv;exact(Tz hf hn hR).mono λe w' ⟨h1,h2⟩=>⟨n,h1,by simpa using h,h2⟩
 .cases h
def TA{F f:Nat}(dx:F<=6000)(hf:f<=6000){C:Ctx}{w:YC}{l r:Zi}{row:Row}(h:PS C w l)(jV:C.x5=some (.bool false))(hx:iw F l=some (row,r))(ho:T0 f row=true):Calls prog 72 #[pP C] w (Sz C row r w):=by have hD:=O3 hf ho;have hN:Ip row=true:=Hj;obtain⟨r1,r2,r3,r5,r6,r7,r8,nm,fo,pa,cr,fe,iv,h1,h2,hn4,h3,oQ,h5,hpn,h6,h7,hfe,h8,h9,rfl⟩:=LI hx hN;exact acp dx h jV h1 h2 hn4 h3 oQ h5 hpn h6 h7 hfe h8 h9 hD
def ST.goF{C:Ctx}{w V V':YC}{l r:Zi}{bs:List (Nat×Obj)}{os:List Own}{ds:List (T×Value)}(h:ST C w l bs os ds V){fs:Y9}{fv:YE}{Bd:Nat}(hp:PS (C.dj fs fv Bd) V' r)(hk:Kept (ch C) V V')(hf:an (λb=>V.heap.size<=b/\b < Bd) V' (.sl (strs fs)) fv):ST (C.dj fs fv Bd) w r bs os ds V':=by
 have hF:∀b,ch C b->b < V.heap.size->b < w.heap.size:=λb e _=>by have:=h.pw;unfold ch at e;omega
 refine⟨⟨hp,h.sg.kp.trans' hk,h.sg.pw,h.sg.gw⟩,hf.mono λb hb _=>⟨hb.2,λe=>by have:=h.sg.pw;have:=h.sg.le;have:=hb.1;rw[e] at this;exact absurd this (by show ¬V.heap.size<=C.p;omega),(h.free hb.1).2.1,(h.free hb.1).2.2⟩,λq hq=>⟨(h.bx q hq).1,(hk.block _ (h.lt q hq) sr).trans (h.bx q hq).2⟩,h.nd,h.nb,h.no,λi o hi=>?_,λd hd=>?_⟩
 .exact ub
 exact uj
def LR{F f:Nat}(dx:F<=6000)(I9:f<=6000){C:Ctx}{w:YC}{l:Zi}{rows:Zg}{N most:Nat}(h:PS C w l)(jV:C.x5=some (.bool false))(hx:Aa F f N l=some rows)(hl:rows.length<=most)(hm:most<=1000):Calls prog 41 #[pP C,iV most] w λe w'=>(∃a c,e=.returned (sV a rows.length c)/\asL w w' (sV a rows.length c) rows/\∀row∈rows,row.length=7)/\(∃(fs:Y9) (fv:YE) (Bd:Nat),PS (C.dj fs fv Bd) w' [])/\Kept (ch C) w w':=by
 have jr:Hid (∃(fs:Y9) (fv:YE) (Bd:Nat) (acc xs:Zg) (n:Nat) (rc:Zi),ST (C.dj fs fv Bd) w rc [] [⟨83,7,sV none 0 0,acc⟩] [] w/\Aa F f n rc=some xs/\rows=acc++xs/\n<=N):=ah ⟨C.fs,C.fv,C.Bd,[],rows,N,l,(ST.start h).own 83 7,hx,rfl,aM _⟩;revert jV hl hm;refine jk ?_;intro jV hl hm;go_enter func41,ntmps41;go_wp2_with fail;go_loopg [5] N (λgg s5 wr=>∃(fs:Y9) (fv:YE) (Bd:Nat) (acc xs:Zg) (n:Nat) (rc:Zi),ST (C.dj fs fv Bd) w rc [] [⟨83,7,s5,acc⟩] [] wr/\Aa F f n rc=some xs/\rows=acc++xs/\n<=gg)
 case atStart=>exact jr
 case round=>
  obtain⟨fs,fv,Bd,acc,xs,n,rc,SL,Qb,aN,Qa⟩:=hrel;obtain⟨a5,k5,rfl⟩:=SL.form
  cases n with
  |zero=>cases Qb
  |succ n=>
  obtain⟨cap,c0,-⟩:=SL.ps.c0;obtain⟨n0,nz,-,c1⟩:=SL.ps.c1;have c5:=SL.ps.c5 _ jV;have hlen:=SL.ps.len;simp only[Aa] at Qb
  cases rc with
  |nil=>
   rw[aI List.isEmpty_nil] at Qb
   cases Qb;rw[gp] at aN;subst aN;have bQ:¬((n0:Int) < (C.L.length:Int)):=Hf;replace SL:=ah SL;go_wp2_with fail;go_quiet (fail)
   go_wp2_with fail;have hS:=λn=>SL.zd (Kept.drewN (n:=n) (Kept.refl aK wr));go_ret;exact⟨⟨_,_,rfl,OwnR.mono ((hS _).ow 0 _ rfl) λb hb _=>hb.1,(hS 0).lens⟩,⟨fs,fv,Bd,(hS _).ps⟩,(hS _).sg.kp⟩
  |cons t0 r0=>
   rw[aE ai] at Qb;obtain⟨⟨row,r1⟩,kc,Qb⟩:=aw.1 Qb;dsimp only at Qb;split at Qb
   .rename_i ho;obtain⟨ys,hys,he⟩:=aw.1 Qb
    cases he;have bQ:((n0:Int) < (C.L.length:Int)):=Hf;have hcw:aO "class" (t0::r0)=true:=by
     simp only[iw,cF] at kc;obtain⟨q,hq,_⟩:=aw.1 kc;unfold cK at hq;split at hq
     .assumption
     .cases hq
    have cR:((acc.length:Int)==(most:Int))=false:=by rw[gH];have:=hl.out;rw[aN] at this;simp at this;omega
    have amX:¬((acc.length:Int)=(most:Int)):=by simpa using cR
    revert Qa SL kc ho hys aN hcw;refine Wy ?_;intro Qa SL kc ho hys aN hcw;go_wp2_with fail;go_quiet (fail)
    go_wp2_with fail;have hS:=λn=>SL.zd (Kept.drewN (n:=n) (Kept.refl aK wr));refine bD (Bi (hS _).ps jV "class" (aV aj)) λw2 K=>?_;rw[hcw.out];have S2:=(hS _).zd K;go_wp2_with fail;refine(TA dx I9 S2.ps jV kc ho).mono ?_;rintro e w3 ⟨⟨v,rfl,nm,b2,b3,b4,b5,b6,m2,k2,m3,k3,m4,k4,m5,k5',m6,k6,rfl,hR⟩,⟨fs2,fv2,Bd2,P,hf2⟩,K⟩;have S3:=(S2.goF P K hf2)
    have hR':=hR.mono λb hb _=>S2.free hb;have S4:=S3.lay (T:=83) hR';have hlr:row.length=7:=hR.1;refine kN ?_;refine VF (T:=32) (x:=⟨83,7,sV a5 acc.length k5,acc⟩) (rows2:=[row]) (.tmp 39) (.tmp 42) S4 af (by have h1:=hl.out;have:=hm.out;have h:=aN.out;rw[h] at h1;simp at h1|-;omega) (by intro q hq;simp at hq;rw[hq];exact hlr) (S4.data 0) rfl rfl ?_;intro a6 c6 W SD;generalize Value.slice a6 _ c6=v6 at SD|-;have SE:=ah SD.Uk;go_wp2_with fail;go_roundg n
    case measure=>have:=Qa.out;omega
    case rel=>exact⟨fs2,fv2,Bd2,acc++[row],ys,n,r1,SE,hys,by rw[aN.out];simp,aM _⟩
   .cases Qb
end Go.Proofs.Gm
