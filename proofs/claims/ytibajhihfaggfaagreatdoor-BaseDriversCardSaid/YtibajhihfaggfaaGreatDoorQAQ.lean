/- BaseDrivers. No condition. -/
import Derived.Test.YtibajhihfaggfaaGreatDoorQAM
set_option linter.all false
set_option maxRecDepth 100000
set_option maxHeartbeats 0
namespace Go.Proofs.Gm
open Go.Proofs.Tryz Go.RowKit Go.Maps Go.Proofs.Bm
def shF:Row->Bool
 |[.str _,.str _]=>true
 |_=>false
def agu{r:Row}(h:shF r=true):∃s t,r=[.str s,.str t]:=by
 unfold shF at h;split at h
 .exact⟨_,_,rfl⟩
 .cases h
def shK(f:Nat):Row->Bool
 |[.str _,.bool _,.sl fo,.sl pa,.sl cr,.sl fe,.sl iv]=>fo.all shF&&pa.all agt&&cr.all shN&&fe.all (agj f)&&iv.all (YM f)
 |_=>false
def Wc{f:Nat}{r:Row}(h:shK f r=true):∃nm dd fo pa cr fe iv,r=[.str nm,.bool dd,.sl fo,.sl pa,.sl cr,.sl fe,.sl iv]/\(∀r∈fo,shF r=true)/\(∀r∈pa,agt r=true)/\(∀r∈cr,shN r=true)/\(∀r∈fe,agj f r=true)/\(∀r∈iv,YM f r=true):=by
 unfold shK at h;split at h
 .simp only[dD,dV] at h;exact⟨_,_,_,_,_,_,_,rfl,h.1.1.1.1,h.1.1.1.2,h.1.1.2,h.1.2,h.2⟩
 .cases h
def smK(f:Nat):SmR 38 (shK f):=by
 intro S S' w row ca cb nw ri nF;obtain⟨nm,dd,fo,pa,cr,fe,iv,rfl,h2,h3,h4,h5,h6⟩:=Wc nw;obtain⟨a12,gh,j7,ft,ti,js,xz,Rd,zR,MF,rfl,Wz,YO,va4,va5,va6,la,-⟩:=ri.nl;obtain⟨a22,TB,a23,O4,a24,T8,a25,T9,a26,Ua,rfl,vb2,YP,vb4,vb5,vb6,lb,-⟩:=nF.nl;have lC:fo.length<=9223372036854775807:=la;revert h2 h3 h4 h5 h6 Wz YO va4 va5 va6 vb2 YP vb4 vb5 vb6;refine amP ?_;intro h2 h3 h4 h5 h6 Wz YO va4 va5 va6 vb2 YP vb4 vb5 vb6;have N4:=ah (aD (x:=.cells #[.string (bs nm),.bool dd,.slice a22 fo.length TB,.slice a23 pa.length O4,.slice a24 cr.length T8,.slice a25 fe.length T9,.slice a26 iv.length Ua] 83) (show(w.alloc (.cells #[.string (bs nm),.bool dd,.slice a12 fo.length gh,.slice j7 pa.length ft,.slice ti cr.length js,.slice xz fe.length Rd,.slice zR iv.length MF] 83)).heap[w.heap.size]?=some (.cells #[.string (bs nm),.bool dd,.slice a12 fo.length gh,.slice j7 pa.length ft,.slice ti cr.length js,.slice xz fe.length Rd,.slice zR iv.length MF] 83) by rw[heap_alloc,aI rfl]));have nA:Hid (((w.alloc (.cells #[.string (bs nm),.bool dd,.slice a12 fo.length gh,.slice j7 pa.length ft,.slice ti cr.length js,.slice xz fe.length Rd,.slice zR iv.length MF] 83)).alloc (.cells #[.string (bs nm),.bool dd,.slice a22 fo.length TB,.slice a23 pa.length O4,.slice a24 cr.length T8,.slice a25 fe.length T9,.slice a26 iv.length Ua] 83)).heap[w.heap.size+1]?=some (.cells #[.string (bs nm),.bool dd,.slice a22 fo.length TB,.slice a23 pa.length O4,.slice a24 cr.length T8,.slice a25 fe.length T9,.slice a26 iv.length Ua] 83)):=ah mT;have fq:=ah (((Kept.refl aK w).alloc (cO #[.string (bs nm),.bool dd,sV a12 fo.length gh,sV j7 pa.length ft,sV ti cr.length js,sV xz fe.length Rd,sV zR iv.length MF] 83)).alloc (cO #[.string (bs nm),.bool dd,sV a22 fo.length TB,sV a23 pa.length O4,sV a24 cr.length T8,sV a25 fe.length T9,sV a26 iv.length Ua] 83));clear nw ri nF la lb;obtain⟨a0,a1,a2,-⟩:=cc N4.out;obtain⟨b0,b1,b2,-⟩:=cc nA.out;go_enter func38,ntmps38;go_wp2_with fail;obtain⟨W0,OI⟩:∃W,W=((w.alloc (cO #[.string (bs nm),.bool dd,sV a12 fo.length gh,sV j7 pa.length ft,sV ti cr.length js,sV xz fe.length Rd,sV zR iv.length MF] 83)).alloc (cO #[.string (bs nm),.bool dd,sV a22 fo.length TB,sV a23 pa.length O4,sV a24 cr.length T8,sV a25 fe.length T9,sV a26 iv.length Ua] 83)):=⟨_,rfl⟩
 rw[<-OI] at N4 nA fq|-;clear a0 b0 a1 b1 a2 b2;clear OI;go_loopg [5] fo.length (λgg s5 wr=>∃k:Nat,s5=iV k/\k+gg=fo.length/\Kept aK W0 wr)
 case atStart=>exact⟨0,rfl,by omega,Kept.refl _ _⟩
 case round=>
  obtain⟨j,rfl,zC,hK⟩:=hrel;have hAr:=ah (aJ N4.out hK);have hBr:=ah (aJ nA.out hK);have a2:=bc hAr 2;have b2:=bc hBr 2;by_cases hj:j < fo.length
  .obtain⟨row,aL⟩:∃x,fo[j]?=some x:=⟨_,ck hj⟩
   obtain⟨x,y,rfl⟩:=agu (h2.out row (cm aL));obtain⟨ga,oa,rfl,-,ca,ri,Mc⟩:=Wz.out.elem aL;obtain⟨gb,ob,rfl,-,cb,nF,xE⟩:=vb2.out.elem aL;obtain⟨x1,y1,rfl,v1,h1'⟩:=ri.aG;obtain⟨x2,y2,rfl,v2,h2'⟩:=nF.aG;obtain⟨x3,y3,rfl,v3,h3'⟩:=h1'.aG;obtain⟨x4,y4,rfl,v4,h4'⟩:=h2'.aG
   cases v1.bq
   cases v2.bq
   cases v3.bq
   cases v4.bq;have de:∀{p:Addr} {u},w.cell? p=some u->wr.cell? p=some u:=λh=>(fq.trans' hK).aq h (λe=>e);obtain⟨p0,p1,-⟩:=hc (o:=oa+j*2) λk _ e=>de (Mc k _ e);obtain⟨q0,q1,-⟩:=hc (o:=ob+j*2) λk _ e=>de (xE k _ e);have jS:(j:Int) < (fo.length:Int):=ab;have sQ:(0:Int)<=(j:Int):=ab;revert hK aL;refine ct ?_;intro hK aL;clear Mc xE de ri nF h1' h2' h3' h4' v1 v2 v3 v4;go_wp2_with fail;refine aY [some 34,some 35,some 36,some 37,some 38,some 39,some 40,some 41,some 42,some 43,some 44] [0,1,2,3,4,5,6,7,8,9,10] (A:=?_) (λlb u V=>(Kept aK wr V)/\VT [some (.pointer (some ⟨w,2,none⟩)),some (sV (some ⟨ga,oa,none⟩) fo.length gh),some (iV j),some (.pointer (some ⟨ga,oa+j*2,none⟩)),some (.agg #[.string (bs x),.string (bs y)]),some (.pointer (some ⟨w.heap.size+1,2,none⟩)),some (sV (some ⟨gb,ob,none⟩) fo.length TB),some (iV j),some (.pointer (some ⟨gb,ob+j*2,none⟩)),some (.agg #[.string (bs x),.string (bs y)]),some (.bool false)] lb u) af af (λu=>?_) (λlb u h0=>⟨(Kept.refl aK wr).drew,VT.none rfl h0⟩) ?_ (λlb u V hl hI=>?_);rotate_left
   .exact bK
   .repeat' first|apply Bm.be.cons|exact Bm.be.nil
    all_goals intro lb u V K hl hn Pj hI j8
    .exact eV
    .have e0:=hI.2 0 _ rfl (hn 0 af);have d0:=hI.1.aq a2 (λe=>e);exact uq
    .exact Et
    .have e1:=hI.2 1 _ rfl (hn 1 af);have e2:=hI.2 2 _ rfl (hn 2 af);go_simp;exact j8 _ _ _ ⟨hI.1,hI.2.yes 3⟩ (by rw[e1,e2];try rfl)
    .have e3:=hI.2 3 _ rfl (hn 3 af);have d0:=hI.1.aq p0 (λe=>e);have d1:=hI.1.aq p1 (λe=>e);exact pd
    .exact gK
    .have e5:=hI.2 5 _ rfl (hn 5 af);have d0:=hI.1.aq b2 (λe=>e);exact Ed
    .exact uu
    .have e6:=hI.2 6 _ rfl (hn 6 af);have e7:=hI.2 7 _ rfl (hn 7 af);go_simp;exact j8 _ _ _ ⟨hI.1,hI.2.yes 8⟩ (by rw[e6,e7];try rfl)
    .have e8:=hI.2 8 _ rfl (hn 8 af);have d0:=hI.1.aq q0 (λe=>e);have d1:=hI.1.aq q1 (λe=>e);exact mB
    .exact Cy
   have zv:=hI.2 10 _ rfl (hl 10 aj);have hKX:=ah (hK.trans' hI.1);have jl:=hI.1;rw[zv];replace jl:=ah jl;clear hI hl zv;exact pe
  .have jS:¬((j:Int) < (fo.length:Int)):=by omega
   replace fq:=ah (fq.trans' hK);clear N4 nA;have N4:=hAr;have nA:=hBr;clear hAr hBr;have a3:=bc N4 3;have b3:=bc nA 3;go_wp2_with fail;refine bD (aoV _ _ _ _ _ _ h3 (YO.kept fq λ_ _ _ e=>e) (YP.kept fq λ_ _ _ e=>e)) λz1 KK=>?_;revert fq;refine pL ?_;intro hA1 PJ fq;clear N4 nA a2 b2 a3 b3;have a4:=bc hA1 4;have b4:=bc PJ 4;go_wp2_with fail;refine bD (Wa _ _ _ _ _ _ h4 (va4.kept fq λ_ _ _ e=>e) (vb4.kept fq λ_ _ _ e=>e)) λz2 KK=>?_;revert fq;refine pM ?_;intro RO Jd fq;clear hA1 PJ a4 b4;have a5:=bc RO 5;have b5:=bc Jd 5;go_wp2_with fail;refine bD ((aoU (f:=f)) _ _ _ _ _ _ h5 (va5.kept fq λ_ _ _ e=>e) (vb5.kept fq λ_ _ _ e=>e)) λz3 KK=>?_;revert fq;refine rI ?_;intro hA3 Mp fq;clear RO Jd a5 b5;have a6:=bc hA3 6;have b6:=bc Mp 6;go_wp2_with fail;refine bD ((aaY (th f)) _ _ _ _ _ _ h6 (va6.kept fq λ_ _ _ e=>e) (vb6.kept fq λ_ _ _ e=>e)) λz4 KK=>?_;revert fq;refine pN ?_;intro hA4 Xu fq;clear hA3 Mp a6 b6;go_wp2_with fail;go_ret;exact⟨rfl,fq⟩
def amo{f:Nat}(ih:SmR 38 (shK f)):SmL 15 (shK f):=by
 refine fN ?_;intro S S' w rows a cap gF b vE lC eF v3 u3;go_enter func15,ntmps15;go_wp2_with fail;go_loopg [5] rows.length (λgg s5 wr=>∃k:Nat,s5=iV k/\k+gg=rows.length/\Kept aK w wr)
 case atStart=>exact⟨0,rfl,by omega,Kept.refl _ _⟩
 case round=>
  obtain⟨j,rfl,zC,hK⟩:=hrel;by_cases hj:j < rows.length
  .refine fP ?_;intro row aL nw;obtain⟨nm,dd,fo,pa,cr,fe,iv,rfl,-⟩:=Wc nw;obtain⟨ga,oa,rfl,-,ca,ri,Mc⟩:=v3.out.elem aL;obtain⟨gb,ob,rfl,-,cb,nF,xE⟩:=u3.out.elem aL;obtain⟨As,gh,xw,ft,x14,js,x15,Rd,x16,MF,rfl,-⟩:=ri.nl;obtain⟨x22,TB,x23,O4,x24,T8,x25,T9,x26,Ua,rfl,-⟩:=nF.nl;refine oC ?_;intro de;obtain⟨p0,p1,p2,p3,p4,p5,p6,-⟩:=hc (o:=oa+j*7) λk _ e=>de (Mc k _ e);obtain⟨q0,q1,q2,q3,q4,q5,q6,-⟩:=hc (o:=ob+j*7) λk _ e=>de (xE k _ e);have jS:(j:Int) < (rows.length:Int):=ab;have sQ:(0:Int)<=(j:Int):=ab;revert hK aL nw ri nF;refine nx ?_;intro hK aL nw ri nF;go_wp2_with fail;refine aY [some 18,some 19,some 20,some 21,some 22,some 23,some 24,some 25,some 26,some 6] [0,1,2,3,4,5,6,7,8,9] (A:=?_) (λlb u V=>(Kept aK wr V)/\VT [some (sV (some ⟨ga,oa,none⟩) rows.length cap),some (iV j),some (.pointer (some ⟨ga,oa+j*7,none⟩)),some (.agg #[.string (bs nm),.bool dd,sV As fo.length gh,sV xw pa.length ft,sV x14 cr.length js,sV x15 fe.length Rd,sV x16 iv.length MF]),some (sV (some ⟨gb,ob,none⟩) rows.length vE),some (iV j),some (.pointer (some ⟨gb,ob+j*7,none⟩)),some (.agg #[.string (bs nm),.bool dd,sV x22 fo.length TB,sV x23 pa.length O4,sV x24 cr.length T8,sV x25 fe.length T9,sV x26 iv.length Ua]),some (.bool true),some (.bool true)] lb u) af af (λu=>?_) (λlb u h0=>⟨(Kept.refl aK wr).drew,VT.none rfl h0⟩) ?_ (λlb u V hl hI=>?_);rotate_left
   .exact bK
   .repeat' first|apply Bm.be.cons|exact Bm.be.nil
    all_goals intro lb u V K hl hn Pj hI j8
    .exact eV
    .exact fJ
    .exact iL
    .refine Gk ?_;intro e2 d0 d1 d2 d3 d4;have d5:=hI.1.aq p5 (λe=>e);have d6:=hI.1.aq p6 (λe=>e);exact kj
    .exact iP
    .exact gK
    .exact pk
    .refine Gj ?_;intro e6 d0 d1 d2 d3 d4;have d5:=hI.1.aq q5 (λe=>e);have d6:=hI.1.aq q6 (λe=>e);exact mK
    .exact xX
    .exact uH
   exact uF
  exact fL
def aoW(f:Nat):SmL 15 (shK f):=amo (smK f)
end Go.Proofs.Gm
