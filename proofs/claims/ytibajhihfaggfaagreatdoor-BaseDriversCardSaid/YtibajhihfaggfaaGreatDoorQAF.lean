/- A part of the proof of BaseDrivers. No condition. -/
import Derived.Test.YtibajhihfaggfaaGreatDoorQAD
set_option linter.all false
set_option maxRecDepth 100000
set_option maxHeartbeats 8000000
namespace Go.Proofs.Gm
open Go.Proofs.Tryz
open Go.RowKit Go.Maps
open Go.Proofs.Bm
variable {s:Yz}{k m:Nat}{l:Zi}{S:Wq}
structure Env (w:YC):Prop where
 tab:Lib.TabIs prog w "strings.asciiSpace" .u8 Lib.asciiSpaceTab
 m1:∃m:Int,w.cell? ⟨1,0,none⟩=some (iV m)
def Env.no{w w':YC}(h:Env w)(hk:Kept aK w w'):Env w':=by
 refine⟨?_,?_⟩
 .have ht:=h.tab;unfold Lib.TabIs World.var? at ht|-
  cases hg:prog.globalNamed "strings.asciiSpace" with
  |none=>rw[hg] at ht;cases ht
  |some g=>
   rw[hg] at ht;simp only[Ae] at ht|-
   cases hb:w.heap[g]? with
   |none=>rw[hb] at ht;cases ht
   |some o=>rw[(hk.block g (aQ.1 hb).1 (λe=>e)).trans hb];rw[hb] at ht;exact ht
 .obtain⟨m,hm⟩:=h.m1;exact⟨m,(hk.cell (cA w _ hm) (λe=>e)).trans hm⟩
def gP{w:YC}(fs:Y9):F2 (λrow cs=>cs.length=1/\aP S w row cs) (strs fs) (fs.map (λs=>[.string (bs s)])):=by exact ui
def rn:List (List Nat):=[tx "and",tx "as",tx "attached",tx "check",tx "class",tx "create",tx "deferred",tx "detachable",tx "do",tx "else",tx "end",tx "ensure",tx "feature",tx "from",tx "if",tx "implies",tx "inherit",tx "invariant",tx "local",tx "loop",tx "not",tx "old",tx "or",tx "put",tx "raise",tx "redefine",tx "rename",tx "require",tx "rescue",tx "retry",tx "select",tx "separate",tx "then",tx "undefine",tx "until",tx "variant",tx "when"]
def kw5:List (List Nat):=[tx "True",tx "False",tx "Void",tx "Current",tx "Result"]
def kwl:List (List Nat):=[tx "true",tx "false",tx "void",tx "current",tx "result"]
def aku:yG=rn++kw5:=rfl
def kwS:List Nat:=tx "and as attached check class create deferred detachable do else end ensure feature from if implies inherit invariant local loop not old or put raise redefine rename require rescue retry select separate then undefine until variant when"
def Ya:(Lib.fields (kwS.map UInt8.ofNat))=rn.map (λs=>s.map UInt8.ofNat):=by kernel_rfl
def abV:∀(j:Nat) b,(bs kwS).data.toList[j]?=some b->b.toNat < 128:=by intro j b hb;rw[kY,qC] at hb;obtain⟨c,hc,rfl⟩:=Ue.1 hb;have:kwS.all (λc=>decide (c < 128))=true:=af;have:=dV.1 this c (cm hc);simp at this|-;omega
def ae3:∀s∈rn,bW s:=by intro s hs c hc;have:rn.all (λs=>s.all λc=>decide (c < 256))=true:=aj;exact pz
def aau:∀s∈kw5,bW s:=by intro s hs c hc;have:kw5.all (λs=>s.all λc=>decide (c < 256))=true:=aj;exact pz
def aav:∀s∈kwl,bW s:=by intro s hs c hc;have:kwl.all (λs=>s.all λc=>decide (c < 256))=true:=aj;exact pz
def aob{w:YC}(hE:Env w):Calls prog 341 #[] w λe w'=>∃v,e=.returned v/\an (λ_=>True) w' (.sl (strs rn)) v/\Kept aK w w':=by
 have h:=Tryz.strings_Fields (bs kwS) w (by rw[dp];decide) abV hE.tab;have hl:(Lib.fields (bs kwS).data.toList)=rn.map (λs=>s.map UInt8.ofNat):=by rw[kY];exact Ya
 rw[hl] at h;have hc:an (λ_=>True) (w.alloc (.cells ((rn.map (λs=>s.map UInt8.ofNat)).map λl=>Value.string ⟨l.toArray⟩).toArray 9)) (.sl (strs rn)) (sV w rn.length rn.length):=by have hl:rn.length=(strs rn).length:=rfl;rw[hl];refine aW (E:=9) (fr:=(0,0)) (wd:=1) (css:=rn.map λs=>[.string (bs s)]) (arr:=((rn.map (λs=>s.map UInt8.ofNat)).map λl=>Value.string ⟨l.toArray⟩).toArray) ao rfl ?_ bw (aM _) aj;exact gP rn
 revert h hc;refine ct ?_;intro h hc;go_enter func341,ntmps341;go_wp2_with fail;refine h.mono ?_;rintro e w1 ⟨rfl,rfl⟩;go_wp2
 first|go_ret|(refine bG (rB rfl _ _ _) rfl ?_)
 exact⟨_,rfl,by simpa using hc.out,(Kept.refl _ _).alloc _⟩
def Tc(h:shape s=some k)(h5:k≠5)(h4:k≠4):∃c r,s=c::r/\s.all cB=true/\c≠95/\iD c=false/\cJ.contains s=false/\((yG.contains s=true/\k=3)∨(yG.contains s=false/\kwl.contains s=false/\(s.any cV&&s.any jT)=false/\s.length<=20/\k=if s.any cV then 1 else 2)):=by
 unfold shape at h;split at h
 .cases h;exact absurd rfl h5
 .rename_i NV;split at h
  .cases h
  .rename_i c r;split at h
   .cases h
   .rename_i hp;simp only[j5,rV,gI,Bool.not_eq_false'] at hp;split at h
    .split at h
     .cases h;exact absurd rfl h4
     .cases h
    .rename_i hd;refine⟨c,r,rfl,hp.1,by have:=hp.2;simpa using this,by simpa using hd,by simpa using NV,?_⟩;split at h
     .rename_i hk;cases h;exact .inl ⟨hk,rfl⟩
     .rename_i hk;split at h
      .cases h
      .rename_i hl;split at h
       .cases h
       .rename_i hb;split at h
        .cases h
        .rename_i h20;refine .inr ⟨by rw[M0];exact hk,by rw[M0];exact hl,by rw[M0];exact hb,by omega,?_⟩;split at h
         .rename_i hs;cases h;rw[aI hs]
         .rename_i hs;cases h;rw[aE hs]
def aaw{p:Ri}(hp:s.all cB=true):s.all (λc=>cB c&&!(p c))=!(s.any p):=by
 induction s with
 |nil=>rfl
 |cons c r ih=>
  rw[tD,dD] at hp;rw[tD,JF,ih hp.2,hp.1]
  cases p c<;>simp
def aax{c:Nat}{r:Yz}(he:s=c::r)(hp:s.all cB=true)(IL:c≠95)(hd:iD c=false):s.any cV=true∨s.any jT=true:=by
 subst he;rw[tD,dD] at hp;have h1:=hp.1;unfold cB at h1;rw[hd] at h1;simp only[wX,j5,dU] at h1;rcases h1 with(h1|h1)|h1
 .left;rw[JF,h1];rfl
 .right;rw[JF,h1];rfl
 .exact absurd h1 IL
def aij(hs:bW s)(hl:s.length<=1000000)(h:shape s=some k)(h5:k≠5)(h4:k≠4){w:YC}(hE:Env w):Calls prog 323 #[.string (bs s)] w λe w'=>e=.returned (.tuple #[k,oZ])/\Kept aK w w':=by
 obtain⟨c,r,he,hp,IL,BN,-,hk⟩:=Tc h h5 h4;have hpl:=ah (λw=>X9 s hs hl w);have hhi:=ah (λw=>abU s hs hl w);have hkw:=ah (aob hE);have abm:=aax he hp IL BN;have e1:=ah (aaw (p:=jT) hp);have e2:=ah (aaw (p:=cV) hp);refine Lc ?_;intro hz h5L h6L hka;revert hs hk hka;refine jk ?_;intro hs hk hka;clear he hp IL BN hE h;go_enter func323,ntmps323;go_wp2_with fail;refine(hpl _).mono ?_;rintro e w1 ⟨rfl,rfl⟩;rw[e1.out];go_wp2_with fail;refine(hhi _).mono ?_;rintro e w1 ⟨rfl,rfl⟩;rw[e2.out];go_wp2_with fail;refine hkw.mono ?_;rintro e w2 ⟨v,rfl,hv,K2⟩;revert hv K2;refine ct ?_;intro hv K2;go_wp2_with fail;refine(gW hv ae3 s hs).mono ?_;rintro e w3 ⟨rfl,rfl⟩
 cases h37:rn.contains s
 .go_wp2_with fail;refine(gW (h5L _) aau s hs).mono ?_;rintro e w4 ⟨rfl,rfl⟩
  cases h5c:kw5.contains s
  .refine GH ?_;intro BK hb h20 xe;revert BK xe;refine ct ?_;intro BK xe;have Pu:¬((s.length:Int) > 20):=ab;go_wp2_with fail;have h6w:=h6L (w3.alloc (cO #[.string rv,.string nZ,.string ry,.string jX,.string kf] 9));simp only[dB] at h6w;refine(gW h6w aav s hs).mono ?_;rintro e w5 ⟨rfl,rfl⟩;rw[BK.out]
   cases hsm:s.any cV
   .have QE:s.any jT=true:=abm.elim (λh=>by rw[hsm] at h;cases h) (λh=>h);rw[QE];have jF:k=2:=pX;subst jF;exact DG
   .have QE:s.any jT=false:=by rw[hsm] at hb;simpa using hb
    rw[QE];have xi:k=1:=pX;subst xi;exact DG
  .have WD:k=3:=by exact DJ
   subst WD;go_wp2;refine bG (B8 rfl _ _ _) rfl ?_;exact⟨rfl,K2.alloc _⟩
 .have WD:k=3:=by exact DM
  subst WD;go_wp2;refine bG (B8 rfl _ _ _) rfl ?_;exact⟨rfl,K2⟩
abbrev sgA:Array Value:=#[.string ⟨#[58,61]⟩,.string ⟨#[47,61]⟩,.string ⟨#[60,61]⟩,.string ⟨#[62,61]⟩,.string ⟨#[47,47]⟩,.string ⟨#[61]⟩,.string ⟨#[60]⟩,.string ⟨#[62]⟩,.string ⟨#[43]⟩,.string ⟨#[45]⟩,.string ⟨#[42]⟩,.string ⟨#[37]⟩,.string ⟨#[40]⟩,.string ⟨#[41]⟩,.string ⟨#[91]⟩,.string ⟨#[93]⟩,.string ⟨#[123]⟩,.string ⟨#[125]⟩,.string qu,.string ⟨#[59]⟩,.string ⟨#[58]⟩,.string ⟨#[46]⟩]
abbrev sgZ:Array Value:=#[eS,eS,eS,eS,eS,eS,eS,eS,eS,eS,eS,eS,eS,eS,eS,eS,eS,eS,eS,eS,eS,eS]
def ae4(w:YC):Calls prog 324 #[] w λe w'=>e=.returned (.agg sgA)/\Kept aK w w':=by
 have hz:(w.alloc (cO sgZ 325)).heap[w.heap.size]?=some (.cells sgZ 325 (0,0)):=ao;have hK:Kept aK w ((w.alloc (cO sgZ 325)).setRow w.heap.size sgA):=by rw[World.setRow_alloc_new];exact(Kept.refl aK w).alloc _
 have hb:((w.alloc (cO sgZ 325)).setRow w.heap.size sgA).heap[w.heap.size]?=some (.cells sgA 325 (0,0)):=by rw[World.setRow_alloc_new,heap_alloc,aI rfl]
 revert hz hK hb;refine jk ?_;intro hz hK hb;go_enter func324,ntmps324;go_wp2_with (first|(refine wpList_build rfl 325 _ rfl af ?_)|(refine wpList_store_row rfl 325 (.tmp 0) (.tmp 1) rfl w.heap.size sgA rfl af 325 sgZ hz af rfl af ?_));refine bG (v:=.agg sgA) (results_cell_row (p:=0) (ty:=325) rfl _ _ w.heap.size 325 sgA (0,0) (.array 22 9) ?_ hb af rfl af) rfl ⟨rfl,hK⟩;rfl
def ae5(w:YC):∀(k:Nat),k < 22->(Instr.index 325 (.agg sgA) (iV k)).run prog w=.ok (.string (bs (cJ.getD k []))) w:=by
 intro k hk;rcases k with _|_|_|_|_|_|_|_|_|_|_|_|_|_|_|_|_|_|_|_|_|_|k
 .kernel_rfl
 .kernel_rfl
 .kernel_rfl
 .kernel_rfl
 .kernel_rfl
 .kernel_rfl
 .kernel_rfl
 .kernel_rfl
 .kernel_rfl
 .kernel_rfl
 .kernel_rfl
 .kernel_rfl
 .kernel_rfl
 .kernel_rfl
 .kernel_rfl
 .kernel_rfl
 .kernel_rfl
 .kernel_rfl
 .kernel_rfl
 .kernel_rfl
 .kernel_rfl
 .kernel_rfl
 .omega
def yX:∀x∈cJ,bW x:=by intro s hs c hc;have:cJ.all (λs=>s.all λc=>decide (c < 256))=true:=aj;exact pz
def Yb:∀(x s:Yz),bW x->bW s->(x.map UInt8.ofNat).isPrefixOf (s.map UInt8.ofNat)=x.isPrefixOf s
 |[],s,_,_=>by cases s<;>rfl
 |c::x,[],_,_=>rfl
 |c::x,d::s,h1,h2=>by
  have ih:=Yb x s (λe he=>h1 e (by simp[he])) (λe he=>h2 e (by simp[he]));have hc:=h1 c ai;have hd:=h2 d ai;simp only[lp,List.isPrefixOf_cons₂,ih];congr 1
  rw[sM];simp only[dU];constructor
  .intro h;have h3:=gq UInt8.toNat h;simp at h3;omega
  .intro h;rw[h]
def QV{x:Yz}(h:∀y∈cJ.take k,y.isPrefixOf s=false)(hx:cJ[k]?=some x)(hp:x.isPrefixOf s=true):fE s=x:=by
 unfold fE;have h1:cJ=cJ.take k++x::cJ.drop (k+1):=by have hk:=(dk.1 hx).1;have:=(dk.1 hx).2;rw[<-this,<-MN hk,Rq]
 rw[h1,List.find?_append];have h2:(cJ.take k).find? (λx=>x.isPrefixOf s)=none:=by rw[List.find?_eq_none];intro y hy;rw[h y hy];simp
 rw[h2];simp[hp]
def aly(w:YC)(s:Yz)(gg:Nat)(s3 s7:YE)(wr:YC):Prop:=∃k:Nat,s7=iV k/\k+gg=22/\s3=.string ⟨#[]⟩/\Kept aK w wr/\∀x∈cJ.take k,x.isPrefixOf s=false
def aay(s:Yz)(hs:bW s)(w:YC):Calls prog 301 #[s] w λe w'=>e=.returned (.string (bs (fE s)))/\Kept aK w w':=by
 go_enter func301,ntmps301;go_wp2_with fail;apply wp_scope_straight
 go_wp2_with fail;apply wp_label
 go_wp2_with fail;refine(ae4 _).mono ?_;rintro e w1 ⟨rfl,K1⟩;replace K1:=ah K1;go_wp2_with fail;go_loopg [3,7] 22 (λgg s3 s7 wr=>aly w s gg s3 s7 wr)
 case atStart=>exact⟨0,rfl,rfl,rfl,K1,by simp⟩
 case round=>
  obtain⟨k,rfl,hkg,rfl,K,I7⟩:=hrel;by_cases hk:k < 22
  .have h1:(k:Int) < 22:=by omega
   have h2:(0:Int)<=(k:Int):=ab;obtain⟨x,hx⟩:∃x,cJ[k]?=some x:=⟨_,ck hk⟩
   have avg:=ae5 wr k hk;have hgx:cJ.getD k []=x:=by rw[rA,hx];rfl
   rw[hgx] at avg;revert K I7 hx;refine jk ?_;intro K I7 hx;go_wp2_with fail;refine(Tryz.strings_HasPrefix _ _ _).mono ?_;rintro e w2 ⟨rfl,rfl⟩;rw[show Lib.hasPrefix (bs s).data.toList (bs x).data.toList=x.isPrefixOf s by rw[kY,kY];exact Yb x s (yX x (cm hx.out)) hs]
   cases hp:x.isPrefixOf s
   .go_wp2;go_roundg (gk - 1)
    case measure=>omega
    case rel=>exact⟨k+1,rfl,by omega,rfl,K,by
     intro y hy;rw[Ad,hx.out] at hy;rcases oU.1 hy with h|h
     .exact I7 y h
     .simp at h;rw[h];exact hp⟩
   .have hf:=QV I7 hx hp;replace hf:=ah hf;go_wp2;rw[Exit.noGoto_ret];go_ret;exact⟨by rw[hf.out];rfl,K⟩
  .have Am:k=22:=by omega
   have h1:¬(k:Int) < 22:=ab;have hf:fE s=[]:=by
    unfold fE;have:cJ.find? (λx=>x.isPrefixOf s)=none:=by exact Ej
    rw[this];rfl
   replace hf:=ah hf;go_wp2;go_ret;exact⟨by rw[hf.out];rfl,K⟩
def OD:∀s∈cJ,fD s=[]/\fE s=s/\s≠[]/\s.length<=2:=by intro s hs;have h:cJ.all (λs=>(fD s).isEmpty&&(fE s==s)&&!s.isEmpty&&decide (s.length<=2))=true:=af;have:=dV.1 h s hs;simp only[dD,dU,oM] at this;obtain⟨⟨⟨h1,h2⟩,h3⟩,h4⟩:=this;exact⟨by simpa using h1,h2,by simpa using h3,h4⟩
def ae6(h:shape s=some 5):s∈cJ:=by
 unfold shape at h;split at h
 .rename_i hc;simpa using hc
 .split at h
  .cases h
  .split at h
   .cases h
   .split at h
    .split at h<;>cases h
    .exact Dh
def Yc(s:Yz)(h:s∈cJ)(w:YC):Calls prog 300 #[s] w λe w'=>e=.returned (.tuple #[iV 5,oZ])/\Kept aK w w':=by
 have hs:=yX s h;obtain⟨hr,NV,cR,oL⟩:=OD s h;have hz:=dp s;have aoa:(bs s).toList.isEmpty=false:=by
  rw[dW,kY]
  cases s with
  |nil=>exact absurd rfl cR
  |cons c r=>rfl
 have BK:0 < s.length:=by cases s with
  |nil=>exact absurd rfl cR
  |cons c r=>simp
 have gV:=ah (λw=>SY s hs ab w);have aqg:=ah (λw=>aay s hs w);revert hr NV;refine ct ?_;intro hr NV;have g0:((0:Int)==(s.length:Int))=false:=cX;have g1:¬s.length=0:=ab;have g2:s≠[]:=cR;have g3:¬((0:Int)=(s.length:Int)):=ab;go_enter func300,ntmps300;go_wp2_with fail;refine(gV _).mono ?_;rintro e w1 ⟨rfl,rfl⟩;rw[hr.out];go_wp2_with fail;refine(gV _).mono ?_;rintro e w1 ⟨rfl,rfl⟩;rw[hr.out];go_wp2_with fail;refine(aqg _).mono ?_;rintro e w1 ⟨rfl,K⟩;rw[NV.out];exact DW
def Yd(hs:bW s)(hl:s.length<=1000000)(h:shape s=some k)(h5:k≠5)(h4:k≠4){w:YC}(hE:Env w):Calls prog 300 #[s] w λe w'=>e=.returned (.tuple #[k,oZ])/\Kept aK w w':=by obtain⟨c,r,he,hp,IL,BN,-,-⟩:=Tc h h5 h4;have hz:=dp s;have BK:0 < s.length:=pH;have nB:=ah (oR s hs 0 ab c vu);have aoa:(bs s).toList.isEmpty=false:=Hr;have gV:=ah (λw=>SY s hs hl w);have ae7:=ah (aij hs hl h h5 h4 hE);have UA:Hid (fD s=s):=ah (N8 s hp);have g0:(0:Int) < (s.length:Int):=ab;have g1:((c:Int)==95)=false:=cX;have g2:¬c=95:=IL;replace BN:=ah BN;clear he hp h hs IL hE;go_enter func300,ntmps300;go_wp2_with fail;refine(gV _).mono ?_;rintro e w1 ⟨rfl,rfl⟩;rw[UA.out];go_wp2_with fail;refine(Iq _ _).mono ?_;rintro e w1 ⟨rfl,rfl⟩;rw[nB.out,BN.out];go_wp2_with fail;refine(gV _).mono ?_;rintro e w1 ⟨rfl,rfl⟩;rw[UA.out];have lL:=nB.out;go_wp2_with fail;refine ae7.mono ?_;rintro e w1 ⟨rfl,K⟩;exact DW
def ae8(hs:bW s)(hl:s.length<=1000000)(h:shape s=some k){w:YC}(hE:Env w):Calls prog 300 #[s] w λe w'=>e=.returned (.tuple #[k,oZ])/\Kept aK w w':=by
 by_cases h5:k=5
 .subst h5;exact Yc s (ae6 h) w
 .by_cases h4:k=4
  .subst h4;exact(QU s hs h w).mono λe w' ⟨h1,h2⟩=>⟨h1,h2▸Kept.refl _ _⟩
  .exact Yd hs hl h h5 h4 hE
def zK(n:Nat)(w:YC):Calls prog 190 #[.int .u8 n] w λe w'=>e=.returned (.bool (iD n))/\w'=w:=by
 have hd:iD n=(decide (48<=n)&&decide (n<=57)):=rfl;by_cases h1:48<=n
 .have g1:(48:Int)<=(n:Int):=by omega
  by_cases h2:n<=57
  .have g2:(n:Int)<=57:=by omega
   have hr:iD n=true:=mh;exact uP
  .have g2:¬(n:Int)<=57:=by omega
   have hr:iD n=false:=kR;exact uP
 .have g1:¬(48:Int)<=(n:Int):=by omega
  have hr:iD n=false:=kU;exact uP
def QX(n:Nat)(w:YC):Calls prog 188 #[.int .u8 n] w λe w'=>e=.returned (.bool (cV n))/\w'=w:=by
 have hd:cV n=(decide (97<=n)&&decide (n<=122)):=rfl;by_cases h1:97<=n
 .have g1:(97:Int)<=(n:Int):=by omega
  by_cases h2:n<=122
  .have g2:(n:Int)<=122:=by omega
   have hr:cV n=true:=mh;exact uO
  .have g2:¬(n:Int)<=122:=by omega
   have hr:cV n=false:=kR;exact uO
 .have g1:¬(97:Int)<=(n:Int):=by omega
  have hr:cV n=false:=kU;exact uO
def Zu(n:Nat)(w:YC):Calls prog 189 #[.int .u8 n] w λe w'=>e=.returned (.bool (jT n))/\w'=w:=by
 have hd:jT n=(decide (65<=n)&&decide (n<=90)):=rfl;by_cases h1:65<=n
 .have g1:(65:Int)<=(n:Int):=by omega
  by_cases h2:n<=90
  .have g2:(n:Int)<=90:=by omega
   have hr:jT n=true:=mh;exact uN
  .have g2:¬(n:Int)<=90:=by omega
   have hr:jT n=false:=kR;exact uN
 .have g1:¬(65:Int)<=(n:Int):=by omega
  have hr:jT n=false:=kU;exact uN
def No(n:Nat)(w:YC):Calls prog 103 #[.int .u8 n] w λe w'=>e=.returned (.bool (cB n))/\w'=w:=by
 have hd:cB n=(cV n||jT n||iD n||n==95):=rfl;go_enter func103,ntmps103;go_wp2_with fail;refine(QX n _).mono ?_;rintro e w1 ⟨rfl,rfl⟩
 cases h1:cV n
 .go_wp2_with fail;refine(Zu n _).mono ?_;rintro e w2 ⟨rfl,rfl⟩
  cases h2:jT n
  .go_wp2_with fail;refine(zK n _).mono ?_;exact Dg
  exact Ku
 exact EX
def akk(w:YC)(fs:Y9)(s:Yz)(gg:Nat)(s5:YE)(wr:YC):Prop:=∃k:Nat,s5=iV k/\k+gg=fs.length/\wr=w/\(fs.take k).contains s=false
def zL{w:YC}{fs:Y9}{v:YE}(h:an S w (.sl (strs fs)) v)(fx:∀s∈fs,bW s)(s:Yz)(hs:bW s):Calls prog 191 #[v,.string (bs s)] w λe w'=>e=.returned (.bool (fs.contains s))/\w'=w:=by revert v h;change ∀v,_;refine F8 ?_;intro a cap eG B hB lC gF h;go_enter func191,ntmps191;exact CT
def aik(w:YC)(s:Yz)(td gg:Nat)(s5:YE)(wr:YC):Prop:=∃k:Nat,s5=iV k/\td+k+gg=s.length/\wr=w/\∀c∈(s.drop td).take k,cB c=true
def ZI(s:Yz)(hs:bW s)(hl:s.length<=1000000)(td:Nat)(ha:td<=s.length)(w:YC):Calls prog 104 #[s,td] w λe w'=>e=.returned (iV (fD (s.drop td)).length)/\w'=w:=by
 have hz:=dp s;go_enter func104,ntmps104;go_wp2_with fail;go_loopg [5] (s.length - td) (λgg s5 wr=>aik w s td gg s5 wr)
 case atStart=>exact⟨0,rfl,by omega,rfl,by simp⟩
 case round=>
  obtain⟨k,rfl,hkg,rfl,tR⟩:=hrel;have SH:(s.drop td).length=s.length - td:=ai;by_cases hk:td+k < s.length
  .have h1:(td:Int)+(k:Int) < (s.length:Int):=by omega
   have h2:(0:Int)<=(td:Int)+(k:Int):=ab;have h3:((td:Int)+(k:Int)).toNat=td+k:=ab;obtain⟨c,hc⟩:∃c,s[td+k]?=some c:=⟨_,ck hk⟩
   have L9:(s.drop td)[k]?=some c:=by rw[Qv];exact hc
   have M6:=oR s hs (td+k) ab c hc;revert tR SH hc L9;refine jU ?_;intro tR SH hc L9;go_wp2_with fail;refine(No _ _).mono ?_;rintro e w1 ⟨rfl,rfl⟩;try rw[M6]
   cases hp:cB c
   .have hru:=qq (s.drop td) k tR (λd hd=>by rw[L9.out] at hd;cases hd;exact hp) (by have:=SH.out;omega);replace hru:=ah hru;go_wp2;go_ret;exact⟨by rw[hru.out,sK,MO (by have:=SH.out;omega)];rfl,rfl⟩
   .go_wp2;go_roundg (gk - 1)
    case measure=>omega
    case rel=>exact⟨k+1,rfl,by omega,rfl,by
     intro d hd;rw[Ad,L9.out] at hd;rcases oU.1 hd with h|h
     .exact tR d h
     .simp at h;rw[h];exact hp⟩
  .have Am:td+k=s.length:=by omega
   have h1:¬(td:Int)+(k:Int) < (s.length:Int):=ab;have hru:=qq (s.drop td) k tR (λd hd=>by rw[W6 ab] at hd;cases hd) ab;replace hru:=ah hru;go_wp2;go_ret;exact⟨by rw[hru.out,sK,MO ab];rfl,rfl⟩
def zM(w:YC):Calls prog 187 #[] w λe w'=>∃v,e=.returned v/\an w w' (.sl (strs cJ)) v/\Kept aK w w':=by
 have hc:an w (w.alloc (cO #[.string ⟨#[58,61]⟩,.string ⟨#[47,61]⟩,.string ⟨#[60,61]⟩,.string ⟨#[62,61]⟩,.string ⟨#[47,47]⟩,.string ⟨#[61]⟩,.string ⟨#[60]⟩,.string ⟨#[62]⟩,.string ⟨#[43]⟩,.string ⟨#[45]⟩,.string ⟨#[42]⟩,.string ⟨#[37]⟩,.string ⟨#[40]⟩,.string ⟨#[41]⟩,.string ⟨#[91]⟩,.string ⟨#[93]⟩,.string ⟨#[123]⟩,.string ⟨#[125]⟩,.string qu,.string ⟨#[59]⟩,.string ⟨#[58]⟩,.string ⟨#[46]⟩] 9)) (.sl (strs cJ)) (sV w 22 22):=
  aW (E:=9) (fr:=(0,0)) (wd:=1) (css:=cJ.map λs=>[.string (bs s)]) (arr:=#[.string ⟨#[58,61]⟩,.string ⟨#[47,61]⟩,.string ⟨#[60,61]⟩,.string ⟨#[62,61]⟩,.string ⟨#[47,47]⟩,.string ⟨#[61]⟩,.string ⟨#[60]⟩,.string ⟨#[62]⟩,.string ⟨#[43]⟩,.string ⟨#[45]⟩,.string ⟨#[42]⟩,.string ⟨#[37]⟩,.string ⟨#[40]⟩,.string ⟨#[41]⟩,.string ⟨#[91]⟩,.string ⟨#[93]⟩,.string ⟨#[123]⟩,.string ⟨#[125]⟩,.string qu,.string ⟨#[59]⟩,.string ⟨#[58]⟩,.string ⟨#[46]⟩]) ao rfl (gP cJ) (aM _) (aM _) aj
 replace hc:=ah hc;go_enter func187,ntmps187;exact tU
def alz(w:YC):Calls prog 251 #[] w λe w'=>∃v,e=.returned v/\an w w' (.sl (strs rn)) v/\Kept aK w w':=by
 have hc:an w (w.alloc (cO #[.string Rk,.string ⟨#[97,115]⟩,.string jY,.string qw,.string ⟨#[99,108,97,115,115]⟩,.string nH,.string ⟨#[100,101,102,101,114,114,101,100]⟩,.string Ac,.string ⟨#[100,111]⟩,.string ⟨#[101,108,115,101]⟩,.string ⟨#[101,110,100]⟩,.string ⟨#[101,110,115,117,114,101]⟩,.string ⟨#[102,101,97,116,117,114,101]⟩,.string tw,.string MH,.string AX,.string ⟨#[105,110,104,101,114,105,116]⟩,.string ⟨#[105,110,118,97,114,105,97,110,116]⟩,.string ⟨#[108,111,99,97,108]⟩,.string ⟨#[108,111,111,112]⟩,.string tq,.string AV,.string ⟨#[111,114]⟩,.string AW,.string qy,.string ⟨#[114,101,100,101,102,105,110,101]⟩,.string ⟨#[114,101,110,97,109,101]⟩,.string ⟨#[114,101,113,117,105,114,101]⟩,.string ⟨#[114,101,115,99,117,101]⟩,.string qx,.string ⟨#[115,101,108,101,99,116]⟩,.string jZ,.string ⟨#[116,104,101,110]⟩,.string ⟨#[117,110,100,101,102,105,110,101]⟩,.string ⟨#[117,110,116,105,108]⟩,.string ⟨#[118,97,114,105,97,110,116]⟩,.string ⟨#[119,104,101,110]⟩] 9)) (.sl (strs rn)) (sV w 37 37):=
  aW (E:=9) (fr:=(0,0)) (wd:=1) (css:=rn.map λs=>[.string (bs s)]) (arr:=#[.string Rk,.string ⟨#[97,115]⟩,.string jY,.string qw,.string ⟨#[99,108,97,115,115]⟩,.string nH,.string ⟨#[100,101,102,101,114,114,101,100]⟩,.string Ac,.string ⟨#[100,111]⟩,.string ⟨#[101,108,115,101]⟩,.string ⟨#[101,110,100]⟩,.string ⟨#[101,110,115,117,114,101]⟩,.string ⟨#[102,101,97,116,117,114,101]⟩,.string tw,.string MH,.string AX,.string ⟨#[105,110,104,101,114,105,116]⟩,.string ⟨#[105,110,118,97,114,105,97,110,116]⟩,.string ⟨#[108,111,99,97,108]⟩,.string ⟨#[108,111,111,112]⟩,.string tq,.string AV,.string ⟨#[111,114]⟩,.string AW,.string qy,.string ⟨#[114,101,100,101,102,105,110,101]⟩,.string ⟨#[114,101,110,97,109,101]⟩,.string ⟨#[114,101,113,117,105,114,101]⟩,.string ⟨#[114,101,115,99,117,101]⟩,.string qx,.string ⟨#[115,101,108,101,99,116]⟩,.string jZ,.string ⟨#[116,104,101,110]⟩,.string ⟨#[117,110,100,101,102,105,110,101]⟩,.string ⟨#[117,110,116,105,108]⟩,.string ⟨#[118,97,114,105,97,110,116]⟩,.string ⟨#[119,104,101,110]⟩]) ao rfl (gP rn) (aM _) (aM _) aj
 replace hc:=ah hc;go_enter func251,ntmps251;exact tU
abbrev zNm:Obj:=.cells #[oZ,oZ] 242
def alA(w:YC)(n gg:Nat)(s3:YE)(wr:YC):Prop:=∃k:Nat,s3=iV k/\k+gg=n/\wr=w
def Zp(w:YC)(s:Yz)(gg:Nat)(s4 s5:YE)(wr:YC):Prop:=∃k:Nat,s5=iV k/\s4=iV (num (s.take k))/\k+gg=s.length/\wr=w
def OE(s:Yz)(hs:bW s)(c:Nat)(r:Yz)(he:s=c::r)(hd:s.all iD=true)(h0:c=48->r=[])(hm:num s<=1099511627776)(w:YC):Calls prog 192 #[s] w λe w'=>e=.returned (.agg #[(num s),oZ])/\Kept aK w w':=by
 refine vL ?_;intro hl hz BK nB;have Xg:num (s.take s.length)=num s:=by rw[qB]
 obtain⟨W,hW⟩:∃W,W=w.alloc zNm:=⟨_,rfl⟩
 have dZ:Kept aK w W:=eW;have ey:W.heap[w.heap.size]?=some zNm:=mO;have hor:c≠48∨¬(1 < s.length):=by
  by_cases e:c=48
  .right;rw[he,h0 e];simp
  .exact Or.inl e
 revert hd hm nB Xg hW dZ ey hor;refine TR ?_;intro hd hm nB Xg hW dZ ey hor;have g0:(0:Int) < (s.length:Int):=ab;clear he h0;go_enter func192,ntmps192;go_wp2_with fail;rw[<-hW.out];go_loopg [3] s.length (λgg s3 wr=>alA W s.length gg s3 wr)
 case atStart=>exact⟨0,rfl,by omega,rfl⟩
 case round=>
  obtain⟨k,rfl,hkg,rfl⟩:=hrel;by_cases hk:k < s.length
  .have g1:(k:Int) < (s.length:Int):=by omega
   have g2:(0:Int)<=(k:Int):=ab;obtain⟨d,LY⟩:∃d,s[k]?=some d:=⟨_,ck hk⟩
   have M6:=oR s hs k ab d LY;have lG:iD d=true:=dV.1 hd d (cm LY);replace lG:=ah lG;clear LY;go_wp2_with fail;refine(zK _ _).mono ?_;rintro e w1 ⟨rfl,rfl⟩;try rw[M6]
   rw[lG.out];go_wp2;go_roundg (gk - 1)
   case measure=>omega
   case rel=>exact⟨k+1,rfl,by omega,rfl⟩
  .have g1:¬(k:Int) < (s.length:Int):=by omega
   have hb:=nB.out;clear hkg hk;obtain⟨W,hWW⟩:∃W,W=wr:=⟨_,rfl⟩
   subst hWW;rcases hor.out with aqh|aqh
   .have cR:((c:Int)==48)=false:=by rw[gH];omega
    exact tI
   .have Pm:¬((s.length:Int) > 1):=by omega
    by_cases arD:(c:Int)=48
    .exact tI
    .exact tI
abbrev zKd:Obj:=.cells #[oZ,oZ] 192
def ajV(w:YC)(s:Yz)(gg:Nat)(s3 s4 s5:YE)(wr:YC):Prop:=∃k:Nat,s5=iV k/\s3=.bool ((s.take k).any cV)/\s4=.bool ((s.take k).any jT)/\k+gg=s.length/\wr=w
def Vh(s:Yz)(p:Ri)(k d:Nat)(hd:s[k]?=some d):(s.take (k+1)).any p=((s.take k).any p||p d):=by rw[Ad,hd];simp
def ae9(hs:bW s)(hl:s.length<=1000000)(h:shape s=some k)(h5:k≠5)(h4:k≠4)(w:YC):Calls prog 193 #[.string (bs s)] w λe w'=>e=.returned (.agg #[k,oZ])/\Kept aK w w':=by
 obtain⟨c,r,he,hp,IL,BN,-,hk⟩:=Tc h h5 h4;have abm:=aax he hp IL BN;refine Lc ?_;intro hz h5L h6L hka;have ajW:Hid (∀p:Nat->Bool,(s.take s.length).any p=s.any p):=ah (λp=>by rw[qB]);revert hs hk abm hka;refine jU ?_;intro hs hk abm hka;refine Gq ?_;intro W bz hW dZ IQ ey;clear he hp IL BN h;go_enter func193,ntmps193;go_wp2_with fail;rw[<-hW.out,<-IQ.out];refine(alz _).mono ?_;rintro e w2 ⟨v,rfl,hv,K2⟩;replace ey:=ah (aJ ey.out K2);replace dZ:=ah (dZ.trans' K2);replace hv:=ah hv;clear K2;go_wp2_with fail;refine(zL hv ae3 s hs).mono ?_;rintro e w3 ⟨rfl,rfl⟩
 cases h37:rn.contains s
 .go_wp2_with fail;refine(zL (h5L _) aau s hs).mono ?_;rintro e w4 ⟨rfl,rfl⟩;replace ey:=ah (aD (x:=cO #[.string rv,.string nZ,.string ry,.string jX,.string kf] 9) ey);replace dZ:=ah (dZ.alloc (cO #[.string rv,.string nZ,.string ry,.string jX,.string kf] 9))
  cases h5c:kw5.contains s
  .refine GH ?_;intro BK hb h20 xe;revert BK hb xe;refine jk ?_;intro BK hb xe;refine atI ?_;intro Pu bC bX cU dz fZ iI h6w;refine(zL h6w aav s hs).mono ?_;rintro e w5 ⟨rfl,rfl⟩;replace ey:=ah (aD (x:=cO #[.string BU,.string xH,.string BV,.string qA,.string sJ] 9) ey);replace dZ:=ah (dZ.alloc (cO #[.string BU,.string xH,.string BV,.string qA,.string sJ] 9));rw[BK.out];obtain⟨V,hV⟩:∃V,V=((w3.alloc (cO #[.string rv,.string nZ,.string ry,.string jX,.string kf] 9)).alloc (cO #[.string BU,.string xH,.string BV,.string qA,.string sJ] 9)):=⟨_,rfl⟩
   rw[<-hV] at ey dZ|-;clear hV h6w h37 h5c BK;go_wp2_with fail;go_loopg [3,4,5] s.length (λgg s3 s4 s5 wr=>ajV V s gg s3 s4 s5 wr)
   case atStart=>exact⟨0,rfl,rfl,rfl,by omega,rfl⟩
   case round=>
    obtain⟨j,rfl,rfl,rfl,zC,rfl⟩:=hrel;by_cases hj:j < s.length
    .have g1:(j:Int) < (s.length:Int):=by omega
     have g2:(0:Int)<=(j:Int):=ab;obtain⟨d,LY⟩:∃d,s[j]?=some d:=⟨_,ck hj⟩
     have M6:=oR s hs j ab d LY;have a1:=ah (Vh s cV j d LY);have a2:=ah (Vh s jT j d LY);replace M6:=ah M6;clear LY;obtain⟨x1,iF⟩:∃x,x=(s.take j).any cV:=⟨_,rfl⟩
     obtain⟨x2,ir⟩:∃x,x=(s.take j).any jT:=⟨_,rfl⟩
     rw[<-iF,<-ir];revert iF ir;refine ct ?_;intro iF ir;have xd:Hid (ajV wr s (gk - 1) (.bool (x1||cV d)) (.bool (x2||jT d)) (iV ((j:Int)+1)) wr):=ah ⟨j+1,rfl,by rw[a1.out,iF.out],by rw[a2.out,ir.out],by omega,rfl⟩
     cases x1
     .go_wp2_with fail;refine(QX _ _).mono ?_;rintro e w6 ⟨rfl,rfl⟩;rw[M6.out];exact C9
     .exact C9
    .have QB:j=s.length:=by omega
     have g1:¬(j:Int) < (s.length:Int):=ab;subst QB;rw[ajW.out,ajW.out]
     cases hsm:s.any cV
     .have QE:s.any jT=true:=abm.elim (λh=>by rw[hsm] at h;cases h) (λh=>h);rw[QE];have jF:k=2:=pX;subst jF;clear hsm QE;have z0:=aC ey 0;have z1:=aC ey 1;have y0:=al ey;go_wp2;refine bG (v:=.agg #[iV 2,oZ]) yi rfl ?_;exact⟨rfl,dZ.trans ((au bz 0 (iV 2)).trans' (au bz 1 (iV 0))) fW⟩
     .have QE:s.any jT=false:=by have:=hb.out;rw[hsm] at this;simpa using this
      rw[QE];have xi:k=1:=pX;subst xi;clear hsm QE;have z0:=aC ey 0;have z1:=aC ey 1;have y0:=al ey;go_wp2;refine bG (v:=.agg #[iV 1,oZ]) yi rfl ?_;exact⟨rfl,dZ.trans ((au bz 0 (iV 1)).trans' (au bz 1 (iV 0))) fW⟩
  .have WD:k=3:=by exact DJ
   exact Dp
 .have WD:k=3:=by exact DM
  exact Dp
def Vi(s:Yz)(h:s∈cJ)(w:YC):Calls prog 105 #[s] w λe w'=>e=.returned (.agg #[iV 5,oZ])/\Kept aK w w':=by have hs:=ah (yX s h);have NV:Hid (cJ.contains s=true):=ah wJ;refine Gq ?_;intro W bz hW dZ IQ ey;go_enter func105,ntmps105;go_wp2_with fail;rw[<-hW.out,<-IQ.out];refine(zM _).mono ?_;rintro e w2 ⟨v,rfl,hv,K2⟩;replace ey:=ah (aJ ey.out K2);replace dZ:=ah (dZ.trans' K2);replace hv:=ah hv;go_wp2_with fail;refine(zL hv yX s hs).mono ?_;rintro e w3 ⟨rfl,rfl⟩;rw[NV.out];have z0:=aC ey 0;have z1:=aC ey 1;have y0:=al ey;go_wp2;refine bG (v:=.agg #[iV 5,oZ]) vV rfl ?_;exact⟨rfl,dZ.trans ((au bz 0 (iV 5)).trans' (au bz 1 (iV 0))) fW⟩
def OF(s:Yz)(hs:bW s)(h:shape s=some 4)(w:YC):Calls prog 105 #[s] w λe w'=>e=.returned (.agg #[iV 4,oZ])/\Kept aK w w':=by
 obtain⟨c,r,he,BN,hd,hp,h0,hm,NV⟩:=Tb h;have hl:s.length<=13:=Gu;have IL:c≠95:=by intro e;rw[e] at BN;simp[iD] at BN
 revert BN NV;refine FT ?_;intro hz BK nB gV UA g0 g1 g2 g3 g4 g5 g6 BN NV;have Vf:=ah (λw=>OE s hs c r he hd h0 hm w);replace hs:=ah hs;obtain⟨W,hW⟩:∃W,W=w.alloc zKd:=⟨_,rfl⟩
 have dZ:Kept aK w W:=eW;obtain⟨bz,IQ⟩:∃b,b=w.heap.size:=⟨_,rfl⟩
 have ey:W.heap[bz]?=some zKd:=oA;revert hW dZ IQ ey;refine jU ?_;intro hW dZ IQ ey;clear he;go_enter func105,ntmps105;go_wp2_with fail;rw[<-hW.out,<-IQ.out];refine(zM _).mono ?_;rintro e w2 ⟨v,rfl,hv,K2⟩;replace ey:=ah (aJ ey.out K2);replace dZ:=ah (dZ.trans' K2);replace hv:=ah hv;go_wp2_with fail;refine(zL hv yX s hs).mono ?_;rintro e w3 ⟨rfl,rfl⟩;rw[NV.out];go_wp2_with fail;refine(gV _).mono ?_;rintro e w4 ⟨rfl,rfl⟩;rw[UA.out];have lL:=nB.out;go_wp2_with fail;refine(zK _ _).mono ?_;rintro e w4 ⟨rfl,rfl⟩;try rw[nB.out]
 rw[BN.out];go_wp2_with fail;refine(Vf _).mono ?_;rintro e w5 ⟨rfl,K⟩;have ht:(w5.alloc (cO #[(num s),oZ] 242)).cell? ⟨w5,1,none⟩=(some (iV 0):Option Value):=eR;replace ey:=ah (aD (x:=cO #[(num s),oZ] 242) (aJ ey K));replace dZ:=ah ((dZ.trans' K).alloc (cO #[(num s),oZ] 242));have z0:=aC ey 0;have z1:=aC ey 1;have y0:=al ey;go_wp2;refine bG (v:=.agg #[iV 4,oZ]) vV rfl ?_;exact⟨rfl,dZ.trans ((au bz 0 (iV 4)).trans' (au bz 1 (iV 0))) fW⟩
def Vj(hs:bW s)(hl:s.length<=1000000)(h:shape s=some k)(h5:k≠5)(h4:k≠4)(w:YC):Calls prog 105 #[s] w λe w'=>e=.returned (.agg #[k,oZ])/\Kept aK w w':=by
 obtain⟨c,r,he,hp,IL,BN,NV,-⟩:=Tc h h5 h4;revert BN NV;refine FT ?_;intro hz BK nB gV UA g0 g1 g2 g3 g4 g5 g6 BN NV;have ae7:=ah (λw=>ae9 hs hl h h5 h4 w);replace hs:=ah hs;obtain⟨W,hW⟩:∃W,W=w.alloc zKd:=⟨_,rfl⟩
 have dZ:Kept aK w W:=eW;obtain⟨bz,IQ⟩:∃b,b=w.heap.size:=⟨_,rfl⟩
 have ey:W.heap[bz]?=some zKd:=oA;revert hW dZ IQ ey;refine jU ?_;intro hW dZ IQ ey;clear he;go_enter func105,ntmps105;go_wp2_with fail;rw[<-hW.out,<-IQ.out];refine(zM _).mono ?_;rintro e w2 ⟨v,rfl,hv,K2⟩;replace ey:=ah (aJ ey.out K2);replace dZ:=ah (dZ.trans' K2);replace hv:=ah hv;go_wp2_with fail;refine(zL hv yX s hs).mono ?_;rintro e w3 ⟨rfl,rfl⟩;rw[NV.out];go_wp2_with fail;refine(gV _).mono ?_;rintro e w4 ⟨rfl,rfl⟩;rw[UA.out];have lL:=nB.out;go_wp2_with fail;refine(zK _ _).mono ?_;rintro e w4 ⟨rfl,rfl⟩;try rw[nB.out]
 rw[BN.out];go_wp2_with fail;refine(ae7 _).mono ?_;rintro e w5 ⟨rfl,K⟩;replace ey:=ah (aJ ey.out K);replace dZ:=ah (dZ.trans' K);have z0:=aC ey 0;have z1:=aC ey 1;have y0:=al ey;go_wp2;refine bG (v:=.agg #[k,oZ]) vV rfl ?_;exact⟨rfl,dZ.trans ((au bz 0 (iV k)).trans' (au bz 1 (iV 0))) fW⟩
def Qw(hs:bW s)(hl:s.length<=1000000)(h:shape s=some k)(w:YC):Calls prog 105 #[s] w λe w'=>e=.returned (.agg #[k,oZ])/\Kept aK w w':=by
 by_cases h5:k=5
 .subst h5;exact Vi s (ae6 h) w
 .by_cases h4:k=4
  .subst h4;exact OF s hs h w
  .exact Vj hs hl h h5 h4 w
def QY(s:Yz)(hs:bW s)(h:shape s=some 4)(w:YC):Calls prog 314 #[s] w λe w'=>e=.returned (.agg #[(num s),oZ])/\Kept aK w w':=by
 obtain⟨c,r,he,BN,hd,hp,h0,hm,NV⟩:=Tb h;have eF:=ah (λw=>OF s hs h w);have Vf:=ah (λw=>OE s hs c r he hd h0 hm w);obtain⟨M,hM⟩:∃M,M=num s:=⟨_,rfl⟩
 rw[<-hM] at Vf|-;obtain⟨W,hW⟩:∃W,W=w.alloc zNm:=⟨_,rfl⟩
 have dZ:Kept aK w W:=eW;obtain⟨bz,IQ⟩:∃b,b=w.heap.size:=⟨_,rfl⟩
 have ey:W.heap[bz]?=some zNm:=oA;revert hW dZ IQ ey;refine jU ?_;intro hW dZ IQ ey;clear he hM;go_enter func314,ntmps314;go_wp2_with fail;rw[<-hW.out,<-IQ.out];refine bD (eF _) λw2 K=>?_;have t0:(w2.alloc (cO #[iV 4,oZ] 192)).cell? ⟨w2,0,none⟩=(some (iV 4):Option Value):=eR;have t1:(w2.alloc (cO #[iV 4,oZ] 192)).cell? ⟨w2,1,none⟩=(some (iV 0):Option Value):=eR;replace ey:=ah (aD (x:=cO #[iV 4,oZ] 192) (aJ ey K));replace dZ:=ah ((dZ.trans' K).alloc (cO #[iV 4,oZ] 192));go_wp2_with fail;refine bD (Vf _) λw3 K=>?_;replace ey:=ah (aJ ey.out K);replace dZ:=ah (dZ.trans' K);have z0:=aC ey 0;have z1:=aC ey 1;have y0:=al ey;go_wp2;refine bG (v:=.agg #[iV M,oZ]) (by simp[results,results314,go_sem,z0,z1]) rfl ?_;exact⟨rfl,dZ.trans ((au bz 0 (iV M)).trans' (au bz 1 (iV 0))) fW⟩
def wQ(s:Yz)(a n:Nat):(bs s).extract a (a+n)=bs ((s.drop a).take n):=by
 apply ByteArray.ext
 rw[ByteArray.data_extract];apply Array.ext'
 rw[Array.toList_extract,kY,kY,List.extract_eq_drop_take];simp[List.map_take,List.map_drop]
def Is:∀(x s:Yz),(s.take x.length==x)=x.isPrefixOf s
 |[],s=>by simp
 |c::x,[]=>by simp
 |c::x,d::s=>by
  have ih:=Is x s;simp only[dC,W7,List.isPrefixOf_cons₂];rw[<-ih];by_cases h:c=d
  .subst h;simp
  .have h':¬d=c:=λe=>h e.symm;have b1:(d==c)=false:=by simpa using h'
   have b2:(c==d)=false:=wJ;simp only[List.cons_beq_cons,b1,b2,Ro]
def ail(w:YC)(s:Yz)(gg:Nat)(s6:YE)(wr:YC):Prop:=∃k:Nat,s6=iV k/\k+gg=22/\Kept aK w wr/\∀x∈cJ.take k,x.isPrefixOf s=false
def Up(s:Yz)(hs:bW s)(hl:s.length<=1000000)(td:Nat)(ha:td<=s.length)(w:YC):Calls prog 102 #[s,td] w λe w'=>e=.returned (.string (bs (fE (s.drop td))))/\Kept aK w w':=by
 have hz:=dp s;go_enter func102,ntmps102;go_wp2_with fail;refine(zM _).mono ?_;rintro e w1 ⟨v,rfl,hv,K1⟩;obtain⟨a,cap,rfl,-⟩:=hv.aU;have eG:(strs cJ).length=22:=rfl;rw[eG] at hv|-;revert K1 hv;refine ct ?_;intro K1 hv;go_wp2_with fail;go_loopg [6] 22 (λgg s6 wr=>ail w1 (s.drop td) gg s6 wr)
 case atStart=>exact⟨0,rfl,rfl,Kept.refl _ _,by simp⟩
 case round=>
  obtain⟨k,rfl,hkg,K,I7⟩:=hrel;by_cases hk:k < 22
  .have h1:(k:Int) < 22:=by omega
   have h2:(0:Int)<=(k:Int):=ab;obtain⟨x,hx⟩:∃x,cJ[k]?=some x:=⟨_,ck hk⟩
   obtain⟨g,off,rfl,-,cs,hR,fY⟩:=hv.out.elem (k:=k) (row:=[.str x]) pf;obtain⟨c0,Ap,rfl,v0,hr⟩:=hR.aG
   cases v0.bq;have q0:wr.cell? ⟨g,off+k,none⟩=(some (.string (bs x)):Option Value):=by have h0:=fY 0 _ rfl;have h0':w1.cell? ⟨g,off+k,none⟩=(some (.string (bs x)):Option Value):=agz;exact(K.cell (cA w1 _ h0') (λe=>e)).trans h0'
   have hxz:=dp x;have ir:=(OD x (cm hx)).2.2.2;revert K I7 hx;refine jk ?_;intro K I7 hx;by_cases hle:td+x.length<=s.length
   .have h3:(td:Int)+(x.length:Int)<=(s.length:Int):=by omega
    have h4:(0:Int)<=(td:Int):=ab;have h5:(td:Int)<=(td:Int)+(x.length:Int):=ab;have hxb:(((bs s).extract td (td+x.length)).toList==(bs x).toList)=x.isPrefixOf (s.drop td):=by rw[wQ,cH (λc hc=>hs c (A1 (Uh hc))) (yX x (cm hx.out)),Is]
    replace hxb:=ah hxb;go_wp2_with fail;go_quiet (fail)
    rw[hxb.out]
    cases hp:x.isPrefixOf (s.drop td)
    .go_wp2;go_roundg (gk - 1)
     case measure=>omega
     case rel=>exact⟨k+1,rfl,by omega,Kept.drewN K,by
      intro y hy;rw[Ad,hx.out] at hy;rcases oU.1 hy with h|h
      .exact I7 y h
      .simp at h;rw[h];exact hp⟩
    .have hf:=QV I7 hx hp;replace hf:=ah hf;go_wp2;go_ret;exact⟨by rw[hf.out];rfl,Kept.drewN (K1.trans' K)⟩
   .have hnp:x.isPrefixOf (s.drop td)=false:=by rw[<-Is];rw[gH];intro e;have:=gq List.length e;simp at this;omega
    go_wp2_with fail;have h3:¬(td:Int)+(x.length:Int)<=(s.length:Int):=ab;have h3d:decide ((td:Int)+(x.length:Int)<=(s.length:Int))=false:=wG;go_quiet (fail)
    go_wp2_with fail;go_roundg (gk - 1)
    case measure=>omega
    case rel=>exact⟨k+1,rfl,by omega,Kept.drewN K,by
     intro y hy;rw[Ad,hx.out] at hy;rcases oU.1 hy with h|h
     .exact I7 y h
     .simp at h;rw[h];exact hnp⟩
  .have Am:k=22:=by omega
   have h1:¬(k:Int) < 22:=ab;have hf:fE (s.drop td)=[]:=by
    unfold fE;have:cJ.find? (λx=>x.isPrefixOf (s.drop td))=none:=by exact Ej
    rw[this];rfl
   revert K hf;refine ct ?_;intro K hf;go_wp2;go_ret;exact⟨by rw[hf.out];rfl,K1.trans' K⟩
def opsL:Nat->List (List Nat)
 |1=>[tx "or"]
 |2=>[tx "and"]
 |3=>[tx "=",tx "/=",tx "<",tx "<=",tx ">",tx ">="]
 |4=>[tx "+",tx "-"]
 |5=>[tx "*",tx "//",tx "%"]
 |_=>[]
def OJ(h1:1<=m)(h5:m<=5):∀s∈opsL m,Bq s=some m/\bW s:=by have h:([1,2,3,4,5]:Yz).all (λm=>(opsL m).all λs=>(Bq s==some m)&&s.all λc=>decide (c < 256))=true:=af;intro s hs;have hm:m∈([1,2,3,4,5]:Yz):=aH;have:=dV.1 (dV.1 h m hm) s hs;rw[dD] at this;exact⟨by simpa using this.1,aV this.2⟩
def Vl(h1:1<=m)(h:Bq s=some m):s∈opsL m:=by
 unfold Bq at h;split at h
 .cases h;omega
 split at h
 .exact En
 split at h
 .exact En
 split at h
 .rename_i hs
  cases h;simp only[j5,dU] at hs;rcases hs with((((rfl|rfl)|rfl)|rfl)|rfl)|rfl<;>simp[opsL]
 split at h
 .rename_i hs
  cases h;simp only[j5,dU] at hs;rcases hs with rfl|rfl<;>simp[opsL]
 split at h
 .rename_i hs
  cases h;simp only[j5,dU] at hs;rcases hs with(rfl|rfl)|rfl<;>simp[opsL]
 .cases h
def Vm(w:YC):Calls prog 288 #[iV 2] w λe w'=>∃v,e=.returned v/\an w w' (.sl (strs (opsL 1))) v/\Kept aK w w':=by
 have hc:an w (w.alloc (cO #[.string ⟨#[111,114]⟩] 9)) (.sl (strs (opsL 1))) (sV w 1 1):=
  aW (E:=9) (fr:=(0,0)) (wd:=1) (css:=(opsL 1).map λs=>[.string (bs s)]) (arr:=#[.string ⟨#[111,114]⟩]) ao rfl (gP (opsL 1)) (aM _) (aM _) aj
 exact mG
def Vn(w:YC):Calls prog 288 #[iV 3] w λe w'=>∃v,e=.returned v/\an w w' (.sl (strs (opsL 2))) v/\Kept aK w w':=by
 have hc:an w (w.alloc (cO #[.string Rk] 9)) (.sl (strs (opsL 2))) (sV w 1 1):=
  aW (E:=9) (fr:=(0,0)) (wd:=1) (css:=(opsL 2).map λs=>[.string (bs s)]) (arr:=#[.string Rk]) ao rfl (gP (opsL 2)) (aM _) (aM _) aj
 exact mG
def Vo(w:YC):Calls prog 288 #[iV 4] w λe w'=>∃v,e=.returned v/\an w w' (.sl (strs (opsL 3))) v/\Kept aK w w':=by
 have hc:an w (w.alloc (cO #[.string ⟨#[61]⟩,.string ⟨#[47,61]⟩,.string ⟨#[60]⟩,.string ⟨#[60,61]⟩,.string ⟨#[62]⟩,.string ⟨#[62,61]⟩] 9)) (.sl (strs (opsL 3))) (sV w 6 6):=
  aW (E:=9) (fr:=(0,0)) (wd:=1) (css:=(opsL 3).map λs=>[.string (bs s)]) (arr:=#[.string ⟨#[61]⟩,.string ⟨#[47,61]⟩,.string ⟨#[60]⟩,.string ⟨#[60,61]⟩,.string ⟨#[62]⟩,.string ⟨#[62,61]⟩]) ao rfl (gP (opsL 3)) (aM _) (aM _) aj
 exact mG
def Vp(w:YC):Calls prog 288 #[iV 5] w λe w'=>∃v,e=.returned v/\an w w' (.sl (strs (opsL 4))) v/\Kept aK w w':=by
 have hc:an w (w.alloc (cO #[.string ⟨#[43]⟩,.string ⟨#[45]⟩] 9)) (.sl (strs (opsL 4))) (sV w 2 2):=
  aW (E:=9) (fr:=(0,0)) (wd:=1) (css:=(opsL 4).map λs=>[.string (bs s)]) (arr:=#[.string ⟨#[43]⟩,.string ⟨#[45]⟩]) ao rfl (gP (opsL 4)) (aM _) (aM _) aj
 exact mG
def Vq(w:YC):Calls prog 288 #[iV 6] w λe w'=>∃v,e=.returned v/\an w w' (.sl (strs (opsL 5))) v/\Kept aK w w':=by
 have hc:an w (w.alloc (cO #[.string ⟨#[42]⟩,.string ⟨#[47,47]⟩,.string ⟨#[37]⟩] 9)) (.sl (strs (opsL 5))) (sV w 3 3):=
  aW (E:=9) (fr:=(0,0)) (wd:=1) (css:=(opsL 5).map λs=>[.string (bs s)]) (arr:=#[.string ⟨#[42]⟩,.string ⟨#[47,47]⟩,.string ⟨#[37]⟩]) ao rfl (gP (opsL 5)) (aM _) (aM _) aj
 exact mG
def It(h1:1<=m)(h5:m<=5)(w:YC):Calls prog 288 #[iV ((m:Int)+1)] w λe w'=>∃v,e=.returned v/\an w w' (.sl (strs (opsL m))) v/\Kept aK w w':=by
 obtain rfl|rfl|rfl|rfl|rfl:m=1∨m=2∨m=3∨m=4∨m=5:=ab
 .exact Vm w
 .exact Vn w
 .exact Vo w
 .exact Vp w
 .exact Vq w
def aaA(h:aO s l=true)(hs:Bq s=some m):PM m l=some s:=by
 cases l with
 |nil=>cases h
 |cons t r=>have h2:((t.k==3||t.k==5)&&t.t==s)=true:=h;rw[dD,dU] at h2;have h3:=h2.2;subst h3;show(if(t.k==3||t.k==5)&&Bq t.t==some m then some t.t else none)=_;rw[h2.1,hs];simp
def afe(h1:1<=m)(h:∀s∈opsL m,aO s l=false):PM m l=none:=by
 cases l with
 |nil=>rfl
 |cons t r=>
  show(if(t.k==3||t.k==5)&&Bq t.t==some m then some t.t else none)=_;split
  .rename_i hc;rw[dD] at hc;have h2:=h t.t (Vl h1 (by simpa using hc.2));have h3:aO t.t (t::r)=((t.k==3||t.k==5)&&t.t==t.t):=rfl;rw[h3,hc.1] at h2;simp at h2
  .rfl
def Yg(C:Ctx)(w1:YC)(m:Nat)(l:Zi)(gg:Nat)(s6:YE)(wr:YC):Prop:=∃k:Nat,s6=iV k/\k+gg=(opsL m).length/\PS C wr l/\Kept (ch C) w1 wr/\∀x∈(opsL m).take k,aO x l=false
def Tf{C:Ctx}{w:YC}(h:PS C w l)(h5:C.x5=some (.bool false)){m:Nat}(h1:1<=m)(WK:m<=5):Calls prog 287 #[pP C,iV ((m:Int)+1)] w λe w'=>e=.returned (.string (match PM m l with|some s=>bs s|none=>⟨#[]⟩))/\PS C w' (match PM m l with|some _=>l.tail|none=>l)/\Kept (ch C) w w':=by
 have eo:=ah (eP h);have Vr:=ah (λw=>It h1 WK w);obtain⟨O,hO⟩:∃O,O=PM m l:=⟨_,rfl⟩
 rw[<-hO];revert h h5 hO;refine jk ?_;intro h h5 hO;go_enter func287,ntmps287;go_wp2_with fail;refine(Vr _).mono ?_;rintro e w1 ⟨v,rfl,hv,K1⟩;obtain⟨a,cap,rfl,-⟩:=hv.aU;have eG:(strs (opsL m)).length=(opsL m).length:=bR;rw[eG] at hv|-;have hll:(opsL m).length<=6:=by obtain rfl|rfl|rfl|rfl|rfl:m=1∨m=2∨m=3∨m=4∨m=5:=ab;all_goals simp[opsL]
 have P1:=h.kept K1 (λ_ e=>e.elim);have jr:Hid (Yg C w1 m l (opsL m).length (iV 0) w1):=ah ⟨0,rfl,by omega,P1,Kept.refl _ _,by simp⟩;revert K1 hv;refine ct ?_;intro K1 hv;go_wp2_with fail;go_loopg [6] (opsL m).length (λgg s6 wr=>Yg C w1 m l gg s6 wr)
 case atStart=>exact jr
 case round=>
  obtain⟨k,rfl,hkg,P,K,eK⟩:=hrel;by_cases hk:k < (opsL m).length
  .have g1:(k:Int) < ((opsL m).length:Int):=by omega
   have g2:(0:Int)<=(k:Int):=ab;obtain⟨x,hx⟩:∃x,(opsL m)[k]?=some x:=⟨_,ck hk⟩
   obtain⟨g,off,rfl,hS,cs,hR,fY⟩:=hv.out.elem (k:=k) (row:=[.str x]) pf;obtain⟨c0,Ap,rfl,v0,hr⟩:=hR.aG
   cases v0.bq;have hxl:=OJ h1 WK x (cm hx);have h0:=fY 0 _ rfl;have h0':w1.cell? ⟨g,off+k,none⟩=(some (.string (bs x)):Option Value):=agz;have hgp:w.heap.size<=g:=hS;have q0:wr.cell? ⟨g,off+k,none⟩=(some (.string (bs x)):Option Value):=(K.cell (cA w1 _ h0') AN).trans h0';have ht:=ah (yY P h5.out x hxl.2);revert K eK hx;refine jk ?_;intro K eK hx
   cases hb:aO x l
   .rw[hb] at ht;rw[aE ai] at ht;go_wp2_with fail;refine ht.mono ?_;rintro e w2 ⟨rfl,P2,K2⟩;have oV:Hid (Yg C w1 m l (gk - 1) (iV ((k:Int)+1)) w2):=ah ⟨k+1,rfl,by omega,P2,K.out.trans' K2,by
     intro y hy;rw[Ad,hx.out] at hy;rcases oU.1 hy with h|h
     .exact eK y h
     .simp at h;rw[h];exact hb⟩
    exact Km
   .rw[hb] at ht;rw[aI rfl] at ht;have hOx:O=some x:=by rw[hO.out];exact aaA hb hxl.1
    subst hOx;go_wp2_with fail;refine ht.mono ?_;rintro e w2 ⟨rfl,P2,K2⟩;have q1:w2.cell? ⟨g,off+k,none⟩=(some (.string (bs x)):Option Value):=(K2.cell (cA wr _ q0) AN).trans q0;revert P2 K2;refine ct ?_;intro P2 K2;go_wp2_with fail;go_ret;exact⟨rfl,P2,((aK.to K1).trans' K).trans' K2⟩
  .have Am:k=(opsL m).length:=by omega
   have g1:¬(k:Int) < ((opsL m).length:Int):=ab;have hON:O=none:=by rw[hO.out];exact afe h1 (λs hs=>eK s (by rw[Am,qB];exact hs))
   subst hON;revert P K;refine ct ?_;intro P K;go_wp2_with fail;go_ret;exact⟨rfl,P,(aK.to K1).trans' K⟩
end Go.Proofs.Gm
