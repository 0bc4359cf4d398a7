/- sortesref08.Made and what follows. -/
import Derived.Test.YtkhjolbbpdaplaaGreatDoorHAZ
namespace Go.Proofs.YtkhjolbbpdaplaaGreatDoor
set_option maxHeartbeats 8000000
open Go.RowKit Go.Proofs.Tryz
set_option maxRecDepth 100000
def pdF:List UInt8:=[102,105,114,115,116]
def pdG (q:Nat):Nat->Nat->Nat
 | 0,_=>0
 | i+1,j=>(pdG q i j+(pds (sdL pdF i) q).getD j 0) % Qn
theorem ppW (q):∀ i j,pdG q i j<Qn
 | 0,_=>pg7
 | _+1,_=>yP _ pg7
def pbK (q i t:Nat):List Nat:=(List.range q).map fun j=>if j<t then pdG q (i+1) j else pdG q i j
def pdq (q i:Nat):List Nat:=(List.range q).map (pdG q i)
theorem pjI (q i):pbK q i 0=pdq q i:=by simp [pbK,pdq]
theorem plb (q i):pbK q i q=pdq q (i+1):=by
 unfold pbK pdq;apply uJ;intro j a;rw [xH (uv.1 a)]
theorem phE (q i):(pdq q i).length=q:=by simp [pdq]
theorem plc (q):pdq q 0=List.replicate q 0:=by
 apply List.ext_getElem
 · simp [pdq]
 · intro i h1 a;simp [pdq,pdG]
theorem pld {q i t} (a:t<q):(pbK q i t)[t]? =some (pdG q i t):=by simp [pbK,a]
theorem ple {q i t} (c:t<q):(pbK q i t).set t (pdG q (i+1) t)=pbK q i (t+1):=by
 apply List.ext_getElem?;intro j;rw [List.getElem?_set];by_cases a:j<q
 · by_cases e:t=j
   · subst e;simp [pbK,c]
   · have h1:(j<t) ↔ (j<t+1):=by omega
     simp [pbK,e,a,h1]
 · have e:t≠j:=by omega
   simp [pbK,e,a]
def grZ:Array Value:=zZ7
def grV (L S C K P:Value):Array Value:=#[L,S,C,K,P]
theorem ppX (L S C K P):(prog.info? 34).map (·.size)=some (grV L S C K P).size:=by
 show _=some 5;kernel_rfl
structure GrSt (w1 wr:World) (g2 g5:Nat) (L S C:Value) (k:Nat) (cs:List Nat):Prop where
 row:wr.heap[g5]? =some (.cells (grV L S C (.slice none 0 0) (.slice none 0 0)) 34 (0,0))
 res:wr.heap[g2]? =some (.cells grZ 34 (0,0))
 co:wr.ownsRow 0 3 1 C k (pah cs)
 up:Upd [] [] w1 wr
 base:g2<g5/\w1.heap.size<=g5
 off:∀ x,x∈foot C->g5<x
section
variable {w1 wr w' : World} {g2 g5 k : Nat} {L S C C' : Value} {cs cs' : List Nat}
theorem GrSt.lt (h:GrSt w1 wr g2 g5 L S C k cs):g5<wr.heap.size:=paf h.row
theorem GrSt.quiet (h:GrSt w1 wr g2 g5 L S C k cs) (u:Uq wr w'):GrSt w1 w' g2 g5 L S C k cs :=
 ⟨paa h.row u,paa h.res u,pdE h.co u,h.up.trans u,h.base,h.off⟩
theorem GrSt.grown (h:GrSt w1 wr g2 g5 L S C k cs) (u:Upd (foot C) (foot C') wr w'):w'.heap[g5]? =some (.cells (grV L S C (.slice none 0 0) (.slice none 0 0)) 34 (0,0)) :=
 (u.block g5 h.lt (fun q=>zc _ (h.off g5 q))).trans h.row
theorem GrSt.add (h:GrSt w1 wr g2 g5 L S C k cs) (u:Upd (foot C) (foot C') wr w') (f:w'.ownsRow 0 3 1 C' (k+1) (pah cs')):GrSt w1 (w'.setCell ⟨g5,2,none⟩ C') g2 g5 L S C' (k+1) cs':=by
 have g:=h.lt;have d:∀ x,x∈foot C'->g5<x:=fun x a=>by
  rcases u.new x a with e | e
  · exact h.off x e
  · omega
 have c:∀ x,x≠g5->(w'.setCell ⟨g5,2,none⟩ C').heap[x]? =w'.heap[x]?:=fun x a=>xE _ _ _ _ a;have j:=h.base;refine ⟨xg w' g5 2 _ _ C' (h.grown u),?_,?_,?_,h.base,d⟩
 · rw [c g2 (by omega),u.block g2 (by omega) (fun q=>by have:=h.off g2 q;omega)];exact h.res
 · exact paj f (fun x a=>c x (by have:=d x a;omega))
 · exact (h.up.past2 u (fun x a=>by have:=h.off x a;omega)).setNew (p:=⟨g5,2,none⟩) (by show w1.heap.size<=g5;omega) _
end
structure GqSt (w1 wr:World) (g2 g5:Nat) (L S:Value) (cb q cap:Nat) (cs:List Nat):Prop where
 row:wr.heap[g5]? =some (.cells (grV L S (.slice (some ⟨cb,0,none⟩) q cap) (.slice none 0 0) (.slice none 0 0)) 34 (0,0))
 res:wr.heap[g2]? =some (.cells grZ 34 (0,0))
 co:∃ cur,wr.heap[cb]? =some (.cells cur 3 (0,0))/\cur.toList.take q=pah cs/\cur.size=cap
 len:cs.length=q
 fit:q<=cap/\cap<=maxLen
 up:Upd [] [] w1 wr
 base:g2<g5/\w1.heap.size<=g5/\g5<cb
theorem GrSt.done {c wr e d q L S C cs} (h:GrSt c wr e d L S C q cs) (j:cs.length=q) (hq:0<q):∃ cb a,C=.slice (some ⟨cb,0,none⟩) q a/\GqSt c wr e d L S cb q a cs:=by
 obtain ⟨g,a,f,rfl,o,h1,m,p,k⟩:=pca h.co hq;have n:=h.off g (by simp [foot,Value.ownBlock]);exact ⟨g,a,rfl,h.row,h.res,⟨f,o,by simpa using k,by omega⟩,j,⟨h1,m⟩,h.up,h.base.1,h.base.2,n⟩
section
variable {w1 wr w' : World} {g2 g5 cb q cap : Nat} {L S : Value} {cs : List Nat}
theorem GqSt.quiet (h:GqSt w1 wr g2 g5 L S cb q cap cs) (u:Uq wr w'):GqSt w1 w' g2 g5 L S cb q cap cs:=by
 obtain ⟨a,e,d,c⟩:=h.co;exact ⟨paa h.row u,paa h.res u,⟨a,paa e u,d,c⟩,h.len,h.fit,h.up.trans u,h.base⟩
theorem GqSt.cell (h:GqSt w1 wr g2 g5 L S cb q cap cs) {j x:Nat} (a:cs[j]? =some x):wr.cell? ⟨cb,j,none⟩=some (.int .i64 (x:Int))/\wr.frozen? ⟨cb,j,none⟩=false:=by
 obtain ⟨f,c,d,_⟩:=h.co;have k:=(xe.1 a).1;have g:=h.len;refine ⟨?_,xp _ cb j _ _ c⟩;rw [xa wr cb j _ _ _ c];have e:(pah cs)[j]? =some (digV x):=by simp [pah,a]
 rw [<-d,xR (by omega)] at e;simpa [digV] using e
theorem GqSt.set (h:GqSt w1 wr g2 g5 L S cb q cap cs) {j x:Nat} (_hj:j<q):GqSt w1 (wr.setCell ⟨cb,j,none⟩ (.int .i64 (x:Int))) g2 g5 L S cb q cap (cs.set j x):=by
 obtain ⟨c,f,e,d⟩:=h.co;have k:=h.base;have a:∀ t,t≠cb->(wr.setCell ⟨cb,j,none⟩ (.int .i64 (x:Int))).heap[t]? =wr.heap[t]?:=fun t g=>xE _ _ _ _ g;refine ⟨(a g5 (by omega)).trans h.row,(a g2 (by omega)).trans h.res,⟨c.setIfInBounds j (.int .i64 (x:Int)),xg wr cb j _ _ _ f,?_,by simpa using d⟩,by simp [h.len],h.fit,h.up.setNew (p:=⟨cb,j,none⟩) (by show w1.heap.size<=cb;omega) _,h.base⟩;rw [zI,List.take_set,e];simp [pah,digV]
end
theorem psZ (l n):(wsN l n).length=n:=by simp [wsN]
theorem pik {ws} (g:WsOk ws) (a k):∀ d∈dsN ws a k,phD d ws.sum/\d.coms.length=needN ws.sum:=by
 intro d f;simp only [dsN,zh] at f;obtain ⟨i,_,rfl⟩:=f;have h1:=g.sum;have e:=pdC h1.1;have c:(dlAt ws a i).coms.length=needN ws.sum:=by rw [dlAt,pnl,pcZ]
 have h:(dlAt ws a i).boxes.length=ws.sum:=by rw [dlAt,pk1,pgB]
 exact ⟨⟨ppF,pk2,by rw [c];exact e.1,by rw [c];exact e.2,h,ppE⟩,c⟩
structure MadeRd (l:List Int) (W:World) (L S C K P:Value):Prop where
 crew:pbN W L (wsN l (manyN l))
 secs:Sl W S (pce (manyN l))
 coefs:Sl W C (pdq (needN (wsN l (manyN l)).sum) (manyN l))
 coms:Sl W K (mixL (dsN (wsN l (manyN l)) pdF (manyN l)) (needN (wsN l (manyN l)).sum))
 pts:pel W P (pdg (wsN l (manyN l)))
theorem MadeRd.upd {l w w' L S C K P} (h:MadeRd l w L S C K P) (u:Uq w w'):MadeRd l w' L S C K P :=
 ⟨h.crew.upd u,h.secs.upd u,h.coefs.upd u,h.coms.upd u,h.pts.upd u⟩
def ptU (l:List Int) (w:World) (e:Ending) (w':World):Prop:=∃ L S C K P:Value,Hid (∀ W,paC w w' W->MadeRd l W L S C K P)/\e=.returned (.agg (grV L S C K P))/\Upd [] [] w w'
theorem ppY (l v w) (hv:RdO w v l) (hi:∀ x∈l,pab x) (hl:l.length<=9223372036854775807) :
 Calls prog 18 #[v] w (ptU l w):=by
 obtain ⟨gR,bc⟩:=ae (w.heap.size);obtain ⟨w0,au⟩:=ae (w.alloc (.cells grZ 34));have s0:=ah (aW bc au);have u0:=ah (aU au);have HG:Hid (w.heap.size<=gR):=xJ bc;have cJ:w.alloc (.cells zZ7 34)=w0:=au;have bv:=ah (ppP l v w0 (hv.upd u0.out) hi hl);obtain ⟨n,hn⟩:=az (manyN l);obtain ⟨ws,ax⟩:=az (wsN l n);have U:Hid (WsOk ws):=by rw [ax,hn];exact pjB l
 have J:Hid (ws.length=n):=by show _=_;rw [ax,psZ]
 have E:=ah hn;have aP:=ah ax;have cE:1<=n/\n<=4:=by have h1:=U.out.1;have o:=U.out.2.1;have h3:=J.out;omega
 obtain ⟨T,hT⟩:=az (ws.sum);have ba:1<=T/\T<=12:=by rw [hT];exact U.out.sum
 have HT:=ah hT;obtain ⟨q,hq⟩:=az (needN T);have cG:1<=q/\q<=T:=by rw [hq];exact pdC ba.1
 have HQ:=ah hq;clear hv hi hl hn ax au hT hq;go_in;go_wp2_with fail;refine bv.out.mono ?_;rintro e m ⟨L,S,HL,HS,cf,br,rfl,ar⟩;obtain ⟨M,F,H,aV,bg,N⟩:=pe5 (pek l (manyN l)) HL.out;have aq:Hid (pbN m L ws):=by
  rw [<-E.out] at H aV N;refine ⟨M,F,by rw [H,J.out],by rw [J.out];exact aV,xB bg (by unfold maxLen;omega),?_⟩;rw [aP.out,<-pgA];exact N
 have cF:Hid (Sl m S (pce n)):=by
  rw [E.out];exact Sl.of_digs (pe6 _) HS.out
 obtain ⟨sa,sc,aj,_,_⟩:=pan HS.out;have bj:=HL;have bf:=HS;have a9:=br;have bb:Hid (S=.slice sa n sc):=by rw [E.out];exact aj
 have bz:=ah ar.out.size;rw [<-E.out] at H aj;have U1:=ah (u0.out.trans ar.out);have S1:=ah (paa s0.out ar.out);obtain ⟨GV,ab⟩:=az (grV L S (.slice none 0 0) (.slice none 0 0) (.slice none 0 0));have HB:Hid (prog.built 34 [(0,L),(1,S)]=some GV):=by show _=_;rw [ab,H,aj];kernel_rfl
 have HI:Fi 34 GV:=by rw [ab];exact ppX _ _ _ _ _
 have HZ:Hid (grZ.size=GV.size):=by show _=_;rw [ab];rfl
 have HO:Fo GV:=by show _=_;rw [ab,H,aj];simp [grV,Value.oneCell']
 obtain ⟨w2,Z2,W2,R2,aE⟩:=paz m 34 grZ GV;obtain ⟨a,al⟩:=ae (m.heap.size);rw [al] at Z2 W2 R2;have cN:=ah al;have cp:=ah aE;have a2:Hid (GrSt m w2 gR a L S (.slice none 0 0) 0 []) :=
  ⟨by rw [<-ab];exact R2.out,paa S1.out aE,x9 _ _ _ _,aE,⟨by rw [<-al];exact paf S1.out,xJ al⟩,(fun x h=>by cases h)⟩
 have b6:Hid (L=.slice M n F):=H;have bn:(m.alloc (.cells grZ 34)).setRow a GV=w2:=W2.out;clear H aV bg N aj ab aE R2 W2 HL HS cf br ar bv;go_wp2_with (first | (refine bB HB ?_) | (refine bS Z2 HI HZ HO bn ?_))
 clear Z2 HB HI HZ HO bn al;refine (pdX L ws w2 U.out (aq.out.upd cp.out)).mono ?_;rintro e w3 ⟨rfl,hq⟩;rw [<-HT.out];have bT:=ah (a2.out.quiet hq);clear hq a2;go_wp2_with fail;refine (peB T w3 ba.1 (by omega)).mono ?_;rintro e w' ⟨rfl,rfl⟩;rw [<-HQ.out];go_wp2;go_loopw [7] (fun i wr=>∃ (k:Nat) (C:Value),i=.int .i64 (k:Int)/\k<=q/\Hid (GrSt m wr gR a L S C k (List.replicate k 0))) (fun i _=>q - (intOf i).toNat)
 case atStart=>exact ⟨0,_,rfl,xu _,bT.out⟩
 case round =>
  obtain ⟨k,C,rfl,hk,R⟩:=hrel;by_cases cC:k<q
  · obtain ⟨C',w',a5,ao,aK⟩:=paZ wr C (List.replicate k 0) k 0 zx R.out.co (by omega);rw [show List.replicate k 0 ++ [0]=List.replicate (k+1) (0:Nat) from List.replicate_succ'.symm] at ao;obtain ⟨aT,aJ,rfl,_,_⟩:=pan ao;have a1:(Builtin.append_ #[22,22] 22 #[C,.slice (some ⟨wr.heap.size,0,none⟩) 1 1]).run prog (wr.alloc (.cells #[.int .i64 0] 3))=.ok (.slice aT (k+1) aJ) w':=a5;have cB:=ah a1;have aZ:=R.out.grown aK;have k0:w'.cell? ⟨a,2,none⟩=some C:=xa _ a 2 _ _ _ aZ;have f0:w'.frozen? ⟨a,2,none⟩=false:=xp _ a 2 _ _ aZ;have aQ:=ah (R.out.add aK ao);have c0:wr.cell? ⟨a,2,none⟩=some C:=xa _ a 2 _ _ _ R.out.row;have x1:(k:Int)<(q:Int):=by omega
    clear a5 a1 ao aK aZ R;go_wp2_with (refine wpList_append_run _ rfl _ _ _ _ rfl _ _ (.slice aT (k+1) aJ) w' rfl rfl cB.out ?_)
    exact ⟨⟨k+1,_,by go_num,by omega,aQ.out⟩,(by first | (simp [intOf];done) | (simp [intOf];omega))⟩
  · obtain rfl:q=k:=by omega
    obtain ⟨cb,O,rfl,aM⟩:=R.out.done zx (by omega);rw [<-plc] at aM;have ai:=ah aM;obtain ⟨w4,bi⟩:=az (wr);rw [<-bi] at ai ⊢;have d0:w4.cell? ⟨a,0,none⟩=some L:=xa _ a 0 _ _ _ ai.out.row;have x1:¬ (q:Int)<(q:Int):=by omega
    clear aM R bi;go_wp2_with fail;refine (pij L ws ⟨#[102,105,114,115,116]⟩ w4 U.out (aq.out.upd ai.out.up) (by decide)).mono ?_;rintro e w5 ⟨dv,bd,rfl,hq⟩;have b3:=ah (ai.out.quiet hq);have ci:Hid (cb<w4.heap.size):=by obtain ⟨ay,Y,_⟩:=ai.out.co;exact paf Y
    have bm:bs ⟨#[102,105,114,115,116]⟩=pdF:=rfl;rw [bm,J.out] at bd;have cD:=ah hq.size;have H:=b6.out;subst H;clear hq bm d0;go_wp2;go_loopw [9,10,11] (fun i _ _ wr=>∃ k:Nat,i=.int .i64 (k:Int)/\k<=n/\Hid (GqSt m wr gR a (.slice M n F) S cb q O (pdq q k))/\Hid (Upd [cb] [cb] w5 wr)) (fun i _ _ _=>n - (intOf i).toNat)
    case atStart=>exact ⟨0,rfl,xu _,b3.out,Upd.refl _ _⟩
    case round =>
     obtain ⟨i,rfl,hi,D,aw⟩:=hrel;by_cases b7:i<n
     · obtain ⟨z,hz⟩:∃ z,ws[i]? =some z:=⟨_,xd (by rw [J.out];exact b7)⟩
       obtain ⟨aT,aJ,ev,_,_,N⟩:=aq.out.upd D.out.up;rw [J.out] at ev;obtain ⟨g,eg,hg,c0,c1,c2⟩:=N i _ (paW hz);injection ev with e1 e2 e3;subst e1;subst eg;dsimp only [memC] at c0 c1 c2;obtain ⟨I,hI⟩:=az (i+1);rw [<-hI] at c0;have HI:=ah hI;have cH:I<=4:=by omega
       have b2:(Lib.itoa (I:Int)).length<=20:=itoa_len (I:Int) (by unfold pab;omega);have i0:(0:Int)<=(i:Int):=by omega
       have i1:(i:Int)<(n:Int):=by omega
       have h6:(ByteArray.mk #[102,105,114,115,116,32]).size=6:=rfl;clear hz c1 c2 hI e2 e3 N hg;go_wp2_with fail;refine (pct I wr (by omega)).mono ?_;rintro e w6 ⟨y,HY,hy,rfl,hq⟩;have aI:=ah (D.out.quiet hq);have a8:=ah (aw.out.trans (hq.widen (K:=[cb]) (by simp)));clear hq D aw c0;obtain ⟨sd,aG⟩:∃ sd,sd=⟨#[102,105,114,115,116,32]⟩ ++ y:=⟨_,rfl⟩
       have b0:⟨#[102,105,114,115,116,32]⟩ ++ y=sd:=aG.symm;have bD:sd.size<=1000000:=by rw [aG];simp [ByteArray.size_append];omega
       have cc:Hid (bs sd=sdL pdF i):=by
        show _=_;rw [aG,pae,HY.out];unfold sdL;rw [HI.out];rfl
       clear aG;go_wp2_with fail;refine (pjE sd q w6 bD (by omega)).mono ?_;rintro e w7 ⟨pv,aD,rfl,aS⟩;rw [cc.out] at aD;have aO:Hid (Uq w6 w7):=aS.out.mono (fun _ h=>h) (fun _ h=>absurd h (by simp));have bZ:=ah (aI.out.quiet aO.out);have bK:=ah (a8.out.trans (aO.out.widen (K:=[cb]) (by simp)));have bJ:Hid (cb<w6.heap.size):=by obtain ⟨ay,Y,_⟩:=aI.out.co;exact paf Y
       have bp:Hid (∀ x,x∈foot pv->x≠cb):=fun x f e=>by
        rcases aS.out.new x f with h | h
        · cases h
        · have:=bJ.out;omega
       obtain ⟨pa,pc,ch,cI,_⟩:=pan aD.out;subst ch;clear b0 aS aO aI a8 HY hy b2;go_wp2;go_loopw [11] (fun j bu=>∃ t:Nat,j=.int .i64 (t:Int)/\t<=q/\Hid (GqSt m bu gR a (.slice (some ⟨g,0,none⟩) n F) S cb q O (pbK q i t))/\Hid (Upd [cb] [cb] w7 bu)) (fun j _=>q - (intOf j).toNat)
       case atStart=>exact ⟨0,rfl,xu _,(by show GqSt _ _ _ _ _ _ _ _ _ _;rw [pjI];exact bZ.out),Upd.refl _ _⟩
       case round =>
        obtain ⟨t,rfl,ht,ad,aF⟩:=hrel;by_cases ap:t<q
        · have a3:=paj aD.out (fun x f=>aF.out.block x (pag aD.out x f) (by have:=bp.out x f;simpa using this));obtain ⟨Q,av⟩:∃ Q,(pds (sdL pdF i) q)[t]? =some Q:=⟨_,xd (by rw [pcZ];exact ap)⟩
          obtain ⟨pb,rfl,aH⟩:=(Sl.of_digs (pcZ _ _) a3).get av;have cm:pb≠cb:=bp.out pb (by simp [foot,Value.ownBlock]);have a4:Q<Qn:=peA Q (xt av);obtain ⟨ct,aB⟩:=az (pdG q i t);have a7:ct<Qn:=by rw [aB];exact ppW _ _ _
          have bk:=ad.out.cell (pld (q:=q) (i:=i) ap);rw [<-aB] at bk;obtain ⟨c7,f7⟩:=bk;have cj:Hid (pdG q (i+1) t=(ct+Q) % Qn):=by
           show _=_;rw [aB,pdG,xx,av];rfl
          have cw:=ah aH;have bh:pb<wr.heap.size:=x6 _ _ aH;have HK:Hid (∀ W,Uq wr W->W.cell? ⟨a,2,none⟩=some (.slice (some ⟨cb,0,none⟩) q O)/\W.cell? ⟨pb,t,none⟩=some (.int .i64 (Q:Int))):=fun W u =>
           ⟨xa _ a 2 _ _ _ (paa ad.out.row u),(u.cell (p:=⟨pb,t,none⟩) bh (by simp)).trans cw.out⟩
          have aR:Uq wr wr.drew:=uR.drew;have t0:(0:Int)<=(t:Int):=by omega
          have t1:(t:Int)<(q:Int):=by omega
          have bW:ct<=9223372036854775807:=by unfold Qn at a7;omega
          have bO:Q<=9223372036854775807:=by unfold Qn at a4;omega
          clear a3 av aB aH a7 a4 bh;go_upto_region 16 with (fail)
          refine bH HK aR fun af=>?_;refine tkS [0,1,2,3,4,5,6,8,9,10,11] af ?_;refine tk1 7 fun K P=>?_;go_simp;refine tkK P (HK.out _ aR) fun af=>?_;clear P K;refine tk1 12 fun K P=>?_;go_simp;refine (pkY ct Q _ bW bO).mono ?_;rintro e cL ⟨r,HR,hr,rfl,rfl⟩;have cv:Hid ((pbK q i t).set t r=pbK q i (t+1)):=(by show _=_;rw [<-ple ap,cj.out,HR.out]);have a0:=(ad.out.set (x:=r) ap).quiet ((Upd.refl [] _).drew);rw [cv.out] at a0;have cs:=ah a0;have cz:=ah ((aF.out.setCell (p:=⟨cb,t,none⟩) (by simp) (.int .i64 (r:Int))).drew);clear a0;go_wp2_with fail;refine tkK P (HK.out _ aR) fun af=>?_;clear P K;refine tkY 13 af ?_;refine tk1 14 fun K P=>?_;go_simp;refine tkK P (⟨(ym wr _ _ _ (fun e=>absurd (zO e).1 (by have:=ad.out.base;omega))).trans (HK.out wr uR).1,(ym wr _ _ _ (fun e=>cm (zO e).1.symm)).trans (HK.out wr uR).2⟩) fun af=>?_;clear P K;refine tkD ?_;go_wp2_with fail;exact ⟨⟨t+1,by go_num,by omega,cs.out,cz.out⟩,(by first | (simp [intOf];done) | (simp [intOf];omega))⟩
        · obtain rfl:t=q:=by omega
          have aY:=ad.out;rw [plb] at aY;have aQ:=ah aY;have ce:=ah (bK.out.trans aF.out);have x2:¬ (t:Int)<(t:Int):=by omega
          clear aY ad aF;go_wp2_with fail;exact ⟨⟨i+1,by go_num,by omega,aQ.out,ce.out⟩,(by first | (simp [intOf];done) | (simp [intOf];omega))⟩
     · obtain rfl:n=i:=by omega
       have bq:Hid (DsRd wr dv (dsN ws pdF n)):=bd.out wr (fun x h1 o=>aw.out.block x o (by have:=ci.out;simp;omega));have d0:wr.cell? ⟨a,0,none⟩=some (.slice M n F):=xa _ a 0 _ _ _ D.out.row;have x2:¬ (n:Int)<(n:Int):=by omega
       go_wp2_with fail;refine (pnt (.slice M n F) dv ws (dsN ws pdF n) wr U.out (aq.out.upd D.out.up) bq.out (pik U.out pdF n) (by rw [pe7,J.out])).mono ?_;rintro e B ⟨c,p,bo,bl,ak,rfl,hq⟩;have G:=ah (D.out.quiet hq);have cA:Hid (wr.heap.size<=B.heap.size/\a<wr.heap.size/\m.heap.size<=wr.heap.size):=⟨hq.size,paf D.out.row,D.out.up.size⟩
       have aA:=ah D.out.base;have bt:Hid (gR<w0.heap.size/\w0.heap.size<=m.heap.size):=⟨paf s0.out,by have h1:=bz.out;exact h1⟩
       obtain ⟨KV,ac⟩:∃ KV:Array Value,KV=#[c,p]:=⟨_,rfl⟩
       rw [<-ac];have b9:Fi 30 KV:=by rw [ac];exact ppV c p
       have cg:Fo KV:=by
        show _=_;rw [ac,yg];intro x f;have aN:x=c\/x=p:=by simpa using f
        rcases aN with e | e <;> rw [e]
        · exact ak.out.1
        · exact ak.out.2
       have TH:Hid (B.there a 3 KV.size):=pay G.out.row (by rw [ac];exact (by decide:3+2<=5));obtain ⟨w9,aC⟩:=ae (B.setCells a 3 KV.toList);obtain ⟨X,aa⟩:=az (grV (.slice M n F) S (.slice (some ⟨cb,0,none⟩) q O) c p);have R9:Fr w9 a X 34:=by
        show _=_;rw [<-aC,ac,aa];exact xg _ a 4 _ _ p (xg B a 3 _ _ c G.out.row)
       have u9:Upd [a] [a] B w9:=by rw [<-aC];exact Upd.setCellsIn (by simp) _ _ _ uR
       have bI:gR≠a:=by have:=aA.out;omega
       have S9:Fr w9 gR grZ 34:=(u9.block gR (paf G.out.res) (by simpa using bI)).trans G.out.res;have aL:Fi 34 X:=by rw [aa];exact ppX _ _ _ _ _
       have bC:Hid (grZ.size=X.size):=by show _=_;rw [aa];rfl
       have cK:=bb;have bP:Fo X:=by
        show _=_;rw [aa,bb.out,yg];intro x f;have aN:x=.slice M n F\/x=.slice sa n sc\/x=.slice (some ⟨cb,0,none⟩) q O\/x=c\/x=p:=by simpa [grV] using f
        rcases aN with e | e | e | e | e <;> rw [e]
        · rfl
        · rfl
        · rfl
        · exact ak.out.1
        · exact ak.out.2
       obtain ⟨A,Z⟩:=ae (w9.setRow gR X);have cx:=ah (show A.heap[gR]? =some (.cells X 34 (0,0)) by rw [<-Z];exact xz _ _ _ _ _ _ S9.out);have an:∀ x,x<B.heap.size->x≠gR->x≠a->A.heap[x]? =B.heap[x]?:=fun x h1 o h3=>by
        rw [<-Z];exact (yD _ _ _ _ o).trans (u9.block x h1 (by simpa using h3))
       have ag:=G.out.up;have a6:∀ x,w0.heap.size<=x->x<m.heap.size->A.heap[x]? =m.heap[x]?:=fun x h1 o=>by
        have h3:=bt.out;have h4:=aA.out;have h5:=ag.size;exact (an x (by omega) (by omega) (by omega)).trans (ag.block x o (by simp))
       have bw:B.heap.size<=A.heap.size:=by rw [<-Z];have:=u9.size;simpa using this
       have bU:=u0.out.size;have am:Hid (∀ W,paC w A W->(∀ x,w0.heap.size<=x->x<m.heap.size->W.heap[x]? =m.heap[x]?)/\paC wr B W/\W.heap[cb]? =B.heap[cb]?):=by
        intro W d;have h3:=bt.out;have h4:=aA.out;have h5:=ag.size;have h6:=cA.out;have h7:=u0.out.size;have bx:cb<B.heap.size:=by obtain ⟨ay,Y,_⟩:=G.out.co;exact paf Y
        exact ⟨fun x h1 o=>(d x (by omega) (by omega)).trans (a6 x h1 o),fun x h1 o=>(d x (by omega) (by omega)).trans (an x o (by omega) (by omega)),(d cb (by omega) (by omega)).trans (an cb bx (by omega) (by omega))⟩
       have cq:Hid (∀ W,paC w A W->pbN W (.slice M n F) ws):=fun W d=>by
        have h:=paj (w':=W) bj.out (fun x f=>(am.out W d).1 x (a9.out x (.inl f)) (pag bj.out x f));obtain ⟨ck,b4,e,h1,o,N⟩:=pe5 (pek l (manyN l)) h;rw [<-E.out] at e h1 N;refine ⟨ck,b4,by rw [e,J.out],by rw [J.out];exact h1,xB o (by unfold maxLen;omega),?_⟩;rw [aP.out,<-pgA];exact N
       have cr:Hid (∀ W,paC w A W->Sl W S (pce n)):=fun W d=>by
        rw [E.out];exact Sl.of_digs (pe6 _) (paj (w':=W) bf.out (fun x f=>(am.out W d).1 x (a9.out x (.inr f)) (pag bf.out x f)))
       have ca:Hid (∀ W,paC w A W->Sl W c (mixL (dsN ws pdF n) (needN ws.sum))):=fun W d=>bo.out W (am.out W d).2.1;have cy:Hid (∀ W,paC w A W->pel W p (pdg ws)):=fun W d=>bl.out W (am.out W d).2.1;have cu:Hid (∀ W,paC w A W->Sl W (.slice (some ⟨cb,0,none⟩) q O) (pdq q n)):=fun W d=>by
        obtain ⟨ay,Y,b5,cM⟩:=G.out.co;have h5:=(am.out W d).2.2.trans Y;refine Sl.of_digs (phE q n) ⟨by simp [pah,phE],.inr ⟨cb,O,ay,rfl,xu _,h5,G.out.fit.1,G.out.fit.2,?_,?_⟩⟩
        · omega
        · simpa using b5
       have cn:Hid (Uq w A):=by
        rw [<-Z];have h4:=aA.out;exact ((U1.out.trans ag).past2 u9 (fun x f=>by have:=U1.out.size;simp at f;omega)).setRowNew HG.out X
       have cd:=ah aa;have cl:=ah aC;have b1:=ah Z;clear hq ac aa aC Z an ag a6 bw bU u9 bo bl ak bq d0 D aw;go_wp2_with (first | (refine bM TH b9 cg cl ?_) | (refine bL R9 underlying34 aL ?_) | (refine bS S9 aL bC bP b1 ?_))
       refine bE cx underlying34 aL ?_;have e1:wsN l (manyN l)=ws:=by rw [aP.out,E.out]
       refine ⟨.slice M n F,S,.slice (some ⟨cb,0,none⟩) q O,c,p,fun W d=>⟨?_,?_,?_,?_,?_⟩,by rw [cd.out],cn.out⟩
       · rw [e1];exact cq.out W d
       · rw [<-E.out];exact cr.out W d
       · rw [e1,<-HT.out,<-HQ.out,<-E.out];exact cu.out W d
       · rw [e1,<-E.out];exact ca.out W d
       · rw [e1];exact cy.out W d
def csV (L K P KM S C KS:Value):Array Value:=#[L,K,P,KM,.int .i64 4,.int .i64 0,S,L,S,C,K,P,KS]
def csZ:Array Value:=zZ3
theorem pjJ (L K P a S C c):(prog.info? 36).map (·.size)=some (csV L K P a S C c).size:=by
 show _=some 13;kernel_rfl
def ppZ (k:Nat):List UInt8:=[107,105,111,115,107,32] ++ Lib.itoa (k:Int)
def kskSec (k:Nat):Nat:=keyN (ppZ k)
def peE (k:Nat):Mem:=⟨70+(k:Int),0,(gP (kskSec k):Int)⟩
def kskL (k:Nat):List Mem:=(List.range k).map peE
def kskS (k:Nat):List Nat:=(List.range k).map kskSec
theorem pp0 (k):kskL (k+1)=kskL k ++ [peE k]:=by simp [kskL,List.range_succ]
theorem pp1 (k):kskS (k+1)=kskS k ++ [kskSec k]:=by simp [kskS,List.range_succ]
theorem pfO (k):(kskL k).length=k:=by simp [kskL]
theorem pfP (k):(kskS k).length=k:=by simp [kskS]
structure CsSt (w1 wr:World) (g2 g4:Nat) (L K P KM S C KS:Value) (k:Nat):Prop where
 row:wr.heap[g4]? =some (.cells (csV L K P KM S C KS) 36 (0,0))
 res:wr.heap[g2]? =some (.cells csZ 36 (0,0))
 mem:wr.ownsRow 0 58 3 KM k (pb7 (kskL k))
 sec:wr.ownsRow 0 3 1 KS k (pah (kskS k))
 up:Upd [] [] w1 wr
 base:g2<g4/\w1.heap.size<=g4
 offm:∀ x,x∈foot KM->g4<x
 offs:∀ x,x∈foot KS->g4<x
 apart:∀ x,x∈foot KM->x ∉ foot KS
section
variable {w1 wr w' : World} {g2 g4 k : Nat} {L K P KM S C KS KM' KS' : Value}
theorem CsSt.lt (h:CsSt w1 wr g2 g4 L K P KM S C KS k):g4<wr.heap.size:=paf h.row
theorem CsSt.quiet (h:CsSt w1 wr g2 g4 L K P KM S C KS k) (u:Uq wr w'):CsSt w1 w' g2 g4 L K P KM S C KS k :=
 ⟨paa h.row u,paa h.res u,pdE h.mem u,pdE h.sec u,h.up.trans u,h.base,h.offm,h.offs,h.apart⟩
theorem CsSt.grownS (h:CsSt w1 wr g2 g4 L K P KM S C KS k) (u:Upd (foot KS) (foot KS') wr w'):w'.heap[g4]? =some (.cells (csV L K P KM S C KS) 36 (0,0)) :=
 (u.block g4 h.lt (fun q=>zc _ (h.offs g4 q))).trans h.row
theorem CsSt.addS (h:CsSt w1 wr g2 g4 L K P KM S C KS k) (u:Upd (foot KS) (foot KS') wr w') (g:w'.ownsRow 0 3 1 KS' (k+1) (pah (kskS (k+1)))) :
 (w'.setCell ⟨g4,12,none⟩ KS').heap[g4]? =some (.cells (csV L K P KM S C KS') 36 (0,0))/\(w'.setCell ⟨g4,12,none⟩ KS').heap[g2]? =some (.cells csZ 36 (0,0))/\(w'.setCell ⟨g4,12,none⟩ KS').ownsRow 0 58 3 KM k (pb7 (kskL k))/\(w'.setCell ⟨g4,12,none⟩ KS').ownsRow 0 3 1 KS' (k+1) (pah (kskS (k+1)))/\Uq w1 (w'.setCell ⟨g4,12,none⟩ KS')/\(∀ x,x∈foot KS'->g4<x)/\∀ x,x∈foot KM->x ∉ foot KS':=by
 have j:=h.lt;have m:=h.base;have f:∀ x,x∈foot KS'->g4<x:=fun x a=>by
  rcases u.new x a with e | e
  · exact h.offs x e
  · omega
 have c:∀ x,x≠g4->(w'.setCell ⟨g4,12,none⟩ KS').heap[x]? =w'.heap[x]?:=fun x a=>xE _ _ _ _ a;refine ⟨xg w' g4 12 _ _ KS' (h.grownS u),?_,?_,?_,?_,f,fun x a d=>?_⟩
 · rw [c g2 (by omega),u.block g2 (by omega) (fun q=>by have:=h.offs g2 q;omega)];exact h.res
 · exact paj h.mem (fun x a=>(c x (by have:=h.offm x a;omega)).trans (u.block x (pag h.mem x a) (fun d=>h.apart x a d)))
 · exact paj g (fun x a=>c x (by have:=f x a;omega))
 · exact (h.up.past2 u (fun x a=>by have:=h.offs x a;omega)).setNew (p:=⟨g4,12,none⟩) (by show w1.heap.size<=g4;omega) _
 · rcases u.new x d with e | e
   · exact h.apart x a e
   · have:=pag h.mem x a;omega
theorem CsSt.addM (h1:wr.heap[g4]? =some (.cells (csV L K P KM S C KS) 36 (0,0))) (v:wr.heap[g2]? =some (.cells csZ 36 (0,0))) (f:wr.ownsRow 0 3 1 KS (k+1) (pah (kskS (k+1)))) (o:Uq w1 wr) (y:g2<g4/\w1.heap.size<=g4) (c:∀ x,x∈foot KM->g4<x) (h:∀ x,x∈foot KS->g4<x) (m:∀ x,x∈foot KM->x ∉ foot KS)
 (u:Upd (foot KM) (foot KM') wr w') (r:w'.ownsRow 0 58 3 KM' (k+1) (pb7 (kskL (k+1)))):w'.heap[g4]? =some (.cells (csV L K P KM S C KS) 36 (0,0))/\CsSt w1 (w'.setCell ⟨g4,3,none⟩ KM') g2 g4 L K P KM' S C KS (k+1):=by
 have w:g4<wr.heap.size:=paf h1;have g:∀ x,x∈foot KM'->g4<x:=fun x a=>by
  rcases u.new x a with e | e
  · exact c x e
  · omega
 have d:∀ x,x≠g4->(w'.setCell ⟨g4,3,none⟩ KM').heap[x]? =w'.heap[x]?:=fun x a=>xE _ _ _ _ a;have n:w'.heap[g4]? =some (.cells (csV L K P KM S C KS) 36 (0,0)):=(u.block g4 w (fun q=>zc _ (c g4 q))).trans h1;refine ⟨n,xg w' g4 3 _ _ KM' n,?_,?_,?_,?_,y,g,h,fun x a j=>?_⟩
 · rw [d g2 (by omega),u.block g2 (by omega) (fun q=>by have:=c g2 q;omega)];exact v
 · exact paj r (fun x a=>d x (by have:=g x a;omega))
 · exact paj f (fun x a=>(d x (by have:=h x a;omega)).trans (u.block x (pag f x a) (fun t=>m x t a)))
 · exact (o.past2 u (fun x a=>by have:=c x a;omega)).setNew (p:=⟨g4,3,none⟩) (by show w1.heap.size<=g4;omega) _
 · rcases u.new x a with e | e
   · exact m x e j
   · have:=pag f x j;omega
end
structure CaseRd (l:List Int) (W:World) (L K P KM S C KS:Value):Prop where
 made:MadeRd l W L S C K P
 kmem:∃ ao cap,KM=.slice ao 2 cap/\2<=cap/\cap<=maxLen/\peX W ao (kskL 2)
 ksec:Sl W KS (kskS 2)
theorem CaseRd.upd {l w w' L K P a S C c} (h:CaseRd l w L K P a S C c) (u:Uq w w'):CaseRd l w' L K P a S C c:=by
 obtain ⟨f,d,e,h1,j,g⟩:=h.kmem;exact ⟨h.made.upd u,⟨f,d,e,h1,j,g.upd u⟩,h.ksec.upd u⟩
def ptV (l:List Int) (w:World) (e:Ending) (w':World):Prop:=∃ L K P KM S C KS:Value,Hid (CaseRd l w' L K P KM S C KS)/\e=.returned (.agg (csV L K P KM S C KS))/\Upd [] [] w w'
theorem ps0 (L K P f e m c j kc n d a) (g:L=.slice f e m) (k:K=.slice c j kc) (h:P=.slice n d a) :
 prog.built 32 [(0,L),(1,.agg #[K,P]),(3,.int .i64 4)]=some #[L,K,P,.slice none 0 0,.int .i64 4,.int .i64 0]:=by
 rw [g,k,h];kernel_rfl
theorem ps1 (L K P S C w o g k d kc h n c j f u m e p) (r:L=.slice w o g) (v:K=.slice k d kc) (t:P=.slice h n c) (a:S=.slice j f u) (q:C=.slice m e p) :
 prog.built 36 [(0,.agg #[L,K,P,.slice none 0 0,.int .i64 4,.int .i64 0]),(1,S),(2,.agg (grV L S C K P))]=some (csV L K P (.slice none 0 0) S C (.slice none 0 0)):=by
 rw [r,v,t,a,q];kernel_rfl
theorem pnu (l v w) (hv:RdO w v l) (M:∀ x∈l,pab x) (hl:l.length<=9223372036854775807) :
 Calls prog 5 #[v] w (ptV l w):=by
 obtain ⟨gR,ad⟩:=ae (w.heap.size);obtain ⟨w0,Y⟩:=ae (w.alloc (.cells csZ 36));have s0:=ah (aW ad Y);have u0:=ah (aU Y);have HG:Hid (w.heap.size<=gR):=xJ ad;have aL:w.alloc (.cells zZ3 36)=w0:=Y;have ay:=ah (ppY l v w0 (hv.upd u0.out) M hl);clear hv M hl Y;go_in;go_wp2_with fail;refine ay.out.mono ?_;rintro e o ⟨L,S,C,K,P,HR,rfl,O⟩;have F:=ah (HR.out o (paC.refl _ _));obtain ⟨la,lc,r,_,_,_⟩:=F.out.crew;obtain ⟨sa,sc,A,_,_⟩:=F.out.secs.form;obtain ⟨ca,cc,D,_,_⟩:=F.out.coefs.form;obtain ⟨ka,kc,t,_,_⟩:=F.out.coms.form;obtain ⟨pa,pc,p,_,_,_⟩:=F.out.pts;have aC:=ah (xf r (xf A (xf D (xf t p))));obtain ⟨J,u⟩:=az (grV L S C K P);rw [<-u];have HI:Fi 34 J:=by rw [u];exact ppX _ _ _ _ _
 have HZ:Hid (grZ.size=J.size):=by show _=_;rw [u];rfl
 have HO:Fo J:=by show _=_;rw [u,r,A,D,t,p];simp [grV,Value.oneCell']
 obtain ⟨g,Z2,W2,R2,R⟩:=paz o 34 grZ J;obtain ⟨m,aI⟩:=ae (o.heap.size);rw [aI] at Z2 W2 R2;have aB:(o.alloc (.cells grZ 34)).setRow m J=g:=W2.out;have Q:g.heap[m]? =some (.cells (grV L S C K P) 34 (0,0)):=by rw [<-u];exact R2.out
 have d0:g.cell? ⟨m,0,none⟩=some L:=xa _ m 0 _ _ _ Q;have d1:g.cell? ⟨m,1,none⟩=some S:=xa _ m 1 _ _ _ Q;have ak:Hid ((Instr.loadAt 30 (.pointer (some ⟨m,3,none⟩))).run prog g=.ok (.agg #[K,P]) g) :=
  xL g m 3 30 [K,P] _ (fun j x f=>by
   match j,f with
   | 0,f=>simp at f;subst f;exact xa _ m 3 _ _ _ Q
   | 1,f=>simp at f;subst f;exact xa _ m 4 _ _ _ Q) underlying30 rfl (ppV K P)
 obtain ⟨KV,ag⟩:∃ KV:Array Value,KV=#[K,P]:=⟨_,rfl⟩
 obtain ⟨SU,ai⟩:∃ SU:Array Value,SU=#[L,K,P,.slice none 0 0,.int .i64 4,.int .i64 0]:=⟨_,rfl⟩
 obtain ⟨N,G⟩:=az (csV L K P (.slice none 0 0) S C (.slice none 0 0));have aE:Hid (prog.built 32 [(0,L),(1,.agg KV),(3,.int .i64 4)]=some SU):=by show _=_;rw [ag,ai];exact ps0 _ _ _ _ _ _ _ _ _ _ _ _ r t p
 have aA:Hid (prog.built 36 [(0,.agg SU),(1,S),(2,.agg J)]=some N):=by show _=_;rw [ai,u,G];exact ps1 _ _ _ _ _ _ _ _ _ _ _ _ _ _ _ _ _ _ _ _ r t p A D
 have aw:Fi 36 N:=by rw [G];exact pjJ _ _ _ _ _ _ _
 have aK:Hid (csZ.size=N.size):=by show _=_;rw [G];rfl
 have aF:Fo N:=by show _=_;rw [G,r,A,D,t,p];simp [csV,Value.oneCell']
 rw [<-ag] at ak;obtain ⟨w3,Z3,W3,R3,al⟩:=paz g 36 csZ N;obtain ⟨c,ab⟩:=ae (g.heap.size);rw [ab] at Z3 W3 R3;have aJ:(g.alloc (.cells csZ 36)).setRow c N=w3:=W3.out;have aY:Hid (CsSt o w3 gR c L K P (.slice none 0 0) S C (.slice none 0 0) 0) :=
  ⟨by rw [<-G];exact R3.out,paa (paa (paa s0.out O) R) al,x9 _ _ _ _,x9 _ _ _ _,R.trans al,⟨by rw [<-ab];exact xA (paf s0.out) (xB O.size R.size),by rw [<-ab];exact R.size⟩,(fun x h=>by cases h),(fun x h=>by cases h),(fun x h=>by cases h)⟩
 have U1:=ah (u0.out.trans O);have a6:Hid (w0.heap.size<=o.heap.size):=O.size;clear r A D t p u O R al Q ag ai G W2 W3 R3 ay;go_wp2_with (first | (refine bS Z2 HI HZ HO aB ?_) | (refine bA ak ?_) | (refine bL R2 underlying34 HI ?_) | (refine bB aE ?_) | (refine bB aA ?_) | (refine bS Z3 aw aK aF aJ ?_))
 clear d0 d1 ak aE aA aw aK aF HI HZ HO aB aJ aI ab Z2 Z3 R2 aL ad;have h6:(ByteArray.mk #[107,105,111,115,107,32]).size=6:=rfl;go_loopw [5,6,7] (fun i _ _ wr=>∃ (k:Nat) (n q:Value),i=.int .i64 (k:Int)/\k<=2/\Hid (CsSt o wr gR c L K P n S C q k)) (fun i _ _ _=>2 - (intOf i).toNat)
 case atStart=>exact ⟨0,_,_,rfl,xu _,aY.out⟩
 case round =>
  obtain ⟨k,n,q,rfl,hk,d⟩:=hrel;by_cases a5:k<2
  · have M:pab (k:Int):=by unfold pab;omega
    have aM:=itoa_len (k:Int) M;have x1:(k:Int)<2:=by omega
    go_wp2_with fail;refine (paB (k:Int) wr M).mono ?_;rintro e w4 ⟨y,HY,hy,rfl,hq⟩;have aG:=ah (d.out.quiet hq);clear hq d;go_wp2_with fail;refine (plP _ w4 (by simp [ByteArray.size_append];omega)).mono ?_;rintro e w5 ⟨a,b,HA,HB,ha,hb,rfl,hq⟩;have z:=ah (aG.out.quiet hq);clear hq aG;obtain ⟨aV,w6,an,W,ac⟩:=paZ w5 q (kskS k) k a (pfP k) z.out.sec (by omega);have aH:kskSec k=a:=by
     rw [HA.out,pae,HY.out];rfl
    rw [<-aH,<-pp1] at W;obtain ⟨aD,aq,Z,_,_⟩:=pan W;obtain ⟨r1,r2,r3,r4,r5,r6,r7⟩:=z.out.addS ac W;have af:=z.out.grownS ac;have ar:peE k=⟨70+(k:Int),0,(b:Int)⟩:=by
     unfold peE kskSec;rw [HB.out,pae,HY.out];rfl
    obtain ⟨w7,aQ⟩:=ae (w6.setCell ⟨c,12,none⟩ aV);rw [aQ] at r1 r2 r3 r4 r5;obtain ⟨ba,w8,am,U,au⟩:=pjF w7 n (kskL k) k (70+(k:Int)) 0 (b:Int) (pfO k) r3 (by omega);rw [<-ar,<-pp0] at U;obtain ⟨ax,av,aa,_,_⟩:=pan U;obtain ⟨q1,q2⟩:=CsSt.addM r1 r2 r4 r5 z.out.base z.out.offm r6 r7 au U;have a8:w5.cell? ⟨c,12,none⟩=some q:=xa _ c 12 _ _ _ z.out.row;have a4:w6.cell? ⟨c,12,none⟩=some q:=xa _ c 12 _ _ _ af;have a9:w6.frozen? ⟨c,12,none⟩=false:=xp _ c 12 _ _ af;have c3:w7.cell? ⟨c,3,none⟩=some n:=xa _ c 3 _ _ _ r1;have k3:w8.cell? ⟨c,3,none⟩=some n:=xa _ c 3 _ _ _ q1;have f3:w8.frozen? ⟨c,3,none⟩=false:=xp _ c 3 _ _ q1;subst Z;subst aa;have a3:=ah q2;have aR:=ah an;have aN:=ah am;clear an W ac am U au r1 r2 r3 r4 r5 r6 r7 q1 q2 af aH ar z HA HB HY aM hy M;go_wp2_with (first | (refine wpList_append_run _ rfl _ _ _ _ rfl _ _ (.slice aD (k+1) aq) w6 rfl rfl aR.out ?_) | (refine wpList_append_run _ rfl _ _ _ _ rfl _ _ (.slice ax (k+1) av) w8 rfl rfl aN.out ?_))
    exact ⟨⟨k+1,_,_,by go_num,by omega,a3.out⟩,(by first | (simp [intOf];done) | (simp [intOf];omega))⟩
  · obtain rfl:k=2:=by omega
    obtain ⟨E,H⟩:=az (csV L K P n S C q);have R9:Fr wr c E 36:=by rw [H];exact d.out.row
    have S9:=ah d.out.res;have aj:Fi 36 E:=by rw [H];exact pjJ _ _ _ _ _ _ _
    have a1:Hid (csZ.size=E.size):=by show _=_;rw [H];rfl
    obtain ⟨ax,av,aa,bb,a7⟩:=pan d.out.mem;obtain ⟨aD,aq,Z,_,_⟩:=pan d.out.sec;have aT:Fo E:=by
     obtain ⟨r,A,D,t,p⟩:=aC.out;show _=_;rw [H,r,A,D,t,p,aa,Z];simp [csV,Value.oneCell']
    obtain ⟨B,T⟩:=ae (wr.setRow gR E);have SF:=ah (show B.heap[gR]? =some (.cells E 36 (0,0)) by rw [<-T];exact xz _ _ _ _ _ _ S9.out);have hb:=d.out.base;have a0:=paf s0.out;have X:∀ x,x≠gR->B.heap[x]? =wr.heap[x]?:=fun x f=>by rw [<-T];exact yD _ _ _ _ f
    have ap:paC w0 o B:=fun x h1 h2=>(X x (by omega)).trans (d.out.up.block x h2 (by simp));have aZ:Hid (CaseRd l B L K P n S C q):=by
     refine ⟨HR.out B ap,?_,Sl.of_digs (pfP 2) (paj d.out.sec (fun x f=>X x (by have:=d.out.offs x f;omega)))⟩;obtain ⟨ao,aS,e,h1,h2,h3⟩:=pe5 (pfO 2) (paj (w':=B) d.out.mem (fun x f=>X x (by have:=d.out.offm x f;omega)));exact ⟨ao,aS,e,h1,h2,h3⟩
    have aO:Hid (Uq w B):=by rw [<-T];exact (U1.out.trans d.out.up).setRowNew HG.out E
    have aP:=ah H;have a2:=ah T;have x1:¬ ((2:Nat):Int)<2:=by omega
    clear H aa Z T hb a0 X ap d aC HR F;go_wp2_with (first | (refine bL R9 underlying36 aj ?_) | (refine bS S9 aj a1 aT a2 ?_))
    refine bE SF underlying36 aj ⟨L,K,P,n,S,C,q,aZ,by rw [aP.out],aO.out⟩
end Go.Proofs.YtkhjolbbpdaplaaGreatDoor
