/- sortesref07.Deal. -/
import Derived.Test.YtkhjolbbpdaplaaGreatDoorHAX
namespace Go.Proofs.YtkhjolbbpdaplaaGreatDoor
set_option maxHeartbeats 4000000
open Go.RowKit Go.Proofs.Tryz
set_option maxRecDepth 100000
def dlZ:Array Value:=#[.slice none 0 0,.int .i64 0,.slice none 0 0]
def dlC (c:Value) (p:Int) (b:Value):Array Value:=#[c,.int .i64 p,b]
structure DlSt (w wr:World) (gD gR:Nat) (c b:Value) (p:Nat) (cs:List Nat) (bxs:List (List UInt8)):Prop where
 row:wr.heap[gD]? =some (.cells (dlC c (p:Int) b) 142 (0,0))
 res:wr.heap[gR]? =some (.cells dlZ 142 (0,0))
 com:wr.ownsRow 0 3 1 c cs.length (pah cs)
 box:paU wr b bxs
 up:Upd [] [] w wr
 base:w.heap.size<=gR/\gR<gD
 offc:∀ x,x∈foot c->gD<x
 offb:∀ x,x∈foot b->gD<x
 apart:∀ x,x∈foot c->x ∉ foot b
section
variable {w wr w1 w2 : World} {gD gR : Nat} {c b c' b' : Value} {p q : Nat} {cs : List Nat} {bxs : List (List UInt8)} {s : List UInt8}
theorem DlSt.quiet (h:DlSt w wr gD gR c b p cs bxs) (u:Uq wr w1):DlSt w w1 gD gR c b p cs bxs :=
 ⟨paa h.row u,paa h.res u,paj h.com (fun j a=>u.block j (pag h.com j a) (by simp)),h.box.same (fun j a=>u.block j (h.box.lt j a) (by simp)),h.up.trans u,h.base,h.offc,h.offb,h.apart⟩
theorem DlSt.lt (h:DlSt w wr gD gR c b p cs bxs):gD<wr.heap.size:=paf h.row
theorem DlSt.cells (h:DlSt w wr gD gR c b p cs bxs):wr.cell? ⟨gD,0,none⟩=some c/\wr.cell? ⟨gD,2,none⟩=some b:=⟨xa _ gD 0 _ _ _ h.row,xa _ gD 2 _ _ _ h.row⟩
theorem DlSt.grown (h:DlSt w wr gD gR c b p cs bxs) (u:Upd (foot c) (foot c') wr w1):w1.heap[gD]? =some (.cells (dlC c (p:Int) b) 142 (0,0)) :=
 (u.block gD h.lt (fun q=>zc _ (h.offc gD q))).trans h.row
theorem DlSt.grownB (h:DlSt w wr gD gR c b p cs bxs) (u:Upd (foot b) (foot b') wr w1):w1.heap[gD]? =some (.cells (dlC c (p:Int) b) 142 (0,0)) :=
 (u.block gD h.lt (fun q=>zc _ (h.offb gD q))).trans h.row
theorem DlSt.addCom (h:DlSt w wr gD gR c b p cs bxs) (u:Upd (foot c) (foot c') wr w1) (j:w1.ownsRow 0 3 1 c' (cs.length+1) (pah (cs ++ [q]))):DlSt w (w1.setCell ⟨gD,0,none⟩ c') gD gR c' b p (cs ++ [q]) bxs:=by
 have m:=h.lt;have f:∀ x,x∈foot c'->gD<x:=fun x a=>by
  rcases u.new x a with e | e
  · exact h.offc x e
  · omega
 have d:∀ x,x≠gD->(w1.setCell ⟨gD,0,none⟩ c').heap[x]? =w1.heap[x]?:=fun x a=>xE _ _ _ _ a;have n:=h.base.2;refine ⟨xg w1 gD 0 _ _ c' (h.grown u),?_,?_,?_,?_,h.base,f,h.offb,fun x a g=>?_⟩
 · rw [d gR (by omega),u.block gR (by omega) (fun q=>by have:=h.offc gR q;omega)];exact h.res
 · have e:(cs ++ [q]).length=cs.length+1:=by simp
   rw [e];exact paj j (fun x a=>d x (by have:=f x a;omega))
 · exact h.box.same (fun x a=>(d x (by have:=h.offb x a;omega)).trans (u.block x (h.box.lt x a) (fun k=>h.apart x k a)))
 · exact (h.up.past2 u (fun x a=>by have:=h.offc x a;have:=h.base;omega)).setNew (p:=⟨gD,0,none⟩) (by show w.heap.size<=gD;have:=h.base;omega) _
 · rcases u.new x a with e | e
   · exact h.apart x e g
   · have:=h.box.lt x g;omega
theorem DlSt.addBox (h:DlSt w wr gD gR c b p cs bxs) (u:Upd (foot b) (foot b') wr w1) (g:paU w1 b' (bxs ++ [s])):DlSt w (w1.setCell ⟨gD,2,none⟩ b') gD gR c b' p cs (bxs ++ [s]):=by
 have m:=h.lt;have f:∀ x,x∈foot b'->gD<x:=fun x a=>by
  rcases u.new x a with e | e
  · exact h.offb x e
  · omega
 have d:∀ x,x≠gD->(w1.setCell ⟨gD,2,none⟩ b').heap[x]? =w1.heap[x]?:=fun x a=>xE _ _ _ _ a;have n:=h.base.2;refine ⟨xg w1 gD 2 _ _ b' (h.grownB u),?_,?_,?_,?_,h.base,h.offc,f,fun x a j=>?_⟩
 · rw [d gR (by omega),u.block gR (by omega) (fun q=>by have:=h.offb gR q;omega)];exact h.res
 · exact paj h.com (fun x a=>(d x (by have:=h.offc x a;omega)).trans (u.block x (pag h.com x a) (fun k=>h.apart x a k)))
 · exact g.same (fun x a=>d x (by have:=f x a;omega))
 · exact (h.up.past2 u (fun x a=>by have:=h.offb x a;have:=h.base;omega)).setNew (p:=⟨gD,2,none⟩) (by show w.heap.size<=gD;have:=h.base;omega) _
 · rcases u.new x j with e | e
   · exact h.apart x a e
   · have:=pag h.com x a;omega
end
theorem pbB (c p b):(prog.info? 142).map (·.size)=some (dlC c p b).size:=by
 show _=some 3;kernel_rfl
theorem psY (p):prog.built 142 [(1,.int .i64 p)]=some (dlC (.slice none 0 0) p (.slice none 0 0)):=by kernel_rfl
def boxT (coefs keys:List Nat) (x k:Nat):List (List UInt8):=(List.range k).map fun i=>boxL (valN coefs (i+1)) (pP (keys.getD i 0) x) i
theorem ppQ (a c x k):boxT a c x (k+1)=boxT a c x k ++ [boxL (valN a (k+1)) (pP (c.getD k 0) x) k]:=by simp [boxT,List.range_succ]
theorem pfN (a c x k):(boxT a c x k).length=k:=by simp [boxT]
def ptS (d:Dl) (w:World) (e:Ending) (w':World):Prop:=∃ c b:Value,Hid (w'.ownsRow 0 3 1 c d.coms.length (pah d.coms))/\Hid (paU w' b d.boxes)/\Hid (∀ x,x∈foot c\/x∈foot b->w.heap.size<=x)/\e=.returned (.tuple #[.agg (dlC c (d.point:Int) b),.bool true])/\Upd [] [] w w'
theorem peD (cv kv g B aw w) (hc:Sl w cv g) (hk:Sl w kv B) (a7:∀ x∈g,x<Qn) (aV:∀ x∈B,memN x) (l1:1<=g.length) (l2:g.length<=B.length) (l3:B.length<=60) (hs:aw.size<=1000000) :
 Calls prog 132 #[cv,kv,.string aw] w (ptS (pei g B (bs aw)) w):=by
 obtain ⟨gR,a4⟩:=ae (w.heap.size);obtain ⟨w1,aG⟩:=ae (w.alloc (.cells dlZ 142));have s1:=ah (aW a4 aG);have u1:=ah (aU aG);have HG:Hid (w.heap.size<=gR):=xJ a4;have aZ:=ah (pfn kv B w1 (hk.upd u1.out) aV (by omega));have aH:=ah (hc.upd u1.out);have aY:=ah (hk.upd u1.out);have aT:=ah a7;have bo:=ah aV;have bT:w.alloc (.cells #[.slice none 0 0,.int .i64 0,.slice none 0 0] 142)=w1:=aG;obtain ⟨ca,cc,rfl,bq,bZ⟩:=hc.form;obtain ⟨ka,kc,rfl,bD,bJ⟩:=hk.form;obtain ⟨n,hn⟩:=az (g.length);obtain ⟨m,hm⟩:=az (B.length);have HN:=ah hn;have HM:=ah hm;rw [<-hn] at bq l1 l2 aH;rw [<-hm] at bD l2 l3 aY aZ;rw [<-hn,<-hm];have h6:(ByteArray.mk #[112,111,105,110,116,47]).size=6:=rfl;have bI:¬ m<n:=by omega
 have bW:¬ (m:Int)<(n:Int):=by omega
 clear hc hk a7 aV hn hm aG;go_in;go_wp2_with fail;refine aZ.out.mono ?_;rintro e w' ⟨rfl,rfl⟩;clear aZ;go_wp2;go_loopw [7,9] (fun _ i wr=>∃ k:Nat,i=.int .i64 (k:Int)/\k<=n/\wr=w1) (fun _ i _=>n - (intOf i).toNat)
 case atStart=>exact ⟨0,rfl,xu _,(by first | trivial | rfl)⟩
 case round =>
  obtain ⟨k,rfl,hk,rfl⟩:=hrel;by_cases bi:k<n
  · obtain ⟨x,hx⟩:∃ x,g[k]? =some x:=⟨_,xd (by rw [<-HN.out];exact bi)⟩
    obtain ⟨b,rfl,aj⟩:=aH.out.get hx;have ba:=aT.out x (xt hx);obtain ⟨z,hz⟩:=az ((x:Int));have x0:(0:Int)<=z:=by omega
    have x1:z<1152921504606845789:=by unfold Qn at ba;omega
    rw [<-hz] at aj;have i0:(0:Int)<=(k:Int):=by omega
    have i1:(k:Int)<(n:Int):=by omega
    clear hx ba hz;go_wp2_with fail;exact ⟨⟨k+1,by go_num,by omega,(by first | trivial | rfl)⟩,by simp [intOf];omega⟩
  · go_wp2_with fail;refine (pbS _ wr (by simp [ByteArray.size_append];omega)).mono ?_;rintro e Q ⟨x,HX,hx,rfl,aB⟩;have U2:=ah (u1.out.trans aB);have S2:=ah (paa s1.out aB);have a3:=ah (aH.out.upd aB);have bv:=ah (aY.out.upd aB);clear aB u1 s1 aH aY;go_wp2_with fail;refine (pdm 4 x _ Q (by omega) (by omega) rfl).mono ?_;rintro e w' ⟨p,HP,hp,rfl,rfl⟩;obtain ⟨DV,ac⟩:=az (dlC (.slice none 0 0) (p:Int) (.slice none 0 0));have HB:Hid (prog.built 142 [(1,.int .i64 (p:Int))]=some DV):=by show _=_;rw [ac];exact psY _
    have HI:Fi 142 DV:=by rw [ac];exact pbB _ _ _
    have HZ:Hid (dlZ.size=DV.size):=by show _=_;rw [ac];rfl
    have HO:Fo DV:=by show _=_;rw [ac];simp [dlC,Value.oneCell']
    obtain ⟨w3,Z3,W3,R3,aJ⟩:=paz Q 142 dlZ DV;obtain ⟨f,aF⟩:=ae (Q.heap.size);rw [aF] at Z3 W3 R3;have bf:Hid (DlSt w w3 f gR (.slice none 0 0) (.slice none 0 0) p [] []) :=
     ⟨by rw [<-ac];exact R3.out,paa S2.out aJ,x9 _ _ _ _,pdN _,U2.out.trans aJ,⟨HG.out,by rw [<-aF];exact paf S2.out⟩,(fun x h=>by cases h),(fun x h=>by cases h),(fun x h=>by cases h)⟩
    have ab:Hid (Q.heap.size=f):=aF;have bp:=ah aJ;have bg:(Q.alloc (.cells dlZ 142)).setRow f DV=w3:=W3.out;clear ac aJ R3 S2 U2 W3;go_wp2_with (first | (refine bB HB ?_) | (refine bS Z3 HI HZ HO bg ?_))
    clear Z3 HB HI HZ HO bg aF;go_loopw [12] (fun i wr=>∃ (k:Nat) (c:Value),i=.int .i64 (k:Int)/\k<=n/\Hid (DlSt w wr f gR c (.slice none 0 0) p ((g.map gP).take k) [])/\Hid (Uq Q wr)) (fun i _=>n - (intOf i).toNat)
    case atStart=>exact ⟨0,.slice none 0 0,rfl,xu _,bf.out,bp.out⟩
    case round =>
     obtain ⟨j,c,rfl,hj,E,HU⟩:=hrel;by_cases br:j<n
     · obtain ⟨a,ha⟩:∃ a,g[j]? =some a:=⟨_,xd (by rw [<-HN.out];exact br)⟩
       obtain ⟨b,rfl,aj⟩:=a3.out.get ha;have ay:=aT.out a (xt ha);have aE:a<=9223372036854775807:=by unfold Qn at ay;omega
       have aD:b<Q.heap.size:=x6 _ _ aj;have ax:b<f:=by have:=ab.out;omega
       have aS:=ah aj;have F:Hid (∀ W,Uq wr W->W.cell? ⟨b,j,none⟩=some (.int .i64 (a:Int))):=fun W u=>((HU.out.trans u).cell (p:=⟨b,j,none⟩) aD (by simp)).trans aS.out;have T:=ah ax;have bb:=E.out.cells.1;have a6:Hid ((g.map gP).take (j+1)=(g.map gP).take j ++ [gP a]):=by
        show _=_;rw [xN,ys,ha];rfl
       have av:Hid (((g.map gP).take j).length=j):=by show _=_;rw [xQ,yx,<-HN.out];omega
       have i0:(0:Int)<=(j:Int):=by omega
       have i1:(j:Int)<(n:Int):=by omega
       have Y:Uq wr wr.drew:=uR.drew;clear ha aj ay ax aD;go_upto_region 14 with (fail)
       refine @_root_.id ((∀ (q:Nat) (r:Option Addr) (o:Nat) (W:World),Hid (DlSt w W f gR (.slice r (j+1) o) (.slice none 0 0) p ((g.map gP).take (j+1)) []/\Uq Q W)->(?pj1:Nat->Option Addr->Nat->World->Prop) q r o W)->_) (fun hJ=>?mj1) ?jj1
       case mj1 =>
        refine bH F Y fun A=>?_;refine tkS [0,2,3,4,5] A ?_;refine tkA [1,6] ?_;refine tkC (fun K d=>?_) ?_
        · go_simp;refine tkK d (F.out _ Y) fun A=>?_;clear d K;refine tk1 6 fun K d=>?_;go_simp;refine (pdm 4 a _ _ (by omega) (by omega) rfl).mono ?_;rintro e aP ⟨q,HQ,hq,rfl,rfl⟩;obtain ⟨c',w',X,ao,D⟩:=paZ wr.drew c ((g.map gP).take j) j q av.out (by have h:=E.out.com;rw [av.out] at h;exact paj h (fun _ _=>rfl)) (by omega);obtain ⟨r,o,rfl,al,ak⟩:=pan ao;have Z:=ah X;have ad:Upd (foot c) (foot (.slice r (j+1) o)) wr w':=⟨D.os,D.tape,D.output,D.size,D.block,D.new⟩;have O:=E.out.grown ad;have k0:w'.cell? ⟨f,0,none⟩=some c:=xa _ f 0 _ _ _ O;have f0:w'.frozen? ⟨f,0,none⟩=false:=xp _ f 0 _ _ O;have U:Hid (w'.cell? ⟨b,j,none⟩=some (.int .i64 (a:Int))):=(yd (a:=⟨b,j,none⟩) (ad.block b (zT T.out E.out.lt) (fun hm=>by have:=E.out.offc b hm;have:=T.out;omega))).trans (F.out wr uR);have M:Hid ((w'.setCell ⟨f,0,none⟩ (.slice r (j+1) o)).cell? ⟨b,j,none⟩=some (.int .i64 (a:Int))):=(ym _ _ _ _ (fun e=>by have:=(zO e).1;have:=T.out;omega)).trans U.out;have J:Hid (DlSt w (w'.setCell ⟨f,0,none⟩ (.slice r (j+1) o)) f gR (.slice r (j+1) o) (.slice none 0 0) p ((g.map gP).take (j+1)) []/\Uq Q (w'.setCell ⟨f,0,none⟩ (.slice r (j+1) o))):=⟨(by rw [a6.out];exact E.out.addCom (q:=gP a) ad (by rw [av.out];have e:gP a=q:=HQ.out.symm;rw [e];exact ao)),(HU.out.past2 ad (fun x hx=>by have:=E.out.offc x hx;have:=ab.out;omega)).setNew (p:=⟨f,0,none⟩) (by show Q.heap.size<=f;exact xJ ab.out) _⟩;have bw:(wr.alloc (.cells #[q] 3)).cell? ⟨f,0,none⟩=some c:=(((Upd.refl [] wr).alloc _).cell (p:=⟨f,0,none⟩) E.out.lt (by simp)).trans bb;clear X ao D ad O;go_wp2_with fail;refine tkK d (F.out _ Y) fun A=>?_;clear d K;refine tk1 7 fun K d=>?_;go_simp;refine tkK d (F.out _ (Y.alloc _)) fun A=>?_;clear d K;refine tk1 8 fun K d=>?_;refine paD _ rfl _ _ _ _ rfl c (.slice (some ⟨wr.drew.heap.size,0,none⟩) 1 1) (.slice r (j+1) o) w' rfl rfl Z.out ?_;refine tkK d (U.out) fun A=>?_;clear d K;refine tkY 9 A ?_;refine tk1 10 fun K d=>?_;go_simp;obtain ⟨W2,P⟩:=az (w'.setCell ⟨f,0,none⟩ (.slice r (j+1) o));rw [<-P] at M J ⊢;clear P;refine tkK d (M.out) fun A=>?_;clear d K;refine tkD ?_;exact hJ q r o W2 J
        refine tkZ fun K d=>?_;go_simp;refine (pdm 4 a _ _ (by omega) (by omega) rfl).mono ?_;rintro e aP ⟨q,HQ,hq,rfl,rfl⟩;obtain ⟨c',w',X,ao,D⟩:=paZ wr.drew c ((g.map gP).take j) j q av.out (by have h:=E.out.com;rw [av.out] at h;exact paj h (fun _ _=>rfl)) (by omega);obtain ⟨r,o,rfl,al,ak⟩:=pan ao;have Z:=ah X;have ad:Upd (foot c) (foot (.slice r (j+1) o)) wr w':=⟨D.os,D.tape,D.output,D.size,D.block,D.new⟩;have O:=E.out.grown ad;have k0:w'.cell? ⟨f,0,none⟩=some c:=xa _ f 0 _ _ _ O;have f0:w'.frozen? ⟨f,0,none⟩=false:=xp _ f 0 _ _ O;have U:Hid (w'.cell? ⟨b,j,none⟩=some (.int .i64 (a:Int))):=(yd (a:=⟨b,j,none⟩) (ad.block b (zT T.out E.out.lt) (fun hm=>by have:=E.out.offc b hm;have:=T.out;omega))).trans (F.out wr uR);have M:Hid ((w'.setCell ⟨f,0,none⟩ (.slice r (j+1) o)).cell? ⟨b,j,none⟩=some (.int .i64 (a:Int))):=(ym _ _ _ _ (fun e=>by have:=(zO e).1;have:=T.out;omega)).trans U.out;have J:Hid (DlSt w (w'.setCell ⟨f,0,none⟩ (.slice r (j+1) o)) f gR (.slice r (j+1) o) (.slice none 0 0) p ((g.map gP).take (j+1)) []/\Uq Q (w'.setCell ⟨f,0,none⟩ (.slice r (j+1) o))):=⟨(by rw [a6.out];exact E.out.addCom (q:=gP a) ad (by rw [av.out];have e:gP a=q:=HQ.out.symm;rw [e];exact ao)),(HU.out.past2 ad (fun x hx=>by have:=E.out.offc x hx;have:=ab.out;omega)).setNew (p:=⟨f,0,none⟩) (by show Q.heap.size<=f;exact xJ ab.out) _⟩;have bw:(wr.alloc (.cells #[q] 3)).cell? ⟨f,0,none⟩=some c:=(((Upd.refl [] wr).alloc _).cell (p:=⟨f,0,none⟩) E.out.lt (by simp)).trans bb;clear X ao D ad O;go_wp2_with fail;refine tkK d (F.out _ Y) fun A=>?_;clear d K;refine tkA [1,7] ?_;refine tkC (fun K d=>?_) ?_
        · go_simp;refine tkK d (F.out _ Y) fun A=>?_;clear d K;refine tk1 7 fun K d=>?_;go_simp;refine tkK d (F.out _ (Y.alloc _)) fun A=>?_;clear d K;refine tk1 8 fun K d=>?_;refine paD _ rfl _ _ _ _ rfl c (.slice (some ⟨wr.drew.heap.size,0,none⟩) 1 1) (.slice r (j+1) o) w' rfl rfl Z.out ?_;refine tkK d (U.out) fun A=>?_;clear d K;refine tkY 9 A ?_;refine tk1 10 fun K d=>?_;go_simp;obtain ⟨W2,P⟩:=az (w'.setCell ⟨f,0,none⟩ (.slice r (j+1) o));rw [<-P] at M J ⊢;clear P;refine tkK d (M.out) fun A=>?_;clear d K;refine tkD ?_;exact hJ q r o W2 J
        refine tkZ fun K d=>?_;go_simp;refine tkK d (F.out _ (Y.alloc _)) fun A=>?_;clear d K;refine tk1 1 fun K d=>?_;go_simp;refine tkK d (F.out _ (Y.alloc _)) fun A=>?_;clear d K;refine tk1 8 fun K d=>?_;refine paD _ rfl _ _ _ _ rfl c (.slice (some ⟨wr.drew.heap.size,0,none⟩) 1 1) (.slice r (j+1) o) w' rfl rfl Z.out ?_;refine tkK d (U.out) fun A=>?_;clear d K;refine tkY 9 A ?_;refine tk1 10 fun K d=>?_;go_simp;obtain ⟨W2,P⟩:=az (w'.setCell ⟨f,0,none⟩ (.slice r (j+1) o));rw [<-P] at M J ⊢;clear P;refine tkK d (M.out) fun A=>?_;clear d K;refine tkD ?_;exact hJ q r o W2 J
       intro q r o W HJ;go_wp2_with fail;exact ⟨⟨j+1,_,by go_num,by omega,HJ.out.1,HJ.out.2⟩,(by first | (simp [intOf];done) | (simp [intOf];omega))⟩
     · obtain rfl:j=n:=by omega
       have aK:Hid (DlSt w wr f gR c (.slice none 0 0) p (g.map gP) (boxT g B x 0)):=by
        have h:=E.out;rw [xy (by rw [yx,<-HN.out];omega)] at h;exact h
       obtain ⟨w4,bU⟩:=az (wr);clear E bf;go_wp2;go_loopw [13] (fun i wr=>∃ (k:Nat) (b:Value),i=.int .i64 (k:Int)/\k<=m/\Hid (DlSt w wr f gR c b p (g.map gP) (boxT g B x k))/\Hid (Uq Q wr)) (fun i _=>m - (intOf i).toNat)
       case atStart=>exact ⟨0,_,rfl,xu _,aK.out,HU.out⟩
       case round =>
        obtain ⟨i,b,rfl,hi,E,HV⟩:=hrel;by_cases bu:i<m
        · obtain ⟨a,ha⟩:∃ a,B[i]? =some a:=⟨_,xd (by rw [<-HM.out];exact bu)⟩
          obtain ⟨N,rfl,aj⟩:=bv.out.get ha;have ay:=(bo.out a (xt ha)).2.1;have aE:a<=9223372036854775807:=by unfold Pn at ay;omega
          have aD:N<Q.heap.size:=x6 _ _ aj;have ax:N<f:=by have:=ab.out;omega
          have aS:=ah aj;have F:Hid (∀ W,Uq wr W->W.cell? ⟨N,i,none⟩=some (.int .i64 (a:Int))):=fun W u=>((HV.out.trans u).cell (p:=⟨N,i,none⟩) aD (by simp)).trans aS.out;have aC:Hid (∀ W,Uq wr W->W.cell? ⟨f,2,none⟩=some b):=fun W u=>(u.cell (p:=⟨f,2,none⟩) E.out.lt (by simp)).trans E.out.cells.2;have T:=ah ax;have a1:Hid (∀ W,Uq wr W->Sl W (.slice ca j cc) g):=fun W u=>a3.out.upd (HV.out.trans u);obtain ⟨i9,aN⟩:=az (i+1);have e1:IntKind.i64.wrap ((i:Int)+1)=(i9:Int):=by rw [pam (by omega) (by omega)];omega
          have aI:Hid (boxT g B x (i+1)=boxT g B x i ++ [boxL (valN g i9) (pP a x) i]):=by
           show _=_;rw [ppQ,aN,xx,ha];rfl
          have bj:=ah aN;have a0:i9<9223372036854775808:=by omega
          have aO:x<=9223372036854775807:=by omega
          have i0:(0:Int)<=(i:Int):=by omega
          have i1:(i:Int)<(m:Int):=by omega
          have a2:Hid (∀ c∈g,c<9223372036854775808):=fun c hc=>by have:=aT.out c hc;unfold Qn at this;omega
          have a5:Hid (g.length<=1000):=by show _<=_;rw [<-HN.out];omega
          have Y:Uq wr wr.drew:=uR.drew;clear ha aj ay ax aD aN aK HU;go_upto_region 18 with (fail)
          refine @_root_.id ((∀ (y z:Nat) (C:ByteArray) (r:Option Addr) (S o sz:Nat) (W:World),Hid (DlSt w W f gR c (.slice r S o) p (g.map gP) (boxT g B x (i+1))/\Uq Q W)->(?pj10:Nat->Nat->ByteArray->Option Addr->Nat->Nat->Nat->World->Prop) y z C r S o sz W)->_) (fun hJ=>?mj10) ?jj10
          case mj10 =>
           refine bH F Y fun A=>?_;refine tkS [0,2,3,4,6,7,8,9,10,12] A ?_;refine tkA [1,5] ?_;refine tkC (fun K d=>?_) ?_
           · have c3:=aC.out _ Y;go_simp;clear c3;refine tkK d (F.out _ Y) fun A=>?_;clear d K;refine tk1 5 fun K d=>?_;go_simp;refine (phA _ g i9 _ (a1.out _ Y) a2.out a5.out a0).mono ?_;rintro e aP ⟨y,HY,hy,rfl,hq⟩;have an:=Y.trans hq;clear hq;go_wp2_with fail;refine tkK d (F.out _ an) fun A=>?_;clear d K;refine tk1 11 fun K d=>?_;go_simp;refine (pdm a x _ _ aE aO rfl).mono ?_;rintro e bc ⟨z,HZ,hz,rfl,rfl⟩;have ag:=an;go_wp2_with fail;refine tkK d (F.out _ ag) fun A=>?_;clear d K;refine tk1 13 fun K d=>?_;go_simp;refine (peC y z i _ (by omega) (by omega) (by omega)).mono ?_;rintro e R ⟨C,au,aA,rfl,hq⟩;have H:=ag.trans hq;have G:=E.out.quiet H;obtain ⟨b9,w',X,aa,D⟩:=pbE R b (boxT g B x i) C G.box (by rw [pfN];omega);obtain ⟨r,o,rfl,al,ak⟩:=pan aa;obtain ⟨aQ,aL,ai,aq,ap⟩:=pan G.box;have Z:=ah X;have O:=G.grownB D;have k0:w'.cell? ⟨f,2,none⟩=some b:=xa _ f 2 _ _ _ O;have f0:w'.frozen? ⟨f,2,none⟩=false:=xp _ f 2 _ _ O;have U:Hid (w'.cell? ⟨N,i,none⟩=some (.int .i64 (a:Int))):=(yd (a:=⟨N,i,none⟩) (D.block N (zT T.out G.lt) (fun hm=>by have:=G.offb N hm;have:=T.out;omega))).trans (F.out R H);obtain ⟨v9,ar⟩:∃ v:Value,v=.slice r (boxT g B x i ++ [bs C]).length o:=⟨_,rfl⟩;have M:Hid ((w'.setCell ⟨f,2,none⟩ (.slice r (boxT g B x i ++ [bs C]).length o)).cell? ⟨N,i,none⟩=some (.int .i64 (a:Int))):=(ym _ _ _ _ (fun e=>by have:=(zO e).1;have:=T.out;omega)).trans U.out;have J:Hid (DlSt w (w'.setCell ⟨f,2,none⟩ (.slice r (boxT g B x i ++ [bs C]).length o)) f gR c (.slice r (boxT g B x i ++ [bs C]).length o) p (g.map gP) (boxT g B x (i+1))/\Uq Q (w'.setCell ⟨f,2,none⟩ (.slice r (boxT g B x i ++ [bs C]).length o))):=⟨(by rw [aI.out];have e:boxL (valN g i9) (pP a x) i=bs C:=(by rw [au.out,HY.out,HZ.out];rfl);rw [e];exact G.addBox D aa),((HV.out.trans H).past2 D (fun t ht=>by have:=G.offb t ht;have:=ab.out;omega)).setNew (p:=⟨f,2,none⟩) (by show Q.heap.size<=f;exact xJ ab.out) _⟩;obtain ⟨S,af⟩:=az ((boxT g B x i ++ [bs C]).length);rw [<-af] at M J Z;clear X aa D O hq ar al ak af ai aq ap;go_wp2_with fail;refine tkK d (F.out _ H) fun A=>?_;clear d K;refine tk1 14 fun K d=>?_;go_simp;refine tkK d (F.out _ (H.alloc _)) fun A=>?_;clear d K;refine tk1 15 fun K d=>?_;refine paD _ rfl _ _ _ _ rfl b (.slice (some ⟨R.heap.size,0,none⟩) 1 1) (.slice r S o) w' rfl rfl Z.out ?_;refine tkK d (U.out) fun A=>?_;clear d K;refine tkY 16 A ?_;refine tk1 17 fun K d=>?_;go_simp;obtain ⟨W2,P⟩:=az (w'.setCell ⟨f,2,none⟩ (.slice r S o));rw [<-P] at M J ⊢;clear P;refine tkK d (M.out) fun A=>?_;clear d K;refine tkD ?_;obtain ⟨sz,am⟩:=az (R.heap.size);rw [<-am];exact hJ y z C r S o sz W2 J
           refine tkZ fun K d=>?_;go_simp;refine (phA _ g i9 _ (a1.out _ Y) a2.out a5.out a0).mono ?_;rintro e aP ⟨y,HY,hy,rfl,hq⟩;have an:=Y.trans hq;clear hq;go_wp2_with fail;refine tkK d (F.out _ an) fun A=>?_;clear d K;refine tkA [1,11] ?_;refine tkC (fun K d=>?_) ?_
           · have c3:=aC.out _ an;go_simp;clear c3;refine tkK d (F.out _ an) fun A=>?_;clear d K;refine tk1 11 fun K d=>?_;go_simp;refine (pdm a x _ _ aE aO rfl).mono ?_;rintro e bc ⟨z,HZ,hz,rfl,rfl⟩;have ag:=an;go_wp2_with fail;refine tkK d (F.out _ ag) fun A=>?_;clear d K;refine tk1 13 fun K d=>?_;go_simp;refine (peC y z i _ (by omega) (by omega) (by omega)).mono ?_;rintro e R ⟨C,au,aA,rfl,hq⟩;have H:=ag.trans hq;have G:=E.out.quiet H;obtain ⟨b9,w',X,aa,D⟩:=pbE R b (boxT g B x i) C G.box (by rw [pfN];omega);obtain ⟨r,o,rfl,al,ak⟩:=pan aa;obtain ⟨aQ,aL,ai,aq,ap⟩:=pan G.box;have Z:=ah X;have O:=G.grownB D;have k0:w'.cell? ⟨f,2,none⟩=some b:=xa _ f 2 _ _ _ O;have f0:w'.frozen? ⟨f,2,none⟩=false:=xp _ f 2 _ _ O;have U:Hid (w'.cell? ⟨N,i,none⟩=some (.int .i64 (a:Int))):=(yd (a:=⟨N,i,none⟩) (D.block N (zT T.out G.lt) (fun hm=>by have:=G.offb N hm;have:=T.out;omega))).trans (F.out R H);obtain ⟨v9,ar⟩:∃ v:Value,v=.slice r (boxT g B x i ++ [bs C]).length o:=⟨_,rfl⟩;have M:Hid ((w'.setCell ⟨f,2,none⟩ (.slice r (boxT g B x i ++ [bs C]).length o)).cell? ⟨N,i,none⟩=some (.int .i64 (a:Int))):=(ym _ _ _ _ (fun e=>by have:=(zO e).1;have:=T.out;omega)).trans U.out;have J:Hid (DlSt w (w'.setCell ⟨f,2,none⟩ (.slice r (boxT g B x i ++ [bs C]).length o)) f gR c (.slice r (boxT g B x i ++ [bs C]).length o) p (g.map gP) (boxT g B x (i+1))/\Uq Q (w'.setCell ⟨f,2,none⟩ (.slice r (boxT g B x i ++ [bs C]).length o))):=⟨(by rw [aI.out];have e:boxL (valN g i9) (pP a x) i=bs C:=(by rw [au.out,HY.out,HZ.out];rfl);rw [e];exact G.addBox D aa),((HV.out.trans H).past2 D (fun t ht=>by have:=G.offb t ht;have:=ab.out;omega)).setNew (p:=⟨f,2,none⟩) (by show Q.heap.size<=f;exact xJ ab.out) _⟩;obtain ⟨S,af⟩:=az ((boxT g B x i ++ [bs C]).length);rw [<-af] at M J Z;clear X aa D O hq ar al ak af ai aq ap;go_wp2_with fail;refine tkK d (F.out _ H) fun A=>?_;clear d K;refine tk1 14 fun K d=>?_;go_simp;refine tkK d (F.out _ (H.alloc _)) fun A=>?_;clear d K;refine tk1 15 fun K d=>?_;refine paD _ rfl _ _ _ _ rfl b (.slice (some ⟨R.heap.size,0,none⟩) 1 1) (.slice r S o) w' rfl rfl Z.out ?_;refine tkK d (U.out) fun A=>?_;clear d K;refine tkY 16 A ?_;refine tk1 17 fun K d=>?_;go_simp;obtain ⟨W2,P⟩:=az (w'.setCell ⟨f,2,none⟩ (.slice r S o));rw [<-P] at M J ⊢;clear P;refine tkK d (M.out) fun A=>?_;clear d K;refine tkD ?_;obtain ⟨sz,am⟩:=az (R.heap.size);rw [<-am];exact hJ y z C r S o sz W2 J
           refine tkZ fun K d=>?_;go_simp;refine (pdm a x _ _ aE aO rfl).mono ?_;rintro e bc ⟨z,HZ,hz,rfl,rfl⟩;have ag:=an;go_wp2_with fail;refine tkK d (F.out _ ag) fun A=>?_;clear d K;refine tkA [1,13] ?_;refine tkC (fun K d=>?_) ?_
           · have c3:=aC.out _ ag;go_simp;clear c3;refine tkK d (F.out _ ag) fun A=>?_;clear d K;refine tk1 13 fun K d=>?_;go_simp;refine (peC y z i _ (by omega) (by omega) (by omega)).mono ?_;rintro e R ⟨C,au,aA,rfl,hq⟩;have H:=ag.trans hq;have G:=E.out.quiet H;obtain ⟨b9,w',X,aa,D⟩:=pbE R b (boxT g B x i) C G.box (by rw [pfN];omega);obtain ⟨r,o,rfl,al,ak⟩:=pan aa;obtain ⟨aQ,aL,ai,aq,ap⟩:=pan G.box;have Z:=ah X;have O:=G.grownB D;have k0:w'.cell? ⟨f,2,none⟩=some b:=xa _ f 2 _ _ _ O;have f0:w'.frozen? ⟨f,2,none⟩=false:=xp _ f 2 _ _ O;have U:Hid (w'.cell? ⟨N,i,none⟩=some (.int .i64 (a:Int))):=(yd (a:=⟨N,i,none⟩) (D.block N (zT T.out G.lt) (fun hm=>by have:=G.offb N hm;have:=T.out;omega))).trans (F.out R H);obtain ⟨v9,ar⟩:∃ v:Value,v=.slice r (boxT g B x i ++ [bs C]).length o:=⟨_,rfl⟩;have M:Hid ((w'.setCell ⟨f,2,none⟩ (.slice r (boxT g B x i ++ [bs C]).length o)).cell? ⟨N,i,none⟩=some (.int .i64 (a:Int))):=(ym _ _ _ _ (fun e=>by have:=(zO e).1;have:=T.out;omega)).trans U.out;have J:Hid (DlSt w (w'.setCell ⟨f,2,none⟩ (.slice r (boxT g B x i ++ [bs C]).length o)) f gR c (.slice r (boxT g B x i ++ [bs C]).length o) p (g.map gP) (boxT g B x (i+1))/\Uq Q (w'.setCell ⟨f,2,none⟩ (.slice r (boxT g B x i ++ [bs C]).length o))):=⟨(by rw [aI.out];have e:boxL (valN g i9) (pP a x) i=bs C:=(by rw [au.out,HY.out,HZ.out];rfl);rw [e];exact G.addBox D aa),((HV.out.trans H).past2 D (fun t ht=>by have:=G.offb t ht;have:=ab.out;omega)).setNew (p:=⟨f,2,none⟩) (by show Q.heap.size<=f;exact xJ ab.out) _⟩;obtain ⟨S,af⟩:=az ((boxT g B x i ++ [bs C]).length);rw [<-af] at M J Z;clear X aa D O hq ar al ak af ai aq ap;go_wp2_with fail;refine tkK d (F.out _ H) fun A=>?_;clear d K;refine tk1 14 fun K d=>?_;go_simp;refine tkK d (F.out _ (H.alloc _)) fun A=>?_;clear d K;refine tk1 15 fun K d=>?_;refine paD _ rfl _ _ _ _ rfl b (.slice (some ⟨R.heap.size,0,none⟩) 1 1) (.slice r S o) w' rfl rfl Z.out ?_;refine tkK d (U.out) fun A=>?_;clear d K;refine tkY 16 A ?_;refine tk1 17 fun K d=>?_;go_simp;obtain ⟨W2,P⟩:=az (w'.setCell ⟨f,2,none⟩ (.slice r S o));rw [<-P] at M J ⊢;clear P;refine tkK d (M.out) fun A=>?_;clear d K;refine tkD ?_;obtain ⟨sz,am⟩:=az (R.heap.size);rw [<-am];exact hJ y z C r S o sz W2 J
           refine tkZ fun K d=>?_;go_simp;refine (peC y z i _ (by omega) (by omega) (by omega)).mono ?_;rintro e R ⟨C,au,aA,rfl,hq⟩;have H:=ag.trans hq;have G:=E.out.quiet H;obtain ⟨b9,w',X,aa,D⟩:=pbE R b (boxT g B x i) C G.box (by rw [pfN];omega);obtain ⟨r,o,rfl,al,ak⟩:=pan aa;obtain ⟨aQ,aL,ai,aq,ap⟩:=pan G.box;have Z:=ah X;have O:=G.grownB D;have k0:w'.cell? ⟨f,2,none⟩=some b:=xa _ f 2 _ _ _ O;have f0:w'.frozen? ⟨f,2,none⟩=false:=xp _ f 2 _ _ O;have U:Hid (w'.cell? ⟨N,i,none⟩=some (.int .i64 (a:Int))):=(yd (a:=⟨N,i,none⟩) (D.block N (zT T.out G.lt) (fun hm=>by have:=G.offb N hm;have:=T.out;omega))).trans (F.out R H);obtain ⟨v9,ar⟩:∃ v:Value,v=.slice r (boxT g B x i ++ [bs C]).length o:=⟨_,rfl⟩;have M:Hid ((w'.setCell ⟨f,2,none⟩ (.slice r (boxT g B x i ++ [bs C]).length o)).cell? ⟨N,i,none⟩=some (.int .i64 (a:Int))):=(ym _ _ _ _ (fun e=>by have:=(zO e).1;have:=T.out;omega)).trans U.out;have J:Hid (DlSt w (w'.setCell ⟨f,2,none⟩ (.slice r (boxT g B x i ++ [bs C]).length o)) f gR c (.slice r (boxT g B x i ++ [bs C]).length o) p (g.map gP) (boxT g B x (i+1))/\Uq Q (w'.setCell ⟨f,2,none⟩ (.slice r (boxT g B x i ++ [bs C]).length o))):=⟨(by rw [aI.out];have e:boxL (valN g i9) (pP a x) i=bs C:=(by rw [au.out,HY.out,HZ.out];rfl);rw [e];exact G.addBox D aa),((HV.out.trans H).past2 D (fun t ht=>by have:=G.offb t ht;have:=ab.out;omega)).setNew (p:=⟨f,2,none⟩) (by show Q.heap.size<=f;exact xJ ab.out) _⟩;obtain ⟨S,af⟩:=az ((boxT g B x i ++ [bs C]).length);rw [<-af] at M J Z;clear X aa D O hq ar al ak af ai aq ap;go_wp2_with fail;refine tkK d (F.out _ H) fun A=>?_;clear d K;refine tkA [1,14] ?_;refine tkC (fun K d=>?_) ?_
           · have c3:=aC.out _ H;go_simp;clear c3;refine tkK d (F.out _ H) fun A=>?_;clear d K;refine tk1 14 fun K d=>?_;go_simp;refine tkK d (F.out _ (H.alloc _)) fun A=>?_;clear d K;refine tk1 15 fun K d=>?_;refine paD _ rfl _ _ _ _ rfl b (.slice (some ⟨R.heap.size,0,none⟩) 1 1) (.slice r S o) w' rfl rfl Z.out ?_;refine tkK d (U.out) fun A=>?_;clear d K;refine tkY 16 A ?_;refine tk1 17 fun K d=>?_;go_simp;obtain ⟨W2,P⟩:=az (w'.setCell ⟨f,2,none⟩ (.slice r S o));rw [<-P] at M J ⊢;clear P;refine tkK d (M.out) fun A=>?_;clear d K;refine tkD ?_;obtain ⟨sz,am⟩:=az (R.heap.size);rw [<-am];exact hJ y z C r S o sz W2 J
           refine tkZ fun K d=>?_;go_simp;refine tkK d (F.out _ (H.alloc _)) fun A=>?_;clear d K;refine tk1 1 fun K d=>?_;have c3:=aC.out (R.alloc (.cells #[.string C] 9)) (H.alloc _);go_simp;clear c3;refine tkK d (F.out _ (H.alloc _)) fun A=>?_;clear d K;refine tk1 15 fun K d=>?_;refine paD _ rfl _ _ _ _ rfl b (.slice (some ⟨R.heap.size,0,none⟩) 1 1) (.slice r S o) w' rfl rfl Z.out ?_;refine tkK d (U.out) fun A=>?_;clear d K;refine tkY 16 A ?_;refine tk1 17 fun K d=>?_;go_simp;obtain ⟨W2,P⟩:=az (w'.setCell ⟨f,2,none⟩ (.slice r S o));rw [<-P] at M J ⊢;clear P;refine tkK d (M.out) fun A=>?_;clear d K;refine tkD ?_;obtain ⟨sz,am⟩:=az (R.heap.size);rw [<-am];exact hJ y z C r S o sz W2 J
          intro y z C r S o sz W HJ;go_wp2_with fail;have bn:=bj.out;exact ⟨⟨i9,_,by go_num,by omega,(by show DlSt _ _ _ _ _ _ _ _ _;rw [bn];exact HJ.out.1),HJ.out.2⟩,(by first | (simp [intOf];done) | (simp [intOf];omega))⟩
        · obtain rfl:i=m:=by omega
          obtain ⟨DV,ac⟩:=az (dlC c (p:Int) b);have aR:=E.out.row;rw [<-ac] at aR;have bC:=ah aR;have HI:Fi 142 DV:=by rw [ac];exact pbB _ _ _
          have HZ:Hid (dlZ.size=DV.size):=by show _=_;rw [ac];rfl
          obtain ⟨b0,bP,bd,_,_⟩:=pan E.out.com;obtain ⟨bK,bO,ai,_,_⟩:=pan E.out.box;have HO:Fo DV:=by show _=_;rw [ac,bd,ai];simp [dlC,Value.oneCell']
          have a9:=ah E.out.res;have bh:=ah ac;have aM:∀ t,f<t->(wr.setRow gR DV).heap[t]? =wr.heap[t]?:=fun t ht=>yD _ _ _ _ (by have:=E.out.base.2;omega);have bm:Hid ((wr.setRow gR DV).ownsRow 0 3 1 c (g.map gP).length (pah (g.map gP))):=paj E.out.com (fun t ht=>aM t (E.out.offc t ht));have bt:Hid (paU (wr.setRow gR DV) b (boxT g B x i)):=E.out.box.same (fun t ht=>aM t (E.out.offb t ht));have bz:Hid (∀ t,t∈foot c\/t∈foot b->w.heap.size<=t):=fun t ht=>by
           have h1:=E.out.base;rcases ht with h | h
           · have:=E.out.offc t h;omega
           · have:=E.out.offb t h;omega
          have bk:=ah (E.out.up.setRowNew E.out.base.1 DV);clear ac aR bd ai aM aK HV E;go_wp2_with (first | (refine bL bC underlying142 HI ?_) | (refine bV a9 HI HZ HO ?_))
          have aA:boxT g B x i=(pei g B (bs aw)).boxes:=by
           unfold boxT pei;rw [HX.out,HM.out,pae];rfl
          have bl:p=(pei g B (bs aw)).point:=by
           rw [HP.out,HX.out,pae];rfl
          have a8:=bt.out;rw [aA] at a8;refine xI (results_row_tmp rfl _ _ gR _ DV _ _ rfl (xz _ _ _ _ _ _ a9.out) underlying142 rfl HI.out) rfl ⟨c,b,bm,a8,bz,?_,bk.out⟩;rw [bh.out,bl];rfl
end Go.Proofs.YtkhjolbbpdaplaaGreatDoor
