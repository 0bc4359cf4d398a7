/- sortesref01: Quo, Text and what follows. -/
import Derived.Test.YtkhjolbbpdaplaaGreatDoorHAQ
import Derived.Lib.Join
namespace Go.Proofs.YtkhjolbbpdaplaaGreatDoor
set_option maxHeartbeats 8000000
open Go.RowKit Go.Proofs.Tryz
set_option maxRecDepth 100000
abbrev zv:=@Nat.le_of_lt
abbrev zG:=@List.length_nil
abbrev vo:=@List.getElem?_set_ne
def psE (q r:Nat) (w:World) (e:Ending) (w':World):Prop:=∃ a b:ByteArray,Hid (bs a=be q)/\Hid (bs b=be r)/\e=.returned (.tuple #[.string a,.string b,.bool true])/\Upd [] [] w w'
theorem ppk (a b x y w) (Q:a.size<=1000000000) (T:b.size<=1000000000) (n:x=natB (bs a)) (p:y=natB (bs b)) (A:0<y) (g:(be x).length<=7) (f:(be y).length<=7) :
 Calls prog 143 #[.string a,.string b] w (psE (x / y) (x % y) w):=by
 have S : x < 72057594037927936 := by
  have:=pda g;have e:(256:Nat) ^ 7=72057594037927936:=by decide
  omega
 have P : y < 72057594037927936 := by
  have:=pda f;have e:(256:Nat) ^ 7=72057594037927936:=by decide
  omega
 obtain ⟨q,hq⟩:=az (x / y);obtain ⟨r,h⟩:=az (x % y);have t:(x:Int) / (y:Int)=(q:Int):=by rw [hq];simp
 have B:(x:Int) % (y:Int)=(r:Int):=by rw [h];simp
 have C:q<9223372036854775808:=by
  have:=Nat.div_le_self x y;omega
 have v:r<9223372036854775808:=by
  have:=Nat.mod_le x y;omega
 rw [<-hq,<-h];have M:=ah n;have K:=ah p;have D:=ah g;have k:=ah f;clear n p hq h g f;go_in;go_wp2_with fail;refine (pa8 b w (by omega)).mono ?_;rintro e w' ⟨c,o,rfl,rfl⟩;have d:bs c=be y:=by rw [o.out,K.out]
 have j:y=natB (bs c):=by rw [d,paK]
 have U:0<c.size:=by rw [par d];exact pjg A
 have Z:c.size<=1000000000:=by rw [par d];have:=k.out;omega
 have R:((c.size:Int) == 0)=false:=by rw [xm];omega
 have z:=ah j;clear d j o;go_wp2_with fail;refine (ph9 a x w (by omega) M.out D.out).mono ?_;rintro e w' ⟨rfl,rfl⟩;go_wp2_with fail;refine (ph9 c y w (by omega) z.out k.out).mono ?_;rintro e w' ⟨rfl,rfl⟩;have ab:0<(y:Int):=by omega
 have m:0<=(x:Int):=by omega
 have u:Uq w w.drew:=uR.drew;have W:(x:Int).tmod (y:Int)=(r:Int):=by rw [xO m];exact B
 have aa:(x:Int).tdiv (y:Int)=(q:Int):=by rw [xP m];exact t
 have ac:IntKind.i64.wrap (q:Int)=(q:Int):=zs _ (by omega);have Y:((y:Int) == 0)=false:=by rw [xm];omega
 have X:¬ y=0:=by omega
 go_wp2_with fail;go_region_held3 (fun _=>True) (first | trivial | assumption)
  (first
   | (go_at_call 26;((with_reducible refine (pbs q _ C).mono ?_);rintro e J ⟨G,F,rfl,hq⟩;have O:=u.trans hq;clear hq))
   | (go_at_call 26;((with_reducible refine (pbs r _ v).mono ?_);rintro e J ⟨N,E,rfl,hq⟩;have H:=O.trans hq;clear hq)))
 go_wp2_with fail;go_ret3;exact ⟨G,N,F,E,rfl,H⟩
structure QuoAt (x y n k:Nat) (Q:List Nat) (R:Nat):Prop where
 len:Q.length=n
 ok:okL Q
 val:valL ((dg x).drop k)=valL (Q.drop k) * y+R
 lt:R<y
theorem pkT (l:List Nat) (k x) (h:k<l.length):(l.set k x).drop k=x :: l.drop (k+1):=by
 rw [xZ (by simpa using h),List.getElem_set_self,List.drop_set_of_lt (by omega)]
theorem QuoAt.step {x y n j Q R d q} (h:QuoAt x y n (j+1) Q R) (g:j<n) (a:(dg x)[j]? =some d) (hq:q=(d+16777216 * R) / y):QuoAt x y n j (Q.set j q) ((d+16777216 * R) % y):=by
 have f:=h.lt;have c:d<16777216:=peV x d (xt a);have e:q<16777216:=by rw [hq];exact pjh f c
 refine ⟨by rw [zS];exact h.len,psD h.ok e,?_,yP _ (by omega)⟩;rw [pb1 a,pkT _ _ _ (by rw [h.len];exact g),valL];exact pl0 h.val hq
theorem QuoAt.zero {x y n j Q R d} (h:QuoAt x y n (j+1) Q R) (_hj:j<n) (c:Q[j]? =some 0) (e:(dg x)[j]? =some d) (a:d+16777216 * R<y):QuoAt x y n j Q (d+16777216 * R):=by
 refine ⟨h.len,h.ok,?_,a⟩;rw [pb1 e,pb1 c];have:=pl0 (x:=d) h.val (q:=0) (by rw [uA a]);rw [xV a] at this;exact this
theorem Upd.own (w o):Upd [] [w.heap.size] w (w.alloc o):=⟨rfl,rfl,rfl,by simp,fun k a _=>xY _ _ _ a,fun k a=>by simp at a;omega⟩
theorem pdU {w w'} {g:Nat} {o} (h:w.heap[g]? =some o) (u:Uq w w'):w'.heap[g]? =some o:=by
 rw [u.block _ (xq.1 h).1 (by simp)];exact h
theorem psF (w:World) (d:Nat):(w.alloc (.cells #[d] 3)).ownsRow 0 3 1 (.slice (some ⟨w.heap.size,0,none⟩) 1 1) 1 (pah [d]) :=
 ⟨by simp [pah],.inr ⟨w.heap.size,1,_,rfl,xu _,xi _ _,xj _,by simp [maxLen],by simp,by simp [pah,digV]⟩⟩
theorem psG {x y n Q R} (h:QuoAt x y n 0 Q R):valL Q=x / y/\R=x % y:=by
 have a:=h.val;rw [zN,zN,pbl] at a;have c:=h.lt;have hq:x / y=valL Q:=by
  rw [a,yk,Nat.mul_add_div (by omega),uA c,zY]
 have d:x % y=R:=by
  rw [a,yk,Nat.mul_add_mod,xV c]
 exact ⟨hq.symm,d.symm⟩
theorem pmd (s x w) (c:s.size<=1000000000000) (a:x=natB (bs s)) :
 Calls prog 78 #[.string s,.int .i64 7] w (fun e w'=>∃ z p,Hid (p=true ↔ (be x).length<=7)/\(-9223372036854775808<=z/\z<=9223372036854775807)/\e=.returned (.tuple #[.int .i64 z,.bool p])/\w=w'):=by
 by_cases h:(be x).length<=7
 · refine (ph9 s x w c a h).mono ?_;rintro e w' ⟨rfl,rfl⟩;have f:x<72057594037927936:=by
    have:=pda h;have e:(256:Nat) ^ 7=72057594037927936:=by decide
    omega
   exact ⟨(x:Int),true,⟨fun _=>h,fun _=>rfl⟩,by omega,rfl,rfl⟩
 · refine (po5 s x w c a (by omega)).mono ?_;rintro e w' ⟨rfl,rfl⟩;exact ⟨0,false,⟨(fun h=>by cases h),fun d=>absurd d h⟩,by omega,rfl,rfl⟩
theorem psH (a b x y w) (ha:a.size<=1000000000) (hb:b.size<=1000000000) (hx:x=natB (bs a)) (hy:y=natB (bs b)) (al:0<y) (hs:7<(be x).length\/7<(be y).length) (dx:(dg x).length<=100000000) (dy:(dg y).length<=100000000) :
 Calls prog 143 #[.string a,.string b] w (psE (x / y) (x % y) w):=by
 have HX:=ah hx;have HY:=ah hy;have HS:=ah hs;have a2:=ah dx;have A:=ah dy;clear hx hy hs dx dy;go_in;go_wp2_with fail;refine (pa8 b w (by omega)).mono ?_;rintro e w' ⟨c,HC,rfl,rfl⟩;have O:bs c=be y:=by rw [HC.out,HY.out]
 have a0:y=natB (bs c):=by rw [O,paK]
 have bK:0<c.size:=by rw [par O];exact pjg al
 have bt:c.size<=1000000000:=by
  have h1:=paJ b.size y (by rw [HY.out];exact peU (bs b));rw [par O];omega
 have bw:((c.size:Int) == 0)=false:=by rw [xm];omega
 have aN:=ah a0;clear O a0 HC;go_wp2_with fail;refine (pmd a x w (by omega) HX.out).mono ?_;rintro e w' ⟨z1,B,aS,bJ,rfl,rfl⟩;go_wp2_with fail;refine (pmd c y w (by omega) aN.out).mono ?_;rintro e w' ⟨z2,p2,aZ,bx,rfl,rfl⟩;have hp:¬ (B=true/\p2=true):=by
  rintro ⟨h1,h2⟩;have g1:=aS.out.1 h1;have g2:=aZ.out.1 h2;have:=HS.out;omega
 have bi:(B=false)\/(B=true/\p2=false):=by
  cases B <;> cases p2 <;> simp_all
 clear hp aS aZ HS;rcases bi with rfl | ⟨rfl,rfl⟩
 all_goals
  go_wp2_with fail;refine (phs a x w HX.out ha a2.out).mono ?_;rintro e w1 ⟨u,HU,rfl,a3⟩;go_wp2_with fail;refine (phs c y w1 aN.out bt A.out).mono ?_;rintro e f ⟨v,HV,rfl,ak⟩;have ar:=ah (HU.out.upd ak);have u2:=a3.trans ak;obtain ⟨ao,bD,rfl,bh,bv⟩:=ar.out.form;obtain ⟨n,E⟩:=az ((dg x).length);have br:n<=100000000:=by rw [E];exact a2.out
  rw [<-E] at bh ar;rw [<-E];have HN:=ah E;clear E HU a3 ak;go_wp2_with fail;rw [ppi f n (by omega)];have hg:=xi f (.cells (pah (List.replicate n 0)).toArray 3);have HG:=ah hg;have bu:Uq f (f.alloc (.cells (pah (List.replicate n 0)).toArray 3)):=uR.alloc _;clear hg;go_wp2;go_loopw [14,15] (fun rest i wr=>∃ (z:Int) (k:Nat) (Q:List Nat) (R:Nat),i=.int .i64 z/\z+1=(k:Int)/\k<=n/\Hid (QuoAt x y n k Q R)/\Hid (∀ i,i<k->Q[i]? =some 0)/\Hid (wr.heap[f.heap.size]? =some (.cells (pah Q).toArray 3 (0,0)))/\Hid (Sl wr rest (dg R))/\Hid (Uq f wr)) (fun _ i _=>(intOf i+1).toNat)
  case atStart =>
   refine ⟨(n:Int) - 1,n,List.replicate n 0,0,rfl,by omega,xj _,⟨by simp,ppj n,?_,al⟩,fun i hi=>by simp [hi],HG.out,?_,bu⟩
   · rw [yN (by rw [HN.out];omega),yN (by simp)];simp [valL]
   · rw [pdb];exact Sl.nil _
  case round =>
   obtain ⟨z,k,Q,R,rfl,hz,hk,m,W,G,HR,M⟩:=hrel;by_cases h0:0<k
   · obtain ⟨j,rfl⟩:∃ j,k=j+1:=⟨k - 1,by omega⟩
     obtain rfl:z=(j:Int):=by omega
     have aT:j<(dg x).length:=by rw [<-HN.out];omega
     obtain ⟨d,X⟩:∃ d,(dg x)[j]? =some d:=⟨_,xd aT⟩
     obtain ⟨g1,rfl,c1⟩:=(ar.out.upd M.out).get X;have a6:d<16777216:=peV x d (xt X);have a4:(dg R).length<=100000000:=xB (pdd (zv m.out.lt)) A.out;have bC:f.heap.size<wr.heap.size:=(xq.1 G.out).1;obtain ⟨v',w',aB,au,aE⟩:=ppg (wr.alloc (.cells #[d] 3)) _ 1 [d] (psF wr d) _ (dg R) (HR.out.upd (uR.alloc _)) (by omega);have ac:Upd [] (foot v') wr w':=(Upd.own wr _).trans aE;have ab:Uq wr w':=ac.mono (fun _ h=>h) (fun _ h=>absurd h (by simp));have av:∀ b∈foot v',b≠f.heap.size:=fun b hb=>by
      rcases ac.new b hb with h | h
      · simp at h
      · omega
     have o:=Sl.of_row (l:=[d] ++ dg R) (by rw [xr];exact au);have aJ:okL ([d] ++ dg R):=by
      intro e he;rcases yo.1 he with rfl | he
      · exact a6
      · exact peV R e he
     have aG:valL ([d] ++ dg R)=d+16777216 * R:=by
      show d+16777216 * valL (dg R)=_;rw [pbl]
     have aD:=ah aB;have P:=ah o;have a7:=ah aJ;have aC:=ah aG;have a8:=ah av;have ad:=ah (M.out.trans ab);have ay:=ah (pdU G.out ab);have HD:=ah X;clear aT X aB au aE ac ab av o aJ aG M G HR hz;go_wp2_with (refine bN aD ?_)
     refine (ppc v' _ w' P.out a7.out).mono ?_;rintro e w3 ⟨D,an,rfl,rfl⟩;obtain ⟨g,af⟩:=az (d+16777216 * R);have a1:Sl w' D (dg g):=by rw [af,<-aC.out];exact an.out.1
     have aO:∀ b∈foot D,b≠f.heap.size:=by rw [an.out.2];exact a8.out
     have t:=ah af;have aa:=ah a1;have bn:=ah aO;clear af a1 aO an P a7 aC a8 aD;go_wp2_with fail;refine (ppd D v g y w' aa.out (HV.out.upd ad.out)).mono ?_;rintro e w4 ⟨r,aI,hr,rfl,S⟩;have H:=ah (ad.out.trans S);have J:=ah (aa.out.upd S);have Y:=ah (pdU ay.out S);clear S ad aa ay;by_cases bj:r<0
     · have aP:d+16777216 * R<y:=by rw [<-t.out];exact aI.out.1.1 bj
       have ai:=m.out.zero (by omega) (W.out j (by omega)) HD.out aP;rw [<-t.out] at ai;have aj:=ah ai;have am:Hid (∀ i,i<j->Q[i]? =some 0):=fun i hi=>W.out i (by omega);clear ai aP;go_wp2_with fail;exact ⟨⟨(j:Int) - 1,j,Q,g,rfl,by omega,by omega,aj.out,am.out,Y.out,J.out,H.out⟩,by first | (simp [intOf];done) | (simp [intOf];omega)⟩
     · have aY:y<=g:=by
        have:=aI.out.1;omega
       have hq:g / y<16777216:=by rw [t.out];exact pjh m.out.lt a6
       have bI:=ah aY;clear aY;go_wp2_with fail;refine (ppf D v g y w4 J.out (HV.out.upd H.out) al hq (by have:=A.out;omega)).mono ?_;rintro e C ⟨q,ap,bk,rfl,T⟩;have aK:=ah (H.out.trans T);have aH:=ah (J.out.upd T);have F:=ah (pdU Y.out T);clear T H J Y hq;have aV:j<n:=by omega
       have aM:j<Q.length:=by rw [m.out.len];exact aV
       have f1:C.frozen? ⟨f.heap.size,j,none⟩=false:=xp _ _ _ _ _ F.out;have U:=xg C f.heap.size j _ _ (.int .i64 (q:Int)) F.out;rw [pkS] at U;have k0:C.cell? ⟨f.heap.size,j,none⟩=some (.int .i64 0):=by
        rw [xa C _ j _ _ _ F.out];have:=W.out j (by omega);simp [pah,this,digV]
       have k6:(C.setCell ⟨f.heap.size,j,none⟩ (.int .i64 (q:Int))).cell? ⟨f.heap.size,j,none⟩=some (.int .i64 (q:Int)):=by
        rw [xa _ _ j _ _ _ U];simp [pah,digV,aM]
       have aw:=ah U;have Z:=ah (aK.out.setNew (p:=⟨f.heap.size,j,none⟩) (xj _) (.int .i64 (q:Int)));have aA:=ah (aH.out.set (j:=j) (x:=.int .i64 (q:Int)) bn.out);have aj:=ah (m.out.step (q:=q) aV HD.out (by rw [ap.out,t.out]));have am:Hid (∀ i,i<j->(Q.set j q)[i]? =some 0):=fun i hi=>by rw [vo (by omega)];exact W.out i (by omega)
       have p0:(0:Int)<=(j:Int):=by omega
       have B:(j:Int)<(n:Int):=by omega
       clear U F aK aH aM;go_wp2_with fail;refine (pjp v y q _ (HV.out.upd Z.out) bk (by have:=A.out;omega)).mono ?_;rintro e w7 ⟨v3,bl,rfl,K⟩;have bf:=ah (Z.out.trans K);have bb:=ah (aA.out.upd K);have ba:=ah (pdU aw.out K);have aQ:y * q<=g:=by rw [ap.out];exact Nat.mul_div_le g y
       have aF:(dg g).length<=1000000000:=by
        have h1:g<16777216 ^ ((dg y).length+1):=by
         rw [t.out,x8];have h2:=ptI y;have h3:=m.out.lt;have h4:R+1<=16777216 ^ (dg y).length:=by omega
         omega
        have h5:=pev _ _ h1;have:=A.out;omega
       clear K Z aA aw k0 k6 f1;go_wp2_with fail;refine (ppe D v3 g (y * q) w7 bb.out bl.out aQ aF).mono ?_;rintro e w8 ⟨v4,bp,rfl,ag⟩;have ax:g - y * q=(d+16777216 * R) % y:=by
        rw [ap.out,<-t.out];have:=zR g y;omega
       have aq:=bp.out;rw [ax] at aq;have bg:=ah aq;have bc:=ah (bf.out.trans ag);have a9:=ah (pdU ba.out ag);clear ax aq ag aQ aF;go_wp2_with fail;exact ⟨⟨(j:Int) - 1,j,Q.set j q,(d+16777216 * R) % y,rfl,by omega,by omega,aj.out,am.out,a9.out,bg.out,bc.out⟩,by first | (simp [intOf];done) | (simp [intOf];omega)⟩
   · obtain rfl:k=0:=by omega
     obtain rfl:z=-1:=by omega
     have N:=m.out.len;have o:=Sl.of_block G.out (by rw [N];simp only [maxLen];omega);rw [N] at o;have aL:=psG m.out;have a4:(dg R).length<=100000000:=xB (pdd (zv m.out.lt)) A.out;have P:=ah o;have aR:=ah aL;have bm:=ah N;clear N o aL hz h0;go_wp2_with fail;refine (pdT _ Q wr P.out m.out.ok (by rw [bm.out];exact br)).mono ?_;rintro e w9 ⟨s1,bq,rfl,a5⟩;go_wp2_with fail;refine (pdT _ (dg R) w9 (HR.out.upd a5) (peV R) a4).mono ?_;rintro e bz ⟨s2,bo,rfl,bd⟩;go_wp2_with fail;go_ret3;refine ⟨s1,s2,?_,?_,rfl,(u2.trans M.out).trans (a5.trans bd)⟩
     · show _=_;rw [bq.out,aR.out.1]
     · show _=_;rw [bo.out,pbl,aR.out.2]
theorem prb (k):(256:Nat) ^ k<=16777216 ^ k:=Nat.pow_le_pow_left (by omega) k
theorem pex (z):(dg z).length<=(be z).length:=pev _ _ (xA (poW z) (prb _))
theorem pkU (a b x y w) (k:bs a=be x) (g:bs b=be y) (c:0<y) (m:(be x).length<=100000000) (n:(be y).length<=100000000) :
 Calls prog 143 #[.string a,.string b] w (psE (x / y) (x % y) w):=by
 have d:x=natB (bs a):=by rw [k,paK]
 have f:y=natB (bs b):=by rw [g,paK]
 have j:a.size<=1000000000:=by rw [par k];omega
 have e:b.size<=1000000000:=by rw [par g];omega
 by_cases h:(be x).length<=7/\(be y).length<=7
 · exact ppk a b x y w j e d f c h.1 h.2
 · exact psH a b x y w j e d f c (by omega) (xB (pex x) m) (xB (pex y) n)
theorem pib (a x w) (H:x=natB (bs a)) (hl:a.size<=100000000) (hD:(Lib.decDigits x).length<=1000000000) :
 Calls prog 67 #[.string a] w (MkS (Lib.decDigits x) w):=by
 have h:=ah H;clear H;go_in;go_wp2_with fail;refine (pa8 a w (by omega)).mono ?_;rintro e w' ⟨r,m,rfl,rfl⟩;have d:bs r=be x:=by rw [m.out,h.out]
 have z:(be x).length<=100000000:=xB (paJ a.size x (by rw [h.out];exact peU (bs a))) hl;by_cases h0:x=0
 · subst h0;have hs:r.size=0:=by rw [par d,pa3];rfl
   have Z:((r.size:Int) == 0)=true:=by rw [yW];omega
   clear d m h;go_wp2;go_ret;exact ⟨⟨#[48]⟩,by show _=_;rw [zE (by omega)];rfl,by rw [zE (by omega)];decide,rfl,Upd.refl _ _⟩
 · have hs:0<r.size:=by rw [par d];exact pjg (by omega)
   have Z:((r.size:Int) == 0)=false:=by rw [xm];omega
   have HB:=ah d;have X:=ah z;have G:=ah (phV (v:=x) (by omega));clear d m h z h0;go_wp2;go_loopw [0,3] (fun a s wr=>∃ (q:Nat) (c t:ByteArray),a=.string c/\s=.string t/\Hid (bs c=be q)/\Hid (digs q ++ bs t=digs x)/\q<=x/\Hid (Uq w wr)) (fun a _ _=>match a with | .string c=>natB (bs c) | _=>0)
   case atStart=>exact ⟨x,r,⟨#[]⟩,rfl,rfl,HB.out,by show _=_;simp [bs],xj _,Upd.refl _ _⟩
   case round =>
    obtain ⟨q,c,t,rfl,rfl,f,o,hq,B⟩:=hrel;by_cases h1:0<q
    · have S:0<c.size:=by rw [par f.out];exact pjg h1
      have D:(be q).length<=100000000:=xB (paJ (be x).length q (ui hq (poW x))) X.out;have P:=ah D;clear D;go_wp2_with fail;refine (pbs 10 wr (by omega)).mono ?_;rintro e w2 ⟨U,M,rfl,O⟩;go_wp2_with fail;refine (pkU c U q 10 w2 f.out M.out (by omega) P.out (xB (paJ 1 10 (by decide)) (by omega))).mono ?_;rintro e g ⟨J,k,E,F,rfl,aa⟩;go_wp2_with fail;have u:q % 10=natB (bs k):=by rw [F.out,paK]
      have K:k.size<=1000000000000:=by
       rw [par F.out];exact xB (paJ 1 (q % 10) (by omega)) (by omega)
      refine (ph8 k (q % 10) g K u (by omega)).mono ?_;rintro e w' ⟨rfl,rfl⟩;obtain ⟨b,n⟩:=az (UInt8.ofNat (48+q % 10));have R:b.toNat=48+q % 10:=by rw [n];exact pbR (yP _ (by omega))
      have j:=piV q h1;rw [<-n] at j;have hb1:48+(q:Int) % 10=(b.toNat:Int):=by omega
      have A:digs (q / 10) ++ bs (⟨#[b]⟩ ++ t)=digs x:=by
       rw [pae,<-o.out,j,xG];rfl
      have ac:t.size<=1000000000:=by
       have h2:=xU List.length o.out;rw [xr,pac,G.out] at h2;omega
      have ab:(ByteArray.mk #[b]).size<=1:=xj _;have Y:=ah A;have T:=ah (plQ g b);have Q:Uq g (g.alloc (.cells #[.int .u8 (b.toNat:Int)] 5)):=uR.alloc _;have N:=ah hb1;have C:natB (bs J)<natB (bs c):=by
       rw [E.out,f.out,paK,paK];omega
      have W:=ah C;clear n R j A hb1 u C;go_wp2_with fail;rw [N.out,T.out];go_wp2_with fail;exact ⟨⟨q / 10,J,_,rfl,rfl,E.out,Y.out,by omega,B.out.trans ((O.trans aa).trans Q)⟩,W.out⟩
    · obtain rfl:q=0:=by omega
      have S:c.size=0:=by rw [par f.out,pa3];rfl
      have p:bs t=Lib.decDigits x:=by rw [<-G.out,<-o.out];simp [digs]
      have y:=ah p;clear p h1;go_wp2;go_ret;exact ⟨t,y.out,xJ (paF y.out),rfl,B.out⟩
end Go.Proofs.YtkhjolbbpdaplaaGreatDoor

namespace Go.Proofs.YtkhjolbbpdaplaaGreatDoor
set_option maxHeartbeats 8000000
set_option maxRecDepth 100000
def pme (w:List UInt8) (xs:List Int):List UInt8:=w ++ [47] ++ Lib.join (xs.map Lib.itoa) [47]
def pfk (w:List UInt8) (xs:List Int):Nat:=pd3 (pme w xs)
def ptL:List UInt8:=[110,111,110,99,101]
def ppl:List UInt8:=[101,113,117,97,108]
def pP (a n:Nat):Nat:=a ^ n % Pn
def pht (x g h:Nat):Nat:=pfk ptL [(x:Int),(g:Int),(h:Int)]
def prc (g a h b r s:Nat):Nat:=pfk ppl [(g:Int),(a:Int),(h:Int),(b:Int),(r:Int),(s:Int)]
def pnc (x g h k:Nat):Nat:=prc g (pP g x) h (pP h x) (pP g k) (pP h k)
def prd (x g h k:Nat):Nat:=(k+pnc x g h k * x) % Qn
def pnd (base a c z:Nat):Nat:=pP base z * pP a (Qn - c) % Pn
def verE (g a h b c z:Int):Bool :=
 memB g && memB a && memB h && memB b && decide (0<=c) && decide (c<1152921504606845789) && decide (0<=z) && decide (z<1152921504606845789) &&
  decide (c.toNat=prc g.toNat a.toNat h.toNat b.toNat (pnd g.toNat a.toNat c.toNat z.toNat) (pnd h.toNat b.toNat c.toNat z.toNat))
theorem pre {x} (h1:1<=x) (c:x<Pn):memN (x * x % Pn):=by
 have a:¬ Pn ∣ x:=fun h=>by have:=z8 (by omega) h;omega
 have e:(x * x % Pn) ^ Qn % Pn=1:=by rw [pcA];exact phO a
 refine ⟨?_,yP _ prO,e⟩;by_cases h0:x * x % Pn=0
 · rw [h0,Nat.zero_pow pg7,Nat.zero_mod] at e;omega
 · omega
def puo (n:Nat):Nat:=(n+1) * (n+1) % Pn
end Go.Proofs.YtkhjolbbpdaplaaGreatDoor

namespace Go.Proofs.YtkhjolbbpdaplaaGreatDoor
set_option maxHeartbeats 8000000
open Go.RowKit Go.Proofs.Tryz
set_option maxRecDepth 100000
def pey (w:World) (g:Nat) (xs:List Int):Prop:=g<w.heap.size/\(∀ (j:Nat) x,xs[j]? =some x->w.cell? ⟨g,j,none⟩=some (.int .i64 x))/\∀ x∈xs,pab x
theorem pey.upd {w w':World} {g:Nat} {a:List Int} (h:pey w g a) (u:Uq w w'):pey w' g a :=
 ⟨xA h.1 u.size,fun j x c=>(u.cell h.1 (by simp)).trans (h.2.1 j x c),h.2.2⟩
theorem pez (x w) (_hx:-9223372036854775808<=x/\x<=9223372036854775807) :
 Calls prog 153 #[.int .i64 x] w (fun e w'=>∃ r,Hid (r=expN x)/\r<1152921504606845789/\e=.returned (.int .i64 (r:Int))/\w=w'):=by
 have c:=ug (a:=x) (b:=1152921504606845789);have d:=pf2 x;have H1:=ah (xf c d);clear c d;have f:=phS x;go_in;go_wp2_with fail
 all_goals go_ret
 all_goals refine ⟨expN x,rfl,f,phL ?_,rfl⟩
 all_goals have h:=H1.out
 all_goals obtain ⟨h1,g⟩:=h
 all_goals first | simp only [wrap64] | skip
 all_goals split at h1 <;> omega
theorem ppm:∃ i,prog.info? 9=some i/\i.zero=some (.string ⟨#[]⟩)/\i.size=1/\i.bytes=16:=by
 have h:(prog.info? 9).map (fun i=>(i.zero,i.size,i.bytes))=some (some (.string ⟨#[]⟩),1,16):=by kernel_rfl
 obtain ⟨i,c,a⟩:=yp.1 h;simp only [yY] at a;exact ⟨i,c,a.1,a.2.1,a.2.2⟩
def pbh (l:List ByteArray):List Value:=l.map Value.string
theorem ppn (k):madeCells (Value.string ⟨#[]⟩).cells k=(pbh (List.replicate k ⟨#[]⟩)).toArray:=by
 apply Array.ext
 · simp [madeCells,pbh]
 · intro i h1 a;simp [madeCells,pbh,Value.cells,Nat.mod_one]
theorem ppo (w) (n:Nat) (g:n<=1000):(Instr.makeSlice 123 (.int .i64 (n:Int)) (.int .i64 (n:Int))).run prog w=.ok (.slice (some ⟨w.heap.size,0,none⟩) n n) (w.alloc (.cells (pbh (List.replicate n ⟨#[]⟩)).toArray 9)):=by
 obtain ⟨f,e,d,c,a⟩:=ppm;have:=run_make (P:=prog) w 123 9 f (.string ⟨#[]⟩) underlying123 e d .i64 .i64 n n (by omega) (by omega) (by rw [a];omega) (by omega);rw [this,c];simp only [xW,zf,ppn]
theorem pjr (l k x):(pbh l).toArray.setIfInBounds k (.string x)=(pbh (l.set k x)).toArray:=by
 simp [pbh,List.map_set]
theorem pmf (wr:World) (g k l t) (h:wr.heap[g]? =some (.cells (pbh l).toArray t (0,0))) (x) (a:l[k]? =some x) :
 wr.cell? ⟨g,k,none⟩=some (.string x):=by
 rw [xa wr g k _ _ _ h];simp [pbh,a]
theorem pjs (a) (h:∀ l∈a,l.length<=20):(Lib.join a [47]).length<=21 * a.length:=by
 unfold Lib.join
 induction a with
 | nil=>simp
 | cons x r c =>
  have e:=h x (by simp);have c:=c (fun l d=>h l (by simp [d]))
  cases r with
  | nil=>simp;omega
  | cons y r =>
   simp only [List.intercalate_cons_cons,xr,xF,zG] at c ⊢;omega
theorem pkV (word a g c w) (d:pey w g a) (hw:word.size<=100) (hl:1<=a.length/\a.length<=100) (N:Tabs w) :
 Calls prog 267 #[.string word,.slice (some ⟨g,0,none⟩) a.length c] w (MkN 1152921504606845789 (pfk (bs word) a) w):=by
 have HX:=ah d;clear d;go_in;go_wp2_with fail;obtain ⟨n,A⟩:=az (a.length);rw [<-A] at hl;rw [<-A,ppo w n (by omega)];have X:(w.alloc (.cells (pbh (List.replicate n ⟨#[]⟩)).toArray 9)).heap[w.heap.size]? =some (.cells (pbh (List.replicate n ⟨#[]⟩)).toArray 9 (0,0)):=xi _ _;have Q:=ah X;have R:Uq w (w.alloc (.cells (pbh (List.replicate n ⟨#[]⟩)).toArray 9)):=uR.alloc _;have o:=ah A;clear X A;go_wp2;go_loopw [13] (fun i wr=>∃ (k:Nat) (l:List ByteArray),i=.int .i64 (k:Int)/\k<=n/\Hid (wr.heap[w.heap.size]? =some (.cells (pbh (l ++ List.replicate (n - k) ⟨#[]⟩)).toArray 9 (0,0)))/\Hid (l.map bs=(a.take k).map Lib.itoa)/\Uq w wr) (fun i _=>n - (intOf i).toNat)
 case atStart=>exact ⟨0,[],rfl,xu _,Q.out,rfl,R⟩
 case round =>
  clear Q R;obtain ⟨k,l,rfl,hk,H,t,m⟩:=hrel;have D:l.length=k:=by
   have h1:=xU List.length t.out;have h2:=o.out;simp at h1;omega
  by_cases ad:k<n
  · have G:=HX.out.upd m;have an:k<a.length:=by have:=o.out;omega
    obtain ⟨x,d⟩:∃ x,a[k]? =some x:=⟨_,xd an⟩
    have q1:=G.2.1 k x d;have af:pab x:=G.2.2 x (xt d);have W:a.take (k+1)=a.take k ++ [x]:=by
     rw [xN,d];rfl
    have ai:=ah W;have B:=ah D;clear d W G D;go_wp2_with fail;refine (paA x wr af (N.upd m)).mono ?_;rintro e f ⟨y,HY,hy,rfl,O⟩;have q:f.heap[w.heap.size]? =some (.cells (pbh (l ++ List.replicate (n - k) ⟨#[]⟩)).toArray 9 (0,0)):=by
     have h:=H.out;rw [O.block _ (xq.1 h).1 (by simp)];exact h
    have ac:=m.trans O;have q2:f.cell? ⟨w.heap.size,k,none⟩=some (.string ⟨#[]⟩):=pmf f w.heap.size k _ _ q _ (by
     have:=B.out;rw [xC (by omega),show k - l.length=0 by omega];simp [show 0<n - k by omega])
    have q3:f.frozen? ⟨w.heap.size,k,none⟩=false:=xp f w.heap.size k _ _ q;have C:=xg f w.heap.size k _ _ (.string y) q;have M:(l ++ List.replicate (n - k) (ByteArray.mk #[])).set k y=(l ++ [y]) ++ List.replicate (n - (k+1)) (ByteArray.mk #[]):=by
     have:=B.out;rw [ya _ _ (by omega),show k - l.length=0 by omega,show n - k=(n - (k+1))+1 by omega,yL,xX,xG];rfl
    rw [pjr,M] at C;have am:=ah C;have ab:=ac.setNew (p:=⟨w.heap.size,k,none⟩) (xj _) (.string y);clear q C M;go_wp2_with fail;refine ⟨⟨k+1,l ++ [y],by go_num,by omega,am.out,?_,ab⟩,by simp [intOf];omega⟩;show _=_;rw [ai.out,uK,uK,t.out,zr,zU,HY.out];rfl
  · have E:k=n:=by omega
    have h:=H.out;have u:=t.out;rw [E,yC,zg,yl] at h;rw [E,o.out,yb] at u;have Z:(k:Int)=(n:Int):=by omega
    rw [Z];have P:=ah h;have B:=ah u;have Y:l.length=n:=by omega
    have S:=ah Y;have K:Lib.join (l.map (·.data.toList)) (ByteArray.mk #[47]).data.toList=Lib.join (a.map Lib.itoa) [47]:=by
     have:l.map (·.data.toList)=a.map Lib.itoa:=u;rw [this]
    have HJ:=ah K;have al:(Lib.join (a.map Lib.itoa) [47]).length<=2100:=by
     have h1:=pjs (a.map Lib.itoa) (by
      intro z hz;simp only [zh] at hz;obtain ⟨v,hv,rfl⟩:=hz;exact itoa_len v (HX.out.2.2 v hv))
     have h2:=o.out;rw [yx] at h1;omega
    clear E Z h u Y K ad hk H t D;have ao:word.size+1+2100<=3000:=by omega
    have ap:(ByteArray.mk #[47]).size=1:=rfl;have aa:w.heap.size<wr.heap.size:=(xq.1 P.out).1;go_wp2_with fail;rw [<-S.out];refine (Tryz.strings_Join w.heap.size 0 _ l ⟨#[47]⟩ wr (fun j x d=>by rw [yB];exact pmf wr w.heap.size j l _ P.out x d) aa (by have:=S.out;omega) (by omega) (by rw [HJ.out];omega)).mono ?_;rintro e w3 ⟨rfl,hb⟩;have U:=paE hb;clear hb;rw [HJ.out];obtain ⟨T,J⟩:∃ T:ByteArray,T=⟨(Lib.join (a.map Lib.itoa) [47]).toArray⟩:=⟨_,rfl⟩
    rw [<-J];have F:bs T=Lib.join (a.map Lib.itoa) [47]:=by rw [J,pcM]
    have aq:T.size<=2100:=by rw [paF F];exact al
    have ak:=ah F;clear J F;go_wp2_with fail;refine (pfZ _ w3 (by simp [ByteArray.size_append];omega) (N.upd (m.trans U))).mono ?_;rintro e w4 ⟨r,aj,hr,rfl,ag⟩;go_wp2;go_ret;refine ⟨r,?_,hr,rfl,(m.trans U).trans ag⟩;show _=_;rw [aj.out,pae,pae,ak.out,pfk,pme];rfl
theorem psI {w w'} {g:Nat} {o} (h:w.heap[g]? =some o) (u:Uq w w'):w'.heap[g]? =some o:=by
 rw [u.block _ (xq.1 h).1 (by simp)];exact h
theorem ipE {n:Nat} (h:n<2305843009213691579):pab (n:Int):=⟨by omega,by omega⟩
theorem iqE {n:Nat} (h:n<1152921504606845789):pab (n:Int):=⟨by omega,by omega⟩
theorem pmg (a n:Nat) (m w) (o:a<=9223372036854775807) (g:n<=9223372036854775807) (c:m=2305843009213691579) :
 Calls prog 48 #[a,n,.int .i64 m] w (MkN 2305843009213691579 (pP a n) w):=by
 subst c;refine (phP a 2305843009213691579 n w (by omega) g (by omega)).mono ?_;rintro e j ⟨r,d,p,k,rfl,f⟩;obtain ⟨m,rfl⟩:∃ m:Nat,r=(m:Int):=⟨r.toNat,by omega⟩
 refine ⟨m,?_,by omega,rfl,f⟩;show _=_;have h:=d.out;rw [pcn] at h;rw [pP];omega
theorem pkW (a b:Nat) (w) (k:a<=9223372036854775807) (g:b<=9223372036854775807) :
 Calls prog 47 #[a,b,.int .i64 2305843009213691579] w (fun e w'=>∃ r,Hid (r=a * b % Pn)/\r<2305843009213691579/\e=.returned (.int .i64 (r:Int))/\w=w'):=by
 refine (mul_any a b 2305843009213691579 w (by omega) (by omega) (by omega)).mono ?_;rintro e d ⟨r,c,f,j,rfl,rfl⟩;obtain ⟨m,rfl⟩:∃ m:Nat,r=(m:Int):=⟨r.toNat,by omega⟩
 refine ⟨m,?_,by omega,rfl,rfl⟩;show _=_;have h:((m:Nat):Int)=((a * b % Pn:Nat):Int):=by rw [c.out];simp [Pn]
 omega
theorem psJ (a b:Nat) (w) (k:a<=9223372036854775807) (g:b<=9223372036854775807) :
 Calls prog 47 #[a,b,.int .i64 1152921504606845789] w (fun e w'=>∃ r,Hid (r=a * b % Qn)/\r<1152921504606845789/\e=.returned (.int .i64 (r:Int))/\w=w'):=by
 refine (mul_any a b 1152921504606845789 w (by omega) (by omega) (by omega)).mono ?_;rintro e d ⟨r,c,f,j,rfl,rfl⟩;obtain ⟨m,rfl⟩:∃ m:Nat,r=(m:Int):=⟨r.toNat,by omega⟩
 refine ⟨m,?_,by omega,rfl,rfl⟩;show _=_;have h:((m:Nat):Int)=((a * b % Qn:Nat):Int):=by rw [c.out];simp [Qn]
 omega
structure TwoAt (w:World) (gx gk:Nat) (x k:Nat):Prop where
 hx:w.heap[gx]? =some (.cells #[x] 3 (0,0))
 hk:w.heap[gk]? =some (.cells #[k] 3 (0,0))
theorem ppp (c:Nat) (a:c<1152921504606845789):IntKind.i64.wrap (1152921504606845789 - (c:Int))=((Qn - c:Nat):Int):=by
 have:Qn=1152921504606845789:=rfl;rw [pam (by omega) (by omega)];omega
structure ProofAt (w wp:World) (c z:Int):Prop where
 up:Upd [] [] w wp
 row:wp.heap[w.heap.size]? =some (.cells #[c,z] 46 (0,0))
theorem ProofAt.start (w r s):ProofAt w (w.alloc (.cells #[.int .i64 r,.int .i64 s] 46)) r s:=⟨uR.alloc _,xi _ _⟩
theorem ProofAt.upd {w c a r s} (h:ProofAt w c r s) (u:Uq c a):ProofAt w a r s:=⟨h.up.trans u,psI h.row u⟩
theorem ProofAt.cells {w a r s} (h:ProofAt w a r s):a.cell? ⟨w.heap.size,0,none⟩=some (.int .i64 r)/\a.cell? ⟨w.heap.size,1,none⟩=some (.int .i64 s) :=
 ⟨by rw [xa _ _ _ _ _ _ h.row];rfl,by rw [xa _ _ _ _ _ _ h.row];rfl⟩
theorem ProofAt.free {w a r s} (h:ProofAt w a r s):a.frozen? ⟨w.heap.size,0,none⟩=false/\a.frozen? ⟨w.heap.size,1,none⟩=false :=
 ⟨xp _ _ _ _ _ h.row,xp _ _ _ _ _ h.row⟩
theorem pmh (b a c z:Nat) (f w) (C:b<=9223372036854775807) (A:a<=9223372036854775807) (J:c<1152921504606845789) (O:z<1152921504606845789) (h:ProofAt f w (c:Int) (z:Int)) :
 Calls prog 266 #[b,a,.pointer (some ⟨f.heap.size,0,none⟩)] w (MkN 2305843009213691579 (pnd b a c z) w):=by
 have g:Uq w w.drew:=uR.drew;have y:=h.upd g;have v:=y.cells;have q:=ppp c J;obtain ⟨m,d⟩:=az (Qn - c);have N:m<=1152921504606845789:=by rw [d];exact Nat.sub_le _ _
 rw [<-d] at q;have B:=ah d;clear d;go_in;go_wp2_with fail;go_region_held3 (fun n=>n.cell? ⟨f.heap.size,0,none⟩=some (.int .i64 (c:Int))/\n.cell? ⟨f.heap.size,1,none⟩=some (.int .i64 (z:Int))) (first | exact v | assumption)
  (first
   | (go_at_call 48;((with_reducible refine (pmg b z _ _ C (by omega) rfl).mono ?_);rintro e k ⟨E,u,M,rfl,hq⟩;have o:=g.trans hq;have F:=h.upd o;have H:=F.cells;clear hq))
   | (go_at_call 48;((with_reducible refine (pmg a m _ _ A (by omega) rfl).mono ?_);rintro e k ⟨x,t,K,rfl,hq⟩;have j:=o.trans hq;have D:=h.upd j;have H:=D.cells;clear hq))
   | (go_at_call 47;((with_reducible refine (pkW E x _ (by omega) (by omega)).mono ?_);rintro e k ⟨G,r,p,rfl,rfl⟩)))
 go_wp2;go_ret;refine ⟨G,?_,p,rfl,j⟩;show _=_;rw [r.out,u.out,t.out,B.out,pnd]
theorem pdB (u) (h:u<=9223372036854775808):(Lib.decDigits u).length<=1000000000:=xB (pbY h) (by omega)
theorem pic (u) (h:u<9223372036854775808):(be u).length<=8:=paJ 8 u (zT h (by decide))
theorem pdf (u w a) (c:bs a=be u) (h:u<9223372036854775808):Calls prog 67 #[.string a] w (MkS (Lib.decDigits u) w) :=
 pib a u w (by rw [c,paK]) (by rw [par c];exact xB (pic u h) (by omega)) (pdB u (by omega))
theorem pmi {n:Int} (h:n<=0):n.tdiv 10=-((n.natAbs / 10:Nat):Int)/\n.tmod 10=-((n.natAbs % 10:Nat):Int):=by
 obtain ⟨u,a⟩:∃ u:Nat,n=-(u:Int):=⟨n.natAbs,by omega⟩
 subst a;have e:(-(u:Int)).natAbs=u:=by omega
 rw [Int.neg_tdiv,Int.neg_tmod,xP (by omega),xO (by omega),e];omega
theorem ppq {n} (h:n<=-10):Lib.itoa n=Lib.itoa (n.tdiv 10) ++ Lib.decDigits (n.natAbs % 10):=by
 have h1:n.tdiv 10<0:=by rw [(pmi (by omega)).1];omega
 have a:(n.tdiv 10).natAbs=n.natAbs / 10:=by rw [Int.natAbs_tdiv];rfl
 unfold Lib.itoa;rw [xH (by omega),xH h1,a,Lib.decDigits,dif_neg (by omega),zE (yP _ (by omega))];rfl
theorem peh {n} (h:n<0):Lib.itoa n=[45] ++ Lib.decDigits n.natAbs:=by
 unfold Lib.itoa;rw [xH h];rfl
theorem pbn (u:Nat):Lib.itoa (u:Int)=Lib.decDigits u:=by
 unfold Lib.itoa;rw [yy (by omega),xW]
theorem pjt:∀ k n w,n.natAbs<=k->pab n->Calls prog 198 #[n] w (MkS (Lib.itoa n) w):=by
 intro k
 induction k with
 | zero =>
  intro n w N z;obtain rfl:n=0:=by omega
  go_in;go_wp2_with fail;refine (pbs 0 w (by omega)).mono ?_;rintro e f ⟨a,h,rfl,d⟩;go_wp2_with fail;refine (pdf 0 f a h.out (by omega)).mono ?_;rintro e v ⟨y,g,j,rfl,c⟩;go_wp2;go_ret;exact ⟨y,g.out,j,rfl,d.trans c⟩
 | succ k ih =>
  intro n w N z;have M:=ah ih;clear ih;have W:=z.1;have aa:=z.2;by_cases h0:0<=n
  · obtain ⟨u,rfl⟩:=uo h0;go_in;go_wp2_with fail;refine (pbs u w (by omega)).mono ?_;rintro e f ⟨a,h,rfl,d⟩;go_wp2_with fail;refine (pdf u f a h.out (by omega)).mono ?_;rintro e v ⟨y,g,j,rfl,c⟩;go_wp2;go_ret;refine ⟨y,?_,?_,rfl,d.trans c⟩
    · show _=_;rw [g.out];exact (pbn u).symm
    · have:=pbn u;show _<=(Lib.itoa (u:Int)).length;rw [this];exact j
  · by_cases O:-10<n
    · obtain ⟨u,Q⟩:∃ u:Nat,-n=(u:Int):=⟨n.natAbs,by omega⟩
      have c:u<10:=by omega
      have C:Lib.itoa n=[45] ++ Lib.decDigits u:=by
       have:n.natAbs=u:=by omega
       rw [peh (by omega),this]
      have A:=ah C;have K:n<0:=by omega
      clear C h0;go_in;go_wp2_with fail;refine (pbs u w (by omega)).mono ?_;rintro e f ⟨a,h,rfl,d⟩;go_wp2_with fail;refine (pdf u f a h.out (by omega)).mono ?_;rintro e v ⟨y,g,j,rfl,c⟩;have t:(Lib.decDigits u).length<=1000000000:=pdB u (by omega);have E:y.size<=1000000000:=by omega
      have U:(ByteArray.mk #[45]).size=1:=rfl;clear t;go_wp2;go_ret;refine ⟨_,?_,?_,rfl,d.trans c⟩
      · show _=_;rw [pae,g.out,A.out];rfl
      · rw [A.out,xr,xT];have:(ByteArray.mk #[45]).size=1:=rfl;rw [this];simp only [zw];omega
    · have q:=ppq (n:=n) (by omega);have r:=pmi (n:=n) (by omega);obtain ⟨m,D⟩:=ae (n.tdiv 10);obtain ⟨u,p⟩:=ae (n.natAbs % 10);have Q:-(n.tmod 10)=(u:Int):=by rw [r.2,p];omega
      have c:u<10:=by omega
      rw [D,p] at q;have G:m=-((n.natAbs / 10:Nat):Int):=by rw [<-D];exact r.1
      have o:pab m:=by unfold pab;omega
      have H:m.natAbs<=k:=by omega
      have T:-9223372036854775808<=m:=o.1;have X:m<=9223372036854775807:=o.2;clear r G;have B:=ah q;have K:n<0:=by omega
      have S:n<=-10:=by omega
      have Z:=ah p;have Y:=itoa_len m o;clear q h0 O p;go_in;go_wp2_with fail;refine (M.out m w H o).mono ?_;rintro e P ⟨x,F,R,rfl,J⟩;go_wp2_with fail;refine (pbs u P (by omega)).mono ?_;rintro e f ⟨a,h,rfl,d⟩;go_wp2_with fail;refine (pdf u f a h.out (by omega)).mono ?_;rintro e v ⟨y,g,j,rfl,c⟩;have t:(Lib.decDigits u).length<=1000000000:=pdB u (by omega);have E:y.size<=1000000000:=by omega
      have ab:x.size<=20:=by omega
      clear t;go_wp2;go_ret;refine ⟨_,?_,?_,rfl,J.trans (d.trans c)⟩
      · show _=_;rw [pae,g.out,F.out,B.out]
      · rw [B.out,xr,xT];omega
theorem pcF (n w) (a:pab n):Calls prog 198 #[.int .i64 n] w (MkS (Lib.itoa n) w):=pjt _ n w (xj _) a
end Go.Proofs.YtkhjolbbpdaplaaGreatDoor
