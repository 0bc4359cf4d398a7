/- nat.Text at any number below 2^63 and what follows. -/
import Derived.Test.YtkhjolbbpdaplaaGreatDoorHBF
namespace Go.Proofs.YtkhjolbbpdaplaaGreatDoor
set_option maxHeartbeats 4000000
open Go.RowKit Go.Proofs.Tryz
set_option maxRecDepth 100000
theorem pnz {c a g n} (u:Uq c a) (j:c.heap.size<=g) (d):Uq c (Sort.putRow encStr (Sort.ahead a n) g 0 d):=by
 refine ⟨u.os,u.tape,u.output,?_,fun k f _=>?_,fun _ h=>absurd h (by simp)⟩
 · rw [Sort.size_putRow];exact u.size
 · have e:¬ g=k:=by omega
   show ((Sort.ahead a n).heap.modify g _)[k]? =_;rw [zZ,yy e];exact u.block k f (by simp)
theorem pjS:∀ c,Lib.repeatL [48] c=List.replicate c (48:UInt8):=by
 intro c
 induction c with
 | zero=>rfl
 | succ c ih=>rw [Lib.repeatL,ih,yL];rfl
theorem pnA {y k x} (h:y * 1000000000 ^ k<=x) (h0:0<y) (c:x<9223372036854775808):k<3:=by
 by_cases a:k<3
 · exact a
 · have h1:1000000000 ^ 3<=1000000000 ^ k:=zm (by omega) (by omega);have d:1 * 1000000000 ^ k<=y * 1000000000 ^ k:=uD _ h0;omega
theorem pli {y k x} (h:y * 1000000000 ^ k<=x):y / 1000000000 * 1000000000 ^ (k+1)<=x:=by
 rw [x8,yk (1000000000 ^ k),<-yZ];exact xB (uD _ (Nat.div_mul_le_self y 1000000000)) h
theorem pe9 {y} (h:0<y):0<(dw y).length:=by
 rw [pet h];simp
theorem paU.form2 {w:World} {v:Value} {d:List (List UInt8)} (h:paU w v d):∃ c a,v=.slice c d.length a/\d.length<=a/\a<=9223372036854775807:=by
 obtain ⟨c,a,e,h1,f⟩:=pan h;exact ⟨c,a,e,h1,f⟩
theorem paU.formS {w:World} {v:Value} {d:List (List UInt8)} {x:List UInt8} (h:paU w v (d ++ [x])):∃ c a,v=.slice c (d.length+1) a:=by
 obtain ⟨c,a,e,_⟩:=h.form2;rw [xr] at e;exact ⟨c,a,e⟩
theorem Wd.past {w w' v l S S'} (h:Wd w v l) (u:Upd S S' w w') (k:∀ b,b∈foot v->b ∉ S):Wd w' v l:=by
 obtain ⟨f,e,rfl,h1,g,a⟩:=h;refine ⟨f,e,rfl,h1,g,?_⟩;rcases a with a | ⟨b,rfl,c,n⟩
 · exact .inl a
 · exact .inr ⟨b,rfl,xA c u.size,fun j d m=>(u.cell c (k b (by simp [foot,Value.ownBlock]))).trans (n j d m)⟩
theorem paU.holds {w:World} {v:Value} {a:List (List UInt8)} (h:paU w v a) (h0:0<a.length):∃ g c,v=.slice (some ⟨g,0,none⟩) a.length c/\a.length<=c/\g<w.heap.size/\Sort.Holds encStr w g 0 a.toArray:=by
 have n:w.ownsRow 0 9 1 v a.length (pbD a):=h;obtain ⟨g,c,k,rfl,d,h1,r,q,m⟩:=pca n h0;refine ⟨g,c,rfl,h1,(xq.1 d).1,fun j p=>?_⟩;have f:j<a.length:=by simpa using p
 rw [yB];refine ⟨?_,xp _ _ _ _ _ d⟩;rw [xa _ _ _ _ _ _ d];have e:(k.toList.take (a.length * 1))[j]? =some (strV a[j]):=by
  rw [m,pbD,ys,xd f];rfl
 rw [xR (by omega)] at e;have o:a.toArray[j]! = a[j]:=by simp [f]
 rw [o];simpa [strV] using e
theorem pgY {w g n} {a:List (List UInt8)} (h:Sort.Holds encStr w g 0 a.toArray):∀ j x,(a.reverse.map (fun l=>(⟨l.toArray⟩:ByteArray)))[j]? =some x->(Sort.putRow encStr (Sort.ahead w n) g 0 a.reverse.toArray).cell? ⟨g,0+j,none⟩=some (.string x):=by
 intro j x c;have m:=Sort.holds_putRow encStr (Sort.ahead w n) g 0 a.toArray a.reverse.toArray h (by simp);rw [ys] at c;obtain ⟨l,k,rfl⟩:=yp.1 c;obtain ⟨d,f⟩:=xe.1 k;have e:=(m j (by simpa using d)).1;rw [e];have o:a.reverse.toArray[j]! = l:=by
  rw [getElem!_pos _ j (by simpa using d)];exact f
 rw [o]
theorem pgE (s x) (hs:bs s=be x) (hx:x<9223372036854775808) (w) (aZ:Tabs w):Calls prog 55 #[.string s] w (MkS (Lib.decDigits x) w):=by
 have br:s.size<=8:=by
  rw [<-pac,hs];exact paJ 8 x (xA hx (by decide))
 have hd:=pbr s w (by omega);rw [hs,paK] at hd;have HD:=ah hd;clear hd hs;have bu:=pbY (u:=x) (by omega);go_in;go_wp2_with fail;refine HD.out.mono ?_;rintro e B ⟨v1,J,rfl,aO⟩;obtain ⟨ao,ba,rfl,aE,bk⟩:=J.out.form;have ai:=ah aO;clear HD aO;by_cases h0:x=0
 · subst h0;rw [pbf] at J aE ⊢;have m:Hid (bs (⟨#[48]⟩:ByteArray)=Lib.decDigits 0):=by
    show _=_;rw [zE (by omega)];rfl
   rw [show ([]:List Nat).length=0 from rfl];go_wp2;go_ret;exact ⟨⟨#[48]⟩,m.out,xJ (paF m.out),rfl,ai.out⟩
 obtain ⟨L0,U⟩:=az ((dw x).length);have bC:0<L0:=by rw [U];exact pe9 (by omega)
 have bv:((L0:Int) == 0)=false:=by rw [xm];omega
 have a2:=ah J.out;rw [<-U] at aE ⊢;have bc:Hid (Wd B (.slice ao L0 ba) (dw x)):=by
  show Wd _ _ _;rw [U];exact J.out
 have ab:pis x=Lib.decDigits x:=by unfold pis;rw [yy h0]
 have bd:=ah ab;clear U J a2 ab;go_wp2;go_loopw [3,4,5,6] (fun xv o _ _ wr=>∃ (y k:Nat) (d:List (List UInt8)),k=d.length/\k<=3/\y<=x/\Hid (y * 1000000000 ^ k<=x)/\Hid (Wd wr xv (dw y))/\Hid (pis y ++ d.reverse.flatten=Lib.decDigits x)/\Hid (paU wr o d)/\Hid (Upd [] (foot o) B wr)) (fun _ o _ _ _=>4 - ppb o)
 case atStart=>exact ⟨x,0,[],rfl,xu _,xj _,by show _<=_;simp,bc.out,by show _=_;rw [bd.out];simp,pdN B,Upd.refl _ _⟩
 case round =>
  obtain ⟨y,k,d,aD,bt,bx,HP,P,D,m,N⟩:=hrel;have Q:Uq B wr:=N.out.mono (fun _ h=>h) (fun _ h=>absurd h (by simp));by_cases C:0<y
  · have hk:k<3:=pnA HP.out C hx;have bg:0<(dw y).length:=pe9 C;obtain ⟨bo,a7,rfl,hb1,aa⟩:=P.out.form;obtain ⟨oo,Y,rfl,bm,bq⟩:=m.out.form2;have al:=ah (pjR _ y wr P.out C (by omega));obtain ⟨L,hL⟩:=az ((dw y).length);rw [<-hL] at bg al hb1 ⊢;obtain ⟨r,hr⟩:=az (y % 1000000000);obtain ⟨f,au⟩:=az (y / 1000000000);have ab:r<1000000000:=by omega
    have aF:=ah Q;have aI:Hid (f * 1000000000 ^ (k+1)<=x):=by
     show _<=_;rw [au];exact pli HP.out
    have aV:f<=x:=by omega
    have aM:Hid (∀ b,b∈foot (.slice oo d.length Y)->b<wr.heap.size):=fun b q=>m.out.lt b q;have aj:=ah hr;have G:=ah au;clear hL P Q hr au;go_wp2_with fail;refine al.out.mono ?_;rintro e w2 ⟨v',HV,HF,rfl,hq⟩;rw [<-aj.out];rw [<-G.out] at HV;obtain ⟨co,an,rfl,a0,bw⟩:=HV.out.form;obtain ⟨O,W⟩:=az ((dw f).length);have aP:Hid (Wd w2 (.slice co O an) (dw f)):=by
     show Wd _ _ _;rw [W];exact HV.out
    rw [<-W] at a0 HF ⊢;have av:=ah (aF.out.trans hq);have ag:=ah (m.out.same (fun j p=>hq.block j (m.out.lt j p) (by simp)));have aB:=ah (N.out.trans (hq.widen (K:=foot (.slice oo d.length Y)) (by simp)));have bj:IntKind.i64.wrap (r:Int)=(r:Int):=pam (by omega) (by omega);have aR:=ah W;clear hq m N HV al aF W;go_wp2_with fail;refine (paA (r:Int) w2 (by unfold pab;omega) (aZ.upd (ai.out.trans av.out))).mono ?_;rintro e w3 ⟨t,M,bb,rfl,hq⟩;rw [ppC] at M;have bz:t.size<=9:=by
     rw [paF M.out];exact peL 8 r (by rw [show (10:Nat) ^ (8+1)=1000000000 by decide];exact ab)
    have bp:=ah (av.out.trans hq);have F:=ah (ag.out.same (fun j p=>hq.block j (ag.out.lt j p) (by simp)));have R:=ah (aB.out.trans (hq.widen (K:=foot (.slice oo d.length Y)) (by simp)));have X:=ah (aP.out.upd hq);clear hq bb av ag aB aP;by_cases a1:1000000000<=y
    · have bi:0<O:=by rw [aR.out];exact pe9 (by have:=G.out;omega)
      obtain ⟨c,hc⟩:∃ c,c=9 - t.size:=⟨_,rfl⟩
      have c9:(9:Int) - (t.size:Int)=(c:Int):=by omega
      have wc:IntKind.i64.wrap (c:Int)=(c:Int):=pam (by omega) (by omega);have aQ:=ah hc;have a5:c<=9:=by omega
      clear hc;go_wp2_with fail;refine (Tryz.strings_Repeat ⟨#[48]⟩ c w3 (by omega) (by show 1 * c<=_;omega)).mono ?_;rintro e w4 ⟨rfl,aT⟩;have hq:=paE aT;obtain ⟨Z,hZ⟩:∃ Z:ByteArray,Z=⟨(Lib.repeatL (ByteArray.mk #[48]).data.toList c).toArray⟩:=⟨_,rfl⟩
      rw [<-hZ];have ap:bs Z=List.replicate c 48:=by rw [hZ,pcM];exact pjS c
      have bn:Z.size<=9:=by rw [paF ap,zx];exact a5
      have HG:Hid (bs (Z ++ t)=grp y):=by
       show _=_;rw [ps4 a1,pae,ap,M.out,<-aj.out,aQ.out,paF M.out]
      have aA:=F.out.same (fun j p=>hq.block j (F.out.lt j p) (by simp));obtain ⟨v5,A,E,v,z⟩:=pbE w4 _ d (Z ++ t) aA (by omega);have ad:=ah E;have S:=ah ((R.out.trans (hq.widen (K:=foot (.slice oo d.length Y)) (by simp))).trans z);obtain ⟨po,bf,rfl⟩:=v.formS;have ac:=ah v;have bl:Uq B A:=S.out.mono (fun _ h=>h) (fun _ h=>absurd h (by simp));have af:Hid (Wd A (.slice co O an) (dw f)):=(X.out.upd hq).past z (fun b q aa=>by have h1:=HF.out b q;have h2:=aM.out b aa;omega);have am:Hid (pis f ++ (d ++ [bs (Z ++ t)]).reverse.flatten=Lib.decDigits x):=by
       show _=_;rw [<-D.out,pmu C,<-G.out,HG.out];simp
      clear aT hq hZ ap E v z aA F R X D aQ;go_wp2_with (refine bN ad ?_)
      exact ⟨⟨f,k+1,d ++ [bs (Z ++ t)],by rw [xr,aD];rfl,by omega,by omega,aI.out,af.out,am.out,ac.out,S.out⟩,by simp [ppb];omega⟩
    · have aC:f=0:=by have:=G.out;omega
      have aY:O=0:=by rw [aR.out,aC,pbf];rfl
      have HG:Hid (bs t=grp y):=by
       show _=_;rw [pry (by omega),M.out,<-aj.out]
      obtain ⟨v5,A,E,v,z⟩:=pbE w3 _ d t F.out (by omega);have ad:=ah E;have S:=ah (R.out.trans z);obtain ⟨po,bf,rfl⟩:=v.formS;have ac:=ah v;have af:Hid (Wd A (.slice co O an) (dw f)):=X.out.past z (fun b q aa=>by have h1:=HF.out b q;have h2:=aM.out b aa;omega);have am:Hid (pis f ++ (d ++ [bs t]).reverse.flatten=Lib.decDigits x):=by
       show _=_;rw [<-D.out,pmu C,<-G.out,HG.out];simp
      subst aY;clear E v z F R X D aC;go_wp2_with (refine bN ad ?_)
      exact ⟨⟨f,k+1,d ++ [bs t],by rw [xr,aD];rfl,by omega,aV,aI.out,af.out,am.out,ac.out,S.out⟩,by simp [ppb];omega⟩
  · have aN:y=0:=by omega
    have H:=D.out;rw [aN,show pis 0=[] from rfl,zk] at H;have a9:0<d.length:=by
     cases hG:d with
     | nil =>
      rw [hG] at H;exact absurd H.symm (plF x)
     | cons a r=>simp
    have ax:=P.out;rw [aN,pbf] at ax;obtain ⟨bo,a7,rfl⟩:=ax.none';obtain ⟨g,cp,rfl,a4,bh,hH⟩:=m.out.holds a9;have aK:B.heap.size<=g:=by
     rcases N.out.new g (by simp [foot,Value.ownBlock]) with h | h
     · simp at h
     · exact h
    have aS:=ah (Tryz.slices_Reverse_string g 0 cp d wr hH (by omega));have aL:=ah (fun n=>pgY (n:=n) hH);have ay:=ah (fun n=>pnz (n:=n) Q aK d.reverse.toArray);have aG:Hid (∀ n,g<(Sort.putRow encStr (Sort.ahead wr n) g 0 d.reverse.toArray).heap.size):=fun n=>by rw [Sort.size_putRow];exact bh
    have a6:=ah H;clear hH aK Q N m P D H ax C;go_wp2_with fail;refine aS.out.mono ?_;rintro e A ⟨rfl,n,rfl⟩;have aw:=aL.out n;have aq:=ay.out n;have ar:=aG.out n;obtain ⟨A,aH⟩:=az (Sort.putRow encStr (Sort.ahead wr n) g 0 d.reverse.toArray);rw [<-aH] at aw aq ar ⊢;have ak:Lib.join ((d.reverse.map (fun l=>(⟨l.toArray⟩:ByteArray))).map (·.data.toList)) (⟨#[]⟩:ByteArray).data.toList=Lib.decDigits x:=by
     show Lib.join _ []=_;rw [plD,List.map_map,show (d.reverse.map ((fun b:ByteArray=>b.data.toList) ∘ fun l=>(⟨l.toArray⟩:ByteArray)))=d.reverse by simp [Function.comp_def]];exact a6.out
    have p:=Tryz.strings_Join g 0 cp (d.reverse.map (fun l=>(⟨l.toArray⟩:ByteArray))) ⟨#[]⟩ A aw ar (by simp;omega) (by simpa using a4) (by rw [ak];omega);rw [ak,yx,List.length_reverse] at p;have HJ:=ah p;have a8:=ah aq;clear p ak aw aq ar aH aS aL ay aG;go_wp2_with fail;refine HJ.out.mono ?_;rintro e w6 ⟨rfl,q⟩;have hu:=paE q;obtain ⟨T,hT⟩:∃ T:ByteArray,T=⟨(Lib.decDigits x).toArray⟩:=⟨_,rfl⟩
    rw [<-hT];have aJ:Hid (bs T=Lib.decDigits x):=by show _=_;rw [hT,pcM]
    have a3:=ah (ai.out.trans (a8.out.trans hu));clear q hu hT;go_wp2;go_ret;exact ⟨T,aJ,xJ (paF aJ.out),rfl,a3.out⟩
def wClm:List UInt8:=[99,108,97,105,109]
def pbv (lo hi:Int) (x y:Nat):List UInt8:=Lib.join [wClm,Lib.itoa lo,Lib.itoa hi,Lib.decDigits x,Lib.decDigits y] [32]
theorem phH (a c x y):pbv a c x y=wClm ++ 32 :: (Lib.itoa a ++ 32 :: (Lib.itoa c ++ 32 :: (Lib.decDigits x ++ 32 :: Lib.decDigits y))):=by
 simp [Lib.join,List.intercalate_cons_cons,pbv]
theorem pcv {c a x y} (h1:pab c) (d:pab a) (f:x<=9223372036854775808) (e:y<=9223372036854775808):(pbv c a x y).length<=100:=by
 rw [phH];have:=itoa_len c h1;have:=itoa_len a d;have:=pbY f;have:=pbY e;simp [wClm];omega
def dspG (lo hi:Int) (F A B:ByteArray):Array Value:=#[.int .i64 lo,.int .i64 hi,.string F,.string A,.string B]
theorem pt2 (d c F A B x y) (h1:pab d) (S:pab c) (hF:bs F=be x) (X:bs A=be y) (O:x<9223372036854775808) (Q:y<9223372036854775808) (w) (p:Tabs w):Calls prog 16 #[.agg (dspG d c F A B)] w (MkS (pbv d c x y) w):=by
 obtain ⟨g,hg⟩:=ae (w.heap.size);obtain ⟨G,M⟩:=ae (w.alloc (.cells (dspG d c F A B) 44));have R:=aW hg M;have j:=ah (aU M);have h:Hid (∀ W,Uq G W->W.cell? ⟨g,0,none⟩=some (.int .i64 d)/\W.cell? ⟨g,1,none⟩=some (.int .i64 c)/\W.cell? ⟨g,2,none⟩=some (.string F)/\W.cell? ⟨g,3,none⟩=some (.string A)):=by
  intro W u;have q:=paa R u;exact ⟨xa _ g 0 _ _ _ q,xa _ g 1 _ _ _ q,xa _ g 2 _ _ _ q,xa _ g 3 _ _ _ q⟩
 have E:Uq G G.drew:=uR.drew;have ad:=ah (pcv h1 S (zv O) (zv Q));have N:=ah (xf hF X);clear R hF X;go_in;go_upto_region 1 with (fail)
 refine bH h E fun f=>?_;refine tkS [0,1,3,4,6,7,9,10] f ?_;refine tk1 2 fun K a=>?_;go_simp;refine (paA d _ h1 (p.upd (j.out.trans E))).mono ?_;rintro e ai ⟨m,af,_,rfl,hq⟩;have t:=E.trans hq;clear hq;go_wp2_with fail;refine tkK a (h.out _ t) fun f=>?_;clear a K;refine tk1 5 fun K a=>?_;go_simp;refine (paA c _ S (p.upd (j.out.trans t))).mono ?_;rintro e ag ⟨k,ab,_,rfl,hq⟩;have C:=t.trans hq;clear hq;go_wp2_with fail;refine tkK a (h.out _ C) fun f=>?_;clear a K;refine tk1 8 fun K a=>?_;go_simp;refine (pgE F x N.out.1 O _ (p.upd (j.out.trans C))).mono ?_;rintro e aj ⟨o,aa,_,rfl,hq⟩;have v:=C.trans hq;clear hq;go_wp2_with fail;refine tkK a (h.out _ v) fun f=>?_;clear a K;refine tk1 11 fun K a=>?_;go_simp;refine (pgE A y N.out.2 Q _ (p.upd (j.out.trans v))).mono ?_;rintro e J ⟨n,ac,_,rfl,hq⟩;have D:=v.trans hq;clear hq;go_wp2_with fail;refine tkK a (h.out _ D) fun f=>?_;clear a K;refine tk1 12 fun K a=>?_;go_simp;refine tkK a (h.out _ (D.alloc _)) fun f=>?_;clear a K;refine tkY 13 f ?_;refine tkD ?_;go_wp2_with fail;have z:=pcQ J [⟨#[99,108,97,105,109]⟩,m,k,o,n] 9;have r:Lib.join (([⟨#[99,108,97,105,109]⟩,m,k,o,n]:List ByteArray).map bs) [32]=pbv d c x y:=by
  show Lib.join [_,bs m,bs k,bs o,bs n] [32]=_;rw [af.out,ab.out,aa.out,ac.out];rfl
 have Z:=Tryz.strings_Join J.heap.size 0 5 [⟨#[99,108,97,105,109]⟩,m,k,o,n] ⟨#[32]⟩ _ z.2 z.1 (by simp) (by simp) (by
  show (Lib.join (_) [32]).length<=_;have e:=xU List.length r;exact xB (xJ e) (by have:=ad.out;omega))
 refine Z.mono ?_;rintro e w9 ⟨rfl,P⟩;have Y:=paE P;obtain ⟨T,H⟩:∃ T:ByteArray,T=⟨(Lib.join (([⟨#[99,108,97,105,109]⟩,m,k,o,n]:List ByteArray).map (·.data.toList)) (⟨#[32]⟩:ByteArray).data.toList).toArray⟩:=⟨_,rfl⟩
 rw [<-H];have U:Hid (bs T=pbv d c x y):=by
  show _=_;rw [H,pcM];exact r
 have HU:=ah ((j.out.trans (D.alloc _)).trans Y);clear Z z r P Y H;go_wp2;go_ret;exact ⟨T,U,by rw [<-U.out,pac];exact xj _,rfl,HU.out⟩
theorem pgF (h f F A B x y) (h1:pab h) (p:pab f) (hF:bs F=be x) (H:bs A=be y) (X:x<9223372036854775808) (Y:y<9223372036854775808) (w):Calls prog 31 #[.agg (dspG h f F A B)] w (MkS (pbv h f x y) w):=by
 obtain ⟨g,Z⟩:=ae (w.heap.size);obtain ⟨n,r⟩:=ae (w.alloc (.cells (dspG h f F A B) 44));have G:=aW Z r;have M:=ah (aU r);have m:Hid (∀ W,Uq n W->W.cell? ⟨g,0,none⟩=some (.int .i64 h)/\W.cell? ⟨g,1,none⟩=some (.int .i64 f)/\W.cell? ⟨g,2,none⟩=some (.string F)/\W.cell? ⟨g,3,none⟩=some (.string A)):=by
  intro W u;have q:=paa G u;exact ⟨xa _ g 0 _ _ _ q,xa _ g 1 _ _ _ q,xa _ g 2 _ _ _ q,xa _ g 3 _ _ _ q⟩
 have z:Uq n n.drew:=uR.drew;have ag:=ah (pcv h1 p (zv X) (zv Y));have t:=ah (xf hF H);clear G hF H;go_in;go_upto_region 1 with (fail)
 refine bH m z fun c=>?_;refine tkS [0,1,5,6,10,11,15,16] c ?_;refine tk1 2 fun K a=>?_;go_simp;refine (paB h _ h1).mono ?_;rintro e ao ⟨d,Q,U,rfl,hq⟩;have v:=z.trans hq;clear hq;have ac:d.size<=20:=(by have:=itoa_len h h1;omega);clear U;have al:¬ 9223372036854775807<6+d.size:=(by omega);have aq:¬ 9223372036854775807<6+d.size+1:=(by omega);go_wp2_with fail;refine tkK a (m.out _ v) fun c=>?_;clear a K;refine tkS [3,4] c ?_;refine tk1 7 fun K a=>?_;go_simp;refine (paB f _ p).mono ?_;rintro e am ⟨j,O,T,rfl,hq⟩;have D:=v.trans hq;clear hq;have an:j.size<=20:=(by have:=itoa_len f p;omega);clear T;have aj:¬ 9223372036854775807<6+d.size+1+j.size:=(by omega);have aa:¬ 9223372036854775807<6+d.size+1+j.size+1:=(by omega);go_wp2_with fail;refine tkK a (m.out _ D) fun c=>?_;clear a K;refine tkS [8,9] c ?_;refine tk1 12 fun K a=>?_;go_simp;refine (pfL x _ F t.out.1 (by omega)).mono ?_;rintro e af ⟨k,N,S,rfl,hq⟩;have C:=D.trans hq;clear hq;have ap:k.size<=20:=(by have:=pbY (u:=x) (by omega);omega);clear S;have ak:¬ 9223372036854775807<6+d.size+1+j.size+1+k.size:=(by omega);have ar:¬ 9223372036854775807<6+d.size+1+j.size+1+k.size+1:=(by omega);go_wp2_with fail;refine tkK a (m.out _ C) fun c=>?_;clear a K;refine tkS [13,14] c ?_;refine tk1 17 fun K a=>?_;go_simp;refine (pfL y _ A t.out.2 (by omega)).mono ?_;rintro e ad ⟨o,P,R,rfl,hq⟩;have E:=C.trans hq;clear hq;have ab:o.size<=20:=(by have:=pbY (u:=y) (by omega);omega);clear R;have ai:¬ 9223372036854775807<6+d.size+1+j.size+1+k.size+1+o.size:=(by omega);go_wp2_with fail;refine tkK a (m.out _ E) fun c=>?_;clear a K;refine tkS [18,19] c ?_;refine tkD ?_;go_wp2;go_ret;have J:bs (ByteArray.mk #[99,108,97,105,109,32] ++ d ++ ByteArray.mk #[32] ++ j ++ ByteArray.mk #[32] ++ k ++ ByteArray.mk #[32] ++ o)=pbv h f x y:=by
  rw [phH];simp only [pae,Q.out,O.out,N.out,P.out,show bs (ByteArray.mk #[32])=[32] from rfl,show bs (ByteArray.mk #[99,108,97,105,109,32])=wClm ++ [32] from rfl];simp
 exact ⟨_,J,xJ (paF J),rfl,M.out.trans E⟩
section
variable {M : Array Value} {aw ar as' bw br bs' low high id pub : Int} {aT bT F A B : ByteArray}
theorem plj (h:MtIs M aw aT ar as' bw bT br bs' low high F A B id pub) (ht:aT.size<=900000) (ac:bT.size<=900000) (w) (v:Tabs w) :
 Calls prog 96 #[.agg M] w (pdH (fun b=>b=true ↔ (∃ a,pcK (bs aT) a)/\∃ a,pcK (bs bT) a) w):=by
 obtain ⟨g,hg⟩:=ae (w.heap.size);obtain ⟨q,D⟩:=ae (w.alloc (.cells M 105));have O:=ah (aW hg D);have j:=ah (aU D);have X:Hid (∀ W,Uq q W->W.cell? ⟨g,9,none⟩=some (.string aT)/\W.cell? ⟨g,13,none⟩=some (.string bT)):=fun W u=>⟨(xa _ g 9 _ _ _ (paa O.out u)).trans h.a1,(xa _ g 13 _ _ _ (paa O.out u)).trans h.b1⟩
 have Y:=ah (fun W (u:Uq w W)=>pd1 bT ac W (v.upd u));have Z:=ah (pd1 aT ht q (v.upd j.out));obtain ⟨Q,S⟩:=X.out q uR;clear h;go_in;go_wp2_with fail;refine Z.out.mono ?_;rintro e H ⟨P,N,o,HR,rfl,hq⟩;obtain ⟨K,p,t,R2,C⟩:=paz H 71 evZ.toArray P;rw [<-paH] at p t;obtain ⟨gE,G⟩:=ae (H.heap.size);rw [G] at p t R2;have n:=ah (hq.trans C);have ab:Hid ((zZ0:Array Value).size=P.size):=by show _=_;rw [paH];exact o.out.2.2
 obtain ⟨Q,S⟩:=X.out K n.out;clear hq C Z;go_wp2_with (refine bS p o.out.1 ab o.out.2.1 t ?_)
 refine (Y.out K (j.out.trans n.out)).mono ?_;rintro e T ⟨R,U,d,ad,rfl,hq⟩;obtain ⟨w4,k,m,R4,x⟩:=paz T 71 evZ.toArray R;rw [<-paH] at k m;obtain ⟨gF,aa⟩:=ae (T.heap.size);rw [aa] at k m R4;have J:=ah ((n.out.trans hq).trans x);have y:Hid ((zZ0:Array Value).size=R.size):=by show _=_;rw [paH];exact d.out.2.2
 have E:Hid (N=true ↔ ∃ a,pcK (bs aT) a):=by
  show _ ↔ _;rcases HR.out with ⟨h,a,c,_⟩ | ⟨h,r⟩
  · exact ⟨fun _=>⟨a,c⟩,fun _=>h⟩
  · exact ⟨(fun f=>by rw [h] at f;cases f),fun ⟨a,c⟩=>absurd c (r a)⟩
 have z:Hid (U=true ↔ ∃ a,pcK (bs bT) a):=by
  show _ ↔ _;rcases ad.out with ⟨h,a,c,_⟩ | ⟨h,r⟩
  · exact ⟨fun _=>⟨a,c⟩,fun _=>h⟩
  · exact ⟨(fun f=>by rw [h] at f;cases f),fun ⟨a,c⟩=>absurd c (r a)⟩
 clear hq x Y Q S G
 cases N with
 | false =>
  go_wp2_with (refine bS k d.out.1 y d.out.2.1 m ?_)
  go_ret;exact ⟨false,⟨(fun h=>by cases h),fun h=>E.out.2 h.1⟩,rfl,j.out.trans J.out⟩
 | true =>
  go_wp2_with (refine bS k d.out.1 y d.out.2.1 m ?_)
  go_ret;exact ⟨U,⟨(fun h=>⟨E.out.1 (by trivial),z.out.1 h⟩),fun h=>z.out.2 h.2⟩,rfl,j.out.trans J.out⟩
end
def MkCP (s p:ByteArray) (w:World) (e:Ending) (w':World):Prop:=∃ (r:ByteArray) (b:Bool),Hid ((b=true/\bs s=bs p ++ bs r)\/(b=false/\∀ t,bs s≠bs p ++ t))/\r.size<=s.size/\e=.returned (.tuple #[.string r,.bool b])/\w'=w
theorem pnB (s p w) (_hs:s.size<=1000000000) (v:p.size<=1000000):Calls prog 216 #[.string s,.string p] w (MkCP s p w):=by
 have j:Calls prog 262 #[.string s,.string p] w (MkCP s p w):=by
  have a:=ah (Tryz.stringslite_HasPrefix s p w);obtain ⟨q,hq⟩:=ae (Lib.hasPrefix s.data.toList p.data.toList);rw [hq] at a;have g:=ah hq;clear hq
  cases q with
  | false =>
   go_in;go_wp2_with (go_at_fn 239)
   refine a.out.mono ?_;rintro e f ⟨rfl,rfl⟩;go_wp2;go_ret2;refine ⟨s,false,.inr ⟨rfl,fun t h=>?_⟩,xj _,rfl,rfl⟩;have e:(bs p).isPrefixOf (bs s)=false:=g.out;rw [h] at e;rw [List.isPrefixOf_iff_prefix.2 ⟨t,rfl⟩] at e
   cases e
  | true =>
   have k:bs p <+: bs s:=List.isPrefixOf_iff_prefix.1 g.out;obtain ⟨t,d⟩:=k;have z:p.size<=s.size:=by
    have:=xU List.length d;rw [xr,pac,pac] at this;omega
   have c:=ah d;have y:(p.size:Int)<=(s.size:Int):=by omega
   have x:¬ (s.size:Int)<(p.size:Int):=by omega
   clear d;go_in;go_wp2_with (go_at_fn 239)
   refine a.out.mono ?_;rintro e f ⟨rfl,rfl⟩;go_wp2;go_ret2;have m:bs (s.extract p.size s.size)=t:=by
    have n:(bs s).length - (bs p).length=t.length:=by rw [<-c.out,xr];omega
    rw [pbc,<-pac p,<-pac s,n,<-c.out,List.drop_left,yb]
   exact ⟨_,true,.inl ⟨rfl,by rw [m];exact c.out.symm⟩,by rw [zH];omega,rfl,rfl⟩
 go_in;go_wp2_with (go_at_fn 262)
 refine j.mono ?_;rintro e f ⟨r,b,u,o,rfl,rfl⟩;clear j;go_wp2;go_ret2;exact ⟨r,b,u,o,rfl,rfl⟩
def wDlg:List UInt8:=[100,101,97,108,105,110,103,32]
def pfu (l:List UInt8) (ep:Int) (d:DlI):Prop:=pab ep/\∃ t,l=wDlg ++ (Lib.itoa ep ++ 32 :: t)/\IsDl t d
theorem pdj {P m q p o a} (h:m.results=#[.tmp q,.cell p a,.tmp o]) (f w g t c j d)
 (x:f.getD p undef=.pointer (some ⟨g,0,none⟩)) (r:w.heap[g]? =some (.cells c t j)) (u:P.underlying a=some d) (z:d.isRow=true) (k:(P.info? a).map (·.size)=some c.size) :
 (results m f).run P w=.ok (.tuple #[f.getD q undef,.agg c,f.getD o undef]) w:=by
 have y:(loadVar a ⟨g,0,none⟩).run P w=.ok (.agg c) w:=by
  cases d with
  | struct fs=>exact zu w g t a c j _ r u rfl k
  | array n e=>exact zu w g t a c j _ r u rfl k
  | _=>cases z
 have v:f[p]?.getD undef=.pointer (some ⟨g,0,none⟩):=by rw [<-x];simp
 simp only [results,h];simp [Result.andThen,v,asAddr,y]
def pt3 (l:List UInt8) (w:World) (e:Ending) (w':World):Prop :=
 ∃ (ep:Int) (cv bv:Value) (d:DlI) (ok:Bool),Hid ((ok=true/\pfu l ep d/\d.fit)\/(ok=false/\∀ ep d,¬ pfu l ep d))/\Hid (RdI w' cv d.coms/\RdS w' bv d.boxes)/\e=.returned (.tuple #[ep,.agg #[cv,d.point,bv],.bool ok])/\Upd [] [] w w'
theorem dgNo {l w W} (a:∀ ep d,¬ pfu l ep d) (u:Uq w W):pt3 l w (.returned (.tuple #[.int .i64 0,.agg dlZ,.bool false])) W :=
 ⟨0,_,_,⟨[],0,[]⟩,false,.inr ⟨rfl,a⟩,⟨RdI.nil _,RdS.nil _⟩,rfl,u⟩
theorem RdI.same {w w' v l} (h:RdI w v l) (j:∀ x,x∈foot v->w'.heap[x]? =w.heap[x]?):RdI w' v l:=by
 obtain ⟨d,c,rfl,h1,n,o⟩:=h;refine ⟨d,c,rfl,h1,n,fun k x m=>?_⟩;obtain ⟨g,rfl,f,p⟩:=o k x m;have e:=j g (by simp [foot,Value.ownBlock]);exact ⟨g,rfl,paf (e.trans (yv f)),by rw [yd (a:=⟨g,k,none⟩) e];exact p⟩
theorem RdS.same {w w' v l} (h:RdS w v l) (j:∀ x,x∈foot v->w'.heap[x]? =w.heap[x]?):RdS w' v l:=by
 obtain ⟨d,c,rfl,h1,n,o⟩:=h;refine ⟨d,c,rfl,h1,n,fun k x m=>?_⟩;obtain ⟨g,rfl,f,p⟩:=o k x m;have e:=j g (by simp [foot,Value.ownBlock]);exact ⟨g,rfl,paf (e.trans (yv f)),by rw [yd (a:=⟨g,k,none⟩) e];exact p⟩
theorem pqf {W g a} (c:(prog.info? 142).map (·.size)=some a.size) (h:W.heap[g]? =some (.cells a 142 (0,0))):(Instr.loadAt 142 (.pointer (some ⟨g,0,none⟩))).run prog W=.ok (.agg a) W :=
 xL W g 0 142 a.toList _ (pb5 (by simp) h) underlying142 rfl (by rw [uQ];exact c)
theorem pgG (T) (hT:T.size<=900000) (w) (R:Tabs w):Calls prog 169 #[.string T] w (pt3 (bs T) w):=by
 obtain ⟨gR,W⟩:=ae (w.heap.size);obtain ⟨w1,X⟩:=ae (w.alloc (.cells #[.slice none 0 0,.int .i64 0,.slice none 0 0] 142));obtain ⟨g,m⟩:=az (dlZ);have s1:=ah (show w1.heap[gR]? =some (.cells g 142 (0,0)) by rw [m,<-W,<-X];exact xi _ _);have u1:=ah (aU X);have P:Hid (w.heap.size<=gR):=xJ W;have H:=ah m;have Z:Hid (prog.built 142 []=some g):=by rw [m];exact pmr
 have o:Fi 142 g:=by rw [m];exact pbB _ _ _
 have aa:Fo g:=by rw [m];show _=_;simp [dlZ,Value.oneCell']
 have ag:=ah (pnB T ⟨#[100,101,97,108,105,110,103,32]⟩ w1 (by omega) (by show 8<=_;omega));have ax:=ah hT;clear m hT;go_in;go_wp2_with fail;refine ag.out.mono ?_;rintro e w2 ⟨r,b,N,hr,rfl,rfl⟩;clear ag X W
 cases b with
 | false =>
  have y:Hid (∀ ep d,¬ pfu (bs T) ep d):=fun ep d h=>by
   obtain ⟨_,t,e,_⟩:=h;rcases N.out with ⟨h1,_⟩ | ⟨_,Q⟩
   · cases h1
   · exact Q _ e
  clear hr N;go_wp2_with (first | (refine bB Z ?_) | (refine bV s1 o rfl aa ?_))
  refine xI (pdj rfl _ _ gR _ g _ _ rfl (xz _ _ _ _ _ _ s1.out) underlying142 rfl o.out) rfl ?_;rw [H.out];exact dgNo y.out (u1.out.setRowNew P.out _)
 | true =>
  have J:Hid (bs T=wDlg ++ bs r):=by
   rcases N.out with ⟨_,h⟩ | ⟨h,_⟩
   · exact h
   · cases h
  have an:Hid (r.size<=900000):=by have:=ax.out;show _<=_;omega
  have aj:=ah (pc7 r 32 w2 (by have:=an.out;omega) (R.upd u1.out));clear hr N;go_wp2_with fail;refine aj.out.mono ?_;rintro e w3 ⟨l,G,q,am,af,HQ,hl,au,rfl,hq⟩;have U3:=ah (u1.out.trans hq);have S3:=ah (paa s1.out hq);have al:Hid (l.size<=1000000/\G.size<=1000000):=by have:=an.out;exact ⟨by omega,by omega⟩
  clear hq aj hl au
  cases q with
  | false =>
   have y:Hid (∀ ep d,¬ pfu (bs T) ep d):=fun ep d h=>by
    obtain ⟨_,t,e,_⟩:=h;rw [J.out] at e;have c:=HQ.out;rw [un e,pbH 32 _ _ (itoa_no32 _)] at c
    cases c
   go_wp2_with (first | (refine bB Z ?_) | (refine bV S3 o rfl aa ?_))
   refine xI (pdj rfl _ _ gR _ g _ _ rfl (xz _ _ _ _ _ _ S3.out) underlying142 rfl o.out) rfl ?_;rw [H.out];exact dgNo y.out (U3.out.setRowNew P.out _)
  | true =>
   have U:Hid (Lib.cut (bs r) [32]=(bs l,bs G,true)):=Prod.ext am.out.symm (Prod.ext af.out.symm HQ.out.symm);have ab:=ah (pfG l w3 (by have:=al.out;omega) (R.upd U3.out));clear am af HQ;go_wp2_with fail;refine ab.out.mono ?_;rintro e w4 ⟨ep,ok,Y,ai,rfl,hq⟩;have U4:=ah (U3.out.trans hq);have D:=ah (paa S3.out hq);have ay:=ah ai;clear hq ab ai
   cases ok with
   | false =>
    have y:Hid (∀ ep d,¬ pfu (bs T) ep d):=fun n d h=>by
     obtain ⟨Q,t,e,_⟩:=h;rw [J.out] at e;have c:=U.out;rw [un e,pbH 32 _ _ (itoa_no32 _)] at c;injection c with c _;exact Y.out.2.2 rfl ⟨n,Q,c.symm⟩
    go_wp2_with (first | (refine bB Z ?_) | (refine bV D o rfl aa ?_))
    refine xI (pdj rfl _ _ gR _ g _ _ rfl (xz _ _ _ _ _ _ D.out) underlying142 rfl o.out) rfl ?_;rw [H.out];exact dgNo y.out (U4.out.setRowNew P.out _)
   | true =>
    have aA:Hid (bs l=Lib.itoa ep):=Y.out.2.1 rfl;have ac:=ah (pjO G al.out.2 w4 (R.upd U4.out));clear Y;go_wp2_with fail;refine ac.out.mono ?_;rintro e w5 ⟨F,C,d,ok,ak,A,ao,rfl,hq⟩;obtain ⟨f,j⟩:∃ f:Array Value,f=#[F,.int .i64 d.point,C]:=⟨_,rfl⟩
    rw [<-j];have aC:=ah j;have v:Fi 142 f:=by rw [j];exact pbB _ _ _
    obtain ⟨a1,n1,k1,e1⟩:∃ a n k,F=.slice a n k:=by obtain ⟨a,k,e,_⟩:=A.out.1;exact ⟨a,_,k,e⟩
    obtain ⟨a2,n2,k2,c⟩:∃ a n k,C=.slice a n k:=by obtain ⟨a,k,e,_⟩:=A.out.2;exact ⟨a,_,k,e⟩
    have ad:Fo f:=by rw [j,e1,c];show _=_;simp [Value.oneCell']
    have av:Hid ((#[.slice none 0 0,.int .i64 0,.slice none 0 0]:Array Value).size=f.size):=by rw [j];rfl
    obtain ⟨O,Z6,W6,R6,B⟩:=paz w5 142 #[.slice none 0 0,.int .i64 0,.slice none 0 0] f;obtain ⟨gX,aw⟩:=ae (w5.heap.size);rw [aw] at Z6 W6 R6;have U6:=ah ((U4.out.trans hq).trans B);have S6:=ah (paa (paa D.out hq) B);have z:Uq O O.drew:=uR.drew;have RX:=ah (paa R6.out z);have RR:=ah (paa S6.out z);have aq:=ah (U6.out.trans z);obtain ⟨E,p⟩:=ae (O.drew.setRow gR f);have RF:=bX p RR;have aE:Fr E gX f 142:=by
     show _=_;rw [<-p];exact pal RX.out (by have:=paf (paa D.out hq);omega) _
    have UF:Hid (Uq w E):=by show Upd _ _ _ _;rw [<-p];exact aq.out.setRowNew P.out _
    have ar:Hid (g.size=f.size):=by show _=_;rw [H.out,j];rfl
    have aD:Hid (RdI E F d.coms/\RdS E C d.boxes):=by
     have M:∀ x,x∈foot F\/x∈foot C->E.heap[x]? =O.drew.heap[x]?:=fun x M=>by
      have h1:=ao.out x M;have h2:=paf D.out;rw [<-p];unfold World.setRow;rw [zZ,yy (by omega)]
     exact ⟨((A.out.1.upd B).upd z).same (fun x h=>M x (.inl h)),((A.out.2.upd B).upd z).same (fun x h=>M x (.inr h))⟩
    have aF:=ah p;have ap:Hid ((ok=true/\pfu (bs T) ep d/\d.fit)\/(ok=false/\∀ ep d,¬ pfu (bs T) ep d)):=by
     have e0:bs r=Lib.itoa ep ++ 32 :: bs G:=by rw [ph1 U.out,aA.out]
     rcases ak.out with ⟨h,hp,hf⟩ | ⟨h,hp,_⟩
     · exact .inl ⟨h,⟨ay.out,bs G,by rw [J.out,e0],hp⟩,hf⟩
     · refine .inr ⟨h,fun n d' hd=>?_⟩;obtain ⟨Q,t,e,ht⟩:=hd;rw [J.out] at e;have c:=U.out;rw [un e,pbH 32 _ _ (itoa_no32 _)] at c;injection c with _ c;injection c with c _;exact hp d' (c ▸ ht)
    clear hq B ac j p e1 c ak A ao;go_upto_region 11 with (first | (refine bS Z6 v av ad W6 ?_))
    refine bG (S:=fun wp=>(Instr.loadAt 142 (.pointer (some ⟨gX,0,none⟩))).run prog wp=.ok (.agg f) wp) (pqf v.out RX.out) fun u=>?_;refine tkY 0 u ?_;refine tkL 1 u f (fun w aB=>aB) ?_;refine tkS [2,3] u ?_;refine tk1 4 fun K hK=>?_;rw [xH (by rfl)];refine bR RR v ar ad ?_;rw [aF.out];refine tkK hK (pqf v.out aE.out) fun u=>?_;clear hK K;refine tkY 5 u ?_;refine tkD ?_;go_wp2_with fail;refine xI (pdj rfl _ _ gR _ f _ _ rfl RF.out underlying142 rfl v.out) rfl ?_;rw [aC.out];exact ⟨ep,F,C,d,ok,ap,aD,rfl,UF.out⟩
section
variable {M : Array Value} {aw ar as' bw br bs' low high id pub : Int} {aT bT F A B : ByteArray}
theorem pjT (h:MtIs M aw aT ar as' bw bT br bs' low high F A B id pub) (ht:aT.size<=900000) (aj:bT.size<=900000) (af:∃ a,pcK (bs aT) a) (ai:∃ a,pcK (bs bT) a) (w) (aa:Tabs w) :
 Calls prog 97 #[.agg M] w (pdH (fun b=>∃ x y,pcK (bs aT) x/\pcK (bs bT) y/\b=(decide (x.n=y.n) && decide (x.x≠y.x))) w):=by
 obtain ⟨g,hg⟩:=ae (w.heap.size);obtain ⟨w0,ab⟩:=ae (w.alloc (.cells M 105));have r0:=ah (aW hg ab);have H:=ah (aU ab);have HK:Hid (∀ W,Uq w0 W->W.cell? ⟨g,9,none⟩=some (.string aT)/\W.cell? ⟨g,13,none⟩=some (.string bT)):=fun W u=>⟨(xa _ g 9 _ _ _ (paa r0.out u)).trans h.a1,(xa _ g 13 _ _ _ (paa r0.out u)).trans h.b1⟩
 have HB:=ah (fun W (u:Uq w W)=>pd1 bT aj W (aa.upd u));have HA:=ah (pd1 aT ht w0 (aa.upd H.out));obtain ⟨c1,c2⟩:=HK.out w0 uR;have ak:=ah af;have al:=ah ai;clear h af ai;go_in;go_wp2_with fail;refine HA.out.mono ?_;rintro e w1 ⟨J,b1,Y,HR,rfl,hq⟩;obtain ⟨a,t⟩:∃ a,Hid (pcK (bs aT) a/\J=a.V.toArray):=by
  rcases HR.out with ⟨_,a,f,he⟩ | ⟨_,c⟩
  · exact ⟨a,f,he⟩
  · obtain ⟨a,f⟩:=ak.out;exact absurd f (c a)
 obtain ⟨j,P⟩:=az (a.n);obtain ⟨o,Q⟩:=az (a.x);have ao:Hid (J[4]? =some (.int .i64 j)):=by show _=_;rw [t.out.2,P];rfl
 have au:Hid (J[5]? =some (.string o)):=by show _=_;rw [t.out.2,Q];rfl
 have p:=ah (xf P Q);obtain ⟨w2,Z2,W2,R2,ag⟩:=paz w1 71 evZ.toArray J;rw [<-paH] at Z2 W2;obtain ⟨gE,ad⟩:=ae (w1.heap.size);rw [ad] at Z2 W2 R2;have V2:=ah (hq.trans ag);have aq:Hid ((zZ0:Array Value).size=J.size):=by show _=_;rw [paH];exact Y.out.2.2
 obtain ⟨c1,c2⟩:=HK.out w2 V2.out;clear hq ag HA P Q;go_wp2_with (refine bS Z2 Y.out.1 aq Y.out.2.1 W2 ?_)
 refine (HB.out w2 (H.out.trans V2.out)).mono ?_;rintro e w3 ⟨C,b2,d,ac,rfl,hq⟩;obtain ⟨z,q⟩:∃ a,Hid (pcK (bs bT) a/\C=a.V.toArray):=by
  rcases ac.out with ⟨_,a,f,he⟩ | ⟨_,c⟩
  · exact ⟨a,f,he⟩
  · obtain ⟨a,f⟩:=al.out;exact absurd f (c a)
 obtain ⟨m,T⟩:=az (z.n);obtain ⟨k,R⟩:=az (z.x);have an:Hid (C[4]? =some (.int .i64 m)):=by show _=_;rw [q.out.2,T];rfl
 have am:Hid (C[5]? =some (.string k)):=by show _=_;rw [q.out.2,R];rfl
 have r:=ah (xf T R);obtain ⟨O,E,G,X,K⟩:=paz w3 71 evZ.toArray C;rw [<-paH] at E G;obtain ⟨gF,ap⟩:=ae (w3.heap.size);rw [ap] at E G X;have U:=ah ((V2.out.trans hq).trans K);have e4:O.cell? ⟨gE,4,none⟩=some (.int .i64 j):=(xa _ gE 4 _ _ _ (paa R2.out (hq.trans K))).trans ao.out;have e5:O.cell? ⟨gE,5,none⟩=some (.string o):=(xa _ gE 5 _ _ _ (paa R2.out (hq.trans K))).trans au.out;have f4:O.cell? ⟨gF,4,none⟩=some (.int .i64 m):=(xa _ gF 4 _ _ _ X.out).trans an.out;have f5:O.cell? ⟨gF,5,none⟩=some (.string k):=(xa _ gF 5 _ _ _ X.out).trans am.out;have S:Hid ((zZ0:Array Value).size=C.size):=by show _=_;rw [paH];exact d.out.2.2
 clear hq K HB c1 c2 ad T R HR ac;by_cases c:j=m
 · by_cases N:o=k
   · have D:decide (j=m)=true:=yG c;have Z:decide (o≠k)=false:=yw (fun h=>h N);have v:Hid (∃ x y,pcK (bs aT) x/\pcK (bs bT) y/\false=(decide (x.n=y.n) && decide (x.x≠y.x))):=⟨a,z,t.out.1,q.out.1,by rw [<-p.out.1,<-r.out.1,<-p.out.2,<-r.out.2,D,Z];rfl⟩
     subst c N;go_wp2_with (refine bS E d.out.1 S d.out.2.1 G ?_)
     go_ret;exact ⟨false,v.out,rfl,H.out.trans U.out⟩
   · have D:decide (j=m)=true:=yG c;have g3:(o.toList == k.toList)=false:=by rw [<-yK];exact fun h=>N (paT (pbM.1 h))
     have Z:decide (o≠k)=true:=yG N;have v:Hid (∃ x y,pcK (bs aT) x/\pcK (bs bT) y/\true=(decide (x.n=y.n) && decide (x.x≠y.x))):=⟨a,z,t.out.1,q.out.1,by rw [<-p.out.1,<-r.out.1,<-p.out.2,<-r.out.2,D,Z];rfl⟩
     subst c;go_wp2_with (refine bS E d.out.1 S d.out.2.1 G ?_)
     go_ret;exact ⟨true,v.out,rfl,H.out.trans U.out⟩
 · have D:decide (j=m)=false:=yw c;have v:Hid (∃ x y,pcK (bs aT) x/\pcK (bs bT) y/\false=(decide (x.n=y.n) && decide (x.x≠y.x))):=⟨a,z,t.out.1,q.out.1,by rw [<-p.out.1,<-r.out.1,D];rfl⟩
   go_wp2_with (refine bS E d.out.1 S d.out.2.1 G ?_)
   go_ret;exact ⟨false,v.out,rfl,H.out.trans U.out⟩
end
section
variable {M : Array Value} {aw ar as' bw br bs' low high id pub : Int} {aT bT F A B : ByteArray}
theorem pgH (h:MtIs M aw aT ar as' bw bT br bs' low high F A B id pub) (Q:aT.size<=900000) (w) (G:Tabs w) :
 Calls prog 98 #[.agg M] w (pdH (fun b=>b=true ↔ ∃ ep d,pfu (bs aT) ep d) w):=by
 obtain ⟨g,W⟩:=ae (w.heap.size);obtain ⟨T,o⟩:=ae (w.alloc (.cells M 105));have R:=ah (aW W o);have t:=ah (aU o);have U:=(xa _ g 9 _ _ _ R.out).trans h.a1;have C:=ah (pgG aT Q T (G.upd t.out));clear h;go_in;go_wp2_with fail;refine C.out.mono ?_;rintro e q ⟨ep,y,D,d,ok,P,m,rfl,hq⟩;obtain ⟨c,f⟩:∃ c:Array Value,c=#[y,.int .i64 d.point,D]:=⟨_,rfl⟩
 rw [<-f];have H:Fi 142 c:=by rw [f];exact pbB _ _ _
 obtain ⟨a1,n1,X,r⟩:∃ a n k,y=.slice a n k:=by obtain ⟨a,k,e,_⟩:=m.out.1;exact ⟨a,_,k,e⟩
 obtain ⟨a2,Z,Y,x⟩:∃ a n k,D=.slice a n k:=by obtain ⟨a,k,e,_⟩:=m.out.2;exact ⟨a,_,k,e⟩
 have N:Fo c:=by rw [f,r,x];show _=_;simp [Value.oneCell']
 have J:Hid ((#[.slice none 0 0,.int .i64 0,.slice none 0 0]:Array Value).size=c.size):=by rw [f];rfl
 obtain ⟨w6,E,z,v,p⟩:=paz q 142 #[.slice none 0 0,.int .i64 0,.slice none 0 0] c;obtain ⟨gX,K⟩:=ae (q.heap.size);rw [K] at E z v;have O:=ah ((t.out.trans hq).trans p);clear hq p C U f r x v;go_wp2_with (refine bS E H J N z ?_)
 go_ret;refine ⟨ok,?_,rfl,O.out⟩;show ok=true ↔ _;rcases P.out with ⟨h,j,_⟩ | ⟨h,S⟩
 · exact ⟨fun _=>⟨ep,d,j⟩,fun _=>h⟩
 · exact ⟨(fun u=>by rw [h] at u;cases u),fun ⟨n,d',j⟩=>absurd j (S n d')⟩
theorem pit (h:MtIs M aw aT ar as' bw bT br bs' low high F A B id pub) (x y) (h1:pab low) (N:pab high) (hF:bs F=be x) (r:bs A=be y) (D:x<9223372036854775808) (G:y<9223372036854775808) (w) (z:Tabs w) :
 Calls prog 94 #[.agg M] w (pdH (fun b=>b=true ↔ bs aT=pbv low high x y) w):=by
 obtain ⟨g,O⟩:=ae (w.heap.size);obtain ⟨f,n⟩:=ae (w.alloc (.cells M 105));have o:=aW O n;have k:=ah (aU n);have p:Hid (∀ W,Uq f W->W.cell? ⟨g,9,none⟩=some (.string aT)/\(Instr.loadAt 44 (.pointer (some ⟨g,16,none⟩))).run prog W=.ok (.agg (dspG low high F A B)) W):=by
  intro W u;have q:=paa o u;refine ⟨(xa _ g 9 _ _ _ q).trans h.a1,xL W g 16 44 [.int .i64 low,.int .i64 high,.string F,.string A,.string B] _ (fun j v a=>?_) underlying44 rfl (by kernel_rfl)⟩
  match j,a with
  | 0,a=>simp at a;subst a;exact (xa _ g 16 _ _ _ q).trans h.d0
  | 1,a=>simp at a;subst a;exact (xa _ g 17 _ _ _ q).trans h.d1
  | 2,a=>simp at a;subst a;exact (xa _ g 18 _ _ _ q).trans h.d2
  | 3,a=>simp at a;subst a;exact (xa _ g 19 _ _ _ q).trans h.d3
  | 4,a=>simp at a;subst a;exact (xa _ g 20 _ _ _ q).trans h.d4
 have d:Uq f f.drew:=uR.drew;have E:=ah (fun W (u:Uq w W)=>pt2 low high F A B x y h1 N hF r D G W (z.upd u));clear h o hF r;go_in;go_upto_region 1 with (fail)
 refine bH p d fun c=>?_;refine tkS [0,1,2,3,4,5] c ?_;refine tkT 6 c ?_ (y:=(pap (by rfl) _ _ rfl _ rfl (dspG low high F A B) (fun w C=>C.2)));refine tk1 7 fun K t=>?_;go_simp;refine (E.out _ (k.out.trans d)).mono ?_;rintro e P ⟨J,H,_,rfl,hq⟩;have m:=d.trans hq;clear hq;go_wp2_with fail;refine tkK t (p.out _ m) fun c=>?_;clear t K;refine tkS [8,9] c ?_;refine tkD ?_;go_wp2;go_ret;refine ⟨_,?_,rfl,k.out.trans m⟩;show (aT.toList == J.toList)=true ↔ _;rw [pbM,H.out]
end
end Go.Proofs.YtkhjolbbpdaplaaGreatDoor
