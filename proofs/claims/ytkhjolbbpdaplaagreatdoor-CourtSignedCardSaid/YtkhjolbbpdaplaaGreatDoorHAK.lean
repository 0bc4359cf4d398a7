/- Events in general: their texts and codes, plainly and what follows. -/
import Derived.Test.YtkhjolbbpdaplaaGreatDoorHAJ
namespace Go.Proofs.YtkhjolbbpdaplaaGreatDoor
set_option maxHeartbeats 4000000
open Go.RowKit Go.Proofs.Tryz
set_option maxRecDepth 100000
abbrev xJ:=@Nat.le_of_eq
abbrev yK:=@Bool.not_eq_true
abbrev zH:=@ByteArray.size_extract
abbrev zK:=@List.take_append_drop
structure EvG where
 q:Int
 k:Int
 h:Int
 t:Int
 n:Int
 x:ByteArray
 p:List UInt8
 r:Int
 s:Int
def EvG.ok (e:EvG):Prop:=pab e.q/\pab e.k/\pab e.h/\pab e.t/\pab e.n/\e.p.length=32/\pab e.r/\pab e.s
def EvG.V (e:EvG):List Value:=[.int .i64 e.q,.int .i64 e.k,.int .i64 e.h,.int .i64 e.t,.int .i64 e.n,.string e.x] ++ (byteVals e.p ++ [.int .i64 e.r,.int .i64 e.s])
theorem EvG.V_len {e:EvG} (h:e.p.length=32):e.V.length=40:=by simp [EvG.V,byteVals,h]
theorem EvG.V_one (e:EvG):∀ u∈e.V,u.oneCell'=true:=by
 intro u hu;simp only [EvG.V,yq,yo,zy,uY] at hu;rcases hu with (rfl | rfl | rfl | rfl | rfl | rfl) | hu | rfl | rfl
 all_goals first | rfl | exact paL _ _ hu
def pbe (t:List UInt8):List UInt8:=Lib.itoa (t.length:Int) ++ 58 :: t
def EvG.parts (e:EvG):List (List UInt8):=[Lib.itoa e.r,Lib.itoa e.s,wEv,Lib.itoa e.q,Lib.itoa e.k,Lib.itoa e.h,Lib.itoa e.t,Lib.itoa e.n,hexL e.p,pbe (bs e.x)]
def EvG.text (e:EvG):List UInt8:=wEv ++ 32 :: (Lib.itoa e.q ++ 32 :: (Lib.itoa e.k ++ 32 :: (Lib.itoa e.h ++ 32 :: (Lib.itoa e.t ++ 32 :: (Lib.itoa e.n ++ 32 :: (hexL e.p ++ 32 :: pbe (bs e.x)))))))
def EvG.code (e:EvG):List UInt8:=Lib.itoa e.r ++ 32 :: (Lib.itoa e.s ++ 32 :: e.text)
theorem EvG.text_join (e:EvG):Lib.join [wEv,Lib.itoa e.q,Lib.itoa e.k,Lib.itoa e.h,Lib.itoa e.t,Lib.itoa e.n,hexL e.p,pbe (bs e.x)] [32]=e.text:=by
 simp [Lib.join,List.intercalate_cons_cons,EvG.text]
theorem EvG.code_len (e:EvG):9<=e.code.length:=by
 simp only [EvG.code,EvG.text,xr,xF];omega
theorem EvG.text_len {e:EvG} (h:e.ok) (z:e.x.size<=1000000000):e.text.length<=e.x.size+250:=by
 obtain ⟨a,b,c,d,f,g,_,_⟩:=h;have h1:=itoa_len _ a;have r:=itoa_len _ b;have m:=itoa_len _ c;have k:=itoa_len _ d;have j:=itoa_len _ f;have q:=paO e.p;have n:=itoa_len ((bs e.x).length:Int) (by rw [pac];unfold pab;omega);have o:(bs e.x).length=e.x.size:=pac _;simp only [EvG.text,pbe,xr,xF];have:wEv.length=5:=rfl;omega
theorem pq1:(32:UInt8) ∉ wEv:=by decide
theorem EvG.code_split (e:EvG):Lib.splitK [32] 0 9 e.code=e.parts:=by
 unfold EvG.code EvG.text;rw [pbd (itoa_no32 _),pbd (itoa_no32 _),pbd pq1,pbd (itoa_no32 _),pbd (itoa_no32 _),pbd (itoa_no32 _),pbd (itoa_no32 _),pbd (itoa_no32 _),pbd (pbx _)];rfl
def pat (l:List UInt8) (e:EvG):Prop:=e.ok/\l=e.code
theorem pfF (t:List UInt8) (R):Lib.cut (Lib.itoa (t.length:Int) ++ 58 :: R) [58]=(Lib.itoa (t.length:Int),R,true):=pbH 58 _ _ (pon _)
theorem plX {a b A B} (j:a.length<=9223372036854775807) (g:b.length<=9223372036854775807) (h:pbe a ++ A=pbe b ++ B):a=b/\A=B:=by
 have e:pbe a ++ A=Lib.itoa (a.length:Int) ++ 58 :: (a ++ A):=by simp [pbe]
 have f:pbe b ++ B=Lib.itoa (b.length:Int) ++ 58 :: (b ++ B):=by simp [pbe]
 rw [e,f] at h;have c:=pfF a (a ++ A);rw [h,pfF b (b ++ B)] at c;injection c with c c2;injection c2 with c2 _;have d:(b.length:Int)=(a.length:Int):=paQ (by unfold pab;omega) (by unfold pab;omega) c;have d:b.length=a.length:=by omega
 have:=List.append_inj c2 d;exact ⟨this.1.symm,this.2.symm⟩
theorem pdQ {l e f} (d:pat l e) (c:pat l f) (T:e.x.size<=1000000000) (U:f.x.size<=1000000000):e=f:=by
 obtain ⟨⟨Q,M,o,C,y,R,w,F⟩,d⟩:=d;obtain ⟨⟨D,O,N,v,E,S,P,b8⟩,c⟩:=c;have h:=e.code_split;rw [<-d,c,f.code_split] at h;simp only [EvG.parts,um,uZ,true_and] at h;obtain ⟨h1,K,G,j,g,J,H,u,z⟩:=h
 cases e with
 | mk q k hh t n x p r s =>
 cases f with
 | mk q' k' hh' t' n' x' p' r' s' =>
 dsimp only at *;obtain rfl:=paQ P w h1;obtain rfl:=paQ b8 F K;obtain rfl:=paQ D Q G;obtain rfl:=paQ O M j;obtain rfl:=paQ N o g;obtain rfl:=paQ v C J;obtain rfl:=paQ E y H;obtain rfl:=pdO u;have m:=plX (a:=bs x') (b:=bs x) (A:=[]) (B:=[]) (by rw [pac];omega) (by rw [pac];omega) (by rw [yl,yl];exact z);obtain rfl:=paT m.1;rfl
theorem pat.size {l:List UInt8} {e:EvG} (h:pat l e):e.x.size<=l.length:=by
 rw [h.2,<-pac];simp only [EvG.code,EvG.text,pbe,xr,xF];omega
theorem pcD (s w) (x:s.size<=4000000000) (q:Tabs w):Calls prog 252 #[.string s] w (ptw (bs s) w):=by
 by_cases a:∃ v,Lib.atoiAll (bs s)=.ok v
 · obtain ⟨v,a⟩:=a;have n:pab v:=yU a;have k:=ah (pco s v w (by omega) a);have z:=ah (fun W (u:Uq w W)=>paA v W n (q.upd u));have A:Hid (∀ m,pab m->bs s=Lib.itoa m->m=v):=by
    intro m j e;rw [e,paI m j] at a;injection a
   clear a x;go_in;go_wp2_with fail;refine k.out.mono ?_;rintro e t ⟨rfl,c⟩;have g:=ah c;clear c k;go_wp2_with fail;refine (z.out t g.out).mono ?_;rintro e C ⟨y,o,_,rfl,c⟩;have r:=ah (g.out.trans c);clear c z g;by_cases d:y=s
   · have f:Hid (bs s=Lib.itoa v):=by show _=_;rw [<-d];exact o.out
     have B:(y.toList == s.toList)=true:=pbM.2 (by rw [d]);clear d o;go_wp2;go_ret2;exact ⟨v,true,⟨n,fun _=>f.out,fun h=>by cases h⟩,n,rfl,r.out⟩
   · have f:Hid (¬ pmX (bs s)):=by
      rintro ⟨m,j,e⟩;obtain rfl:=A.out m j e;exact d (paT (o.out.trans e.symm))
     have B:(y.toList == s.toList)=false:=by rw [<-yK];exact fun h=>d (paT (pbM.1 h))
     clear d o;go_wp2;go_ret2;exact ⟨0,false,pep f.out,⟨by omega,by omega⟩,rfl,r.out⟩
 · have p:∀ v,Lib.atoiAll (bs s)≠.ok v:=fun v e=>a ⟨v,e⟩;have k:=ah (pbX s w (by omega) p q);have f:Hid (¬ pmX (bs s)):=by
    rintro ⟨m,j,e⟩;exact p m (by rw [e];exact paI m j)
   clear a p x;go_in;go_wp2_with fail;refine k.out.mono ?_;rintro e t ⟨v,N,rfl,n,c⟩;have g:=ah c;clear c k;go_wp2;go_ret2;exact ⟨0,false,pep f.out,⟨by omega,by omega⟩,rfl,g.out⟩
theorem pfG (s w) (x:s.size<=4000000000) (q:Tabs w):Calls prog 206 #[.string s] w (ptw (bs s) w):=by
 by_cases a:∃ v,Lib.atoiAll (bs s)=.ok v
 · obtain ⟨v,a⟩:=a;have n:pab v:=yU a;have k:=ah (pco s v w (by omega) a);have z:=ah (fun W (u:Uq w W)=>paA v W n (q.upd u));have A:Hid (∀ m,pab m->bs s=Lib.itoa m->m=v):=by
    intro m j e;rw [e,paI m j] at a;injection a
   clear a x;go_in;go_wp2_with fail;refine k.out.mono ?_;rintro e t ⟨rfl,c⟩;have g:=ah c;clear c k;go_wp2_with fail;refine (z.out t g.out).mono ?_;rintro e C ⟨y,o,_,rfl,c⟩;have r:=ah (g.out.trans c);clear c z g;by_cases d:y=s
   · have f:Hid (bs s=Lib.itoa v):=by show _=_;rw [<-d];exact o.out
     have B:(y.toList == s.toList)=true:=pbM.2 (by rw [d]);clear d o;go_wp2;go_ret2;exact ⟨v,true,⟨n,fun _=>f.out,fun h=>by cases h⟩,n,rfl,r.out⟩
   · have f:Hid (¬ pmX (bs s)):=by
      rintro ⟨m,j,e⟩;obtain rfl:=A.out m j e;exact d (paT (o.out.trans e.symm))
     have B:(y.toList == s.toList)=false:=by rw [<-yK];exact fun h=>d (paT (pbM.1 h))
     clear d o;go_wp2;go_ret2;exact ⟨0,false,pep f.out,⟨by omega,by omega⟩,rfl,r.out⟩
 · have p:∀ v,Lib.atoiAll (bs s)≠.ok v:=fun v e=>a ⟨v,e⟩;have k:=ah (pbX s w (by omega) p q);have f:Hid (¬ pmX (bs s)):=by
    rintro ⟨m,j,e⟩;exact p m (by rw [e];exact paI m j)
   clear a p x;go_in;go_wp2_with fail;refine k.out.mono ?_;rintro e t ⟨v,N,rfl,n,c⟩;have g:=ah c;clear c k;go_wp2;go_ret2;exact ⟨0,false,pep f.out,⟨by omega,by omega⟩,rfl,g.out⟩
theorem ptD (t w) (n:t.size<=1000000000) (f:Tabs w):Calls prog 119 #[.string t] w (MkS (pbe (bs t)) w):=by
 have a:Hid (Calls prog 54 #[.int .i64 (t.size:Int)] w (MkS (Lib.itoa (t.size:Int)) w)):=paA (t.size:Int) w (by unfold pab;omega) f;go_in;go_wp2_with fail;refine a.out.mono ?_;rintro e k ⟨y,g,m,rfl,d⟩;have h:=ah d;clear d a;have j:=itoa_len (t.size:Int) (by unfold pab;omega);go_wp2;go_ret;have c:bs (y ++ ByteArray.mk #[58] ++ t)=pbe (bs t):=by
  rw [pae,pae,g.out,pbe,pac];simp [bs]
 exact ⟨_,c,by rw [<-c,pac];exact xj _,rfl,h.out⟩
def cutG (l:List UInt8) (t r:ByteArray) (ok:Bool):Prop:=(ok=true->l=pbe (bs t) ++ bs r)/\(ok=false->∀ a b:List UInt8,a.length<=9223372036854775807->l≠pbe a ++ b)
def ptE (s:ByteArray) (w:World) (e:Ending) (w':World):Prop:=∃ (t r:ByteArray) (ok:Bool),Hid (cutG (bs s) t r ok)/\t.size<=s.size/\r.size<=s.size/\e=.returned (.tuple #[.string t,.string r,.bool ok])/\Upd [] [] w w'
theorem pfH {l} (h:∀ a b,a.length<=9223372036854775807->l≠pbe a ++ b):cutG l ⟨#[]⟩ ⟨#[]⟩ false:=⟨fun e=>(by cases e),fun _=>h⟩
theorem ped (c):∀ l:List UInt8,c∈l->∃ a b,l=a ++ c :: b/\c ∉ a
 | [],h=>by cases h
 | x :: r,h=>by
  by_cases d:x=c
  · exact ⟨[],r,by rw [d];rfl,by simp⟩
  · rcases yo.1 h with h | h
    · exact absurd h.symm d
    · obtain ⟨a,b,e,f⟩:=ped c r h
      refine ⟨x :: a,b,by rw [e];rfl,fun hm=>?_⟩
      rcases yo.1 hm with hm | hm
      · exact d hm.symm
      · exact f hm
theorem ph1 {l x y c} (h:Lib.cut l [c]=(x,y,true)):l=x ++ c :: y:=by
 by_cases d:c∈l
 · obtain ⟨a,b,e,f⟩:=ped c l d;subst e;rw [pbH c a b f] at h;injection h with h1 h2;injection h2 with h2 _;rw [h1,h2]
 · rw [pqF c l d] at h;injection h with _ h2;injection h2 with _ h3
   cases h3
theorem puj (s w) (K:s.size<=4000000000) (v:Tabs w):Calls prog 253 #[.string s] w (ptE s w):=by
 have A:=ah (pc7 s 58 w K v);have D:=ah (fun W (u:Uq w W) (t:ByteArray) (M:t.size<=4000000000)=>pcD t W M (v.upd u));go_in;go_wp2_with fail;refine A.out.mono ?_;rintro e J ⟨l,r,q,E,C,B,T,Z,rfl,j⟩;have p:=ah j;have c:Hid (Lib.cut (bs s) [58]=(bs l,bs r,q)):=by show _=_;rw [E.out,C.out,B.out]
 clear j A E C B
 cases q
 · have f:Hid (∀ a b:List UInt8,a.length<=9223372036854775807->bs s≠pbe a ++ b):=by
    intro a b _ e;have h:=c.out;rw [e,pbe,xG,yA,pfF] at h;injection h with _ h;injection h with _ h
    cases h
   clear c;go_wp2_with fail;go_ret3;exact ⟨_,_,false,pfH f.out,xu _,xu _,rfl,p.out⟩
 · have g:Hid (bs s=bs l ++ 58 :: bs r):=ph1 c.out;go_wp2_with fail;refine (D.out J p.out l (by omega)).mono ?_;rintro e U ⟨n,ok,d,Q,rfl,j⟩;have m:=ah (p.out.trans j);clear j p D;obtain ⟨G,H⟩:=Q;have f:Hid ((ok=false\/n<0\/(r.size:Int)<n)->∀ a b:List UInt8,a.length<=9223372036854775807->bs s≠pbe a ++ b):=by
    intro F a b X e;have h:=c.out;rw [e,pbe,xG,yA,pfF] at h;injection h with h1 h;injection h with h2 _;have z:pab (a.length:Int):=by unfold pab;omega
    cases ok with
    | false=>exact d.out.2.2 rfl ⟨_,z,h1.symm⟩
    | true =>
     have o:=d.out.2.1 rfl;rw [<-h1] at o;have Y:=paQ z ⟨G,H⟩ o;have O:=xU List.length h2;rw [xr,pac] at O;rcases F with h | h | h
     · cases h
     · omega
     · omega
   cases ok
   · clear c g d;go_wp2_with fail;go_ret3;exact ⟨_,_,false,pfH (f.out (by first | exact .inl rfl | exact .inl trivial | simp)),xu _,xu _,rfl,m.out⟩
   · by_cases x:n<0
     · clear c g d;go_wp2_with fail;go_ret3;exact ⟨_,_,false,pfH (f.out (by first | exact .inr (.inl x) | simp [x])),xu _,xu _,rfl,m.out⟩
     · by_cases y:(r.size:Int)<n
       · clear c g d;go_wp2_with fail;go_ret3;exact ⟨_,_,false,pfH (f.out (by first | exact .inr (.inr y) | simp [y])),xu _,xu _,rfl,m.out⟩
       · obtain ⟨k,rfl⟩:∃ k:Nat,n=(k:Int):=⟨n.toNat,by omega⟩
         have aa:k<=r.size:=by omega
         have S:(k:Int)<=(r.size:Int):=by omega
         have P:Hid (bs s=pbe (bs (r.extract 0 k)) ++ bs (r.extract k r.size)):=by
          show _=_;have o:((bs r).take k).length=k:=by rw [xQ,pac];omega
          rw [g.out,pkB,phX,pbe,o,<-d.out.2.1 rfl,xG,yA,zK]
         clear c g d f;go_wp2_with fail;go_quiet (fail);go_wp2_with fail;go_ret3;have N:(r.extract 0 k).size<=s.size:=by rw [<-pac,pkB,xQ,pac];omega
         have R:(r.extract k r.size).size<=s.size:=by rw [<-pac,phX,zJ,pac];omega
         exact ⟨_,_,true,⟨fun _=>P.out,fun h=>(by cases h)⟩,N,R,rfl,m.out.drewN _⟩
def EgA (w:World) (g:Nat) (e:EvG):Prop:=w.heap[g]? =some (.cells e.V.toArray 71 (0,0))
theorem EgA.upd {w w' g e} (h:EgA w g e) (u:Uq w w'):EgA w' g e:=paa h u
theorem EgA.cell {w g e} (h:EgA w g e) (j):w.cell? ⟨g,j,none⟩=e.V[j]?:=by
 rw [xa w g j _ _ _ h,xD]
theorem EvG.at38 {e:EvG} (h:e.p.length=32):e.V[38]? =some (.int .i64 e.r):=by
 unfold EvG.V;rw [xC (by simp),xC (by simp [byteVals,h])];simp [byteVals,h]
theorem EvG.at39 {e:EvG} (h:e.p.length=32):e.V[39]? =some (.int .i64 e.s):=by
 unfold EvG.V;rw [xC (by simp),xC (by simp [byteVals,h])];simp [byteVals,h]
theorem pi7 {p} (h:p.length=32):(prog.info? 60).map (·.size)=some (byteVals p).length:=by
 rw [show (byteVals p).length=32 by simp [byteVals,h]];kernel_rfl
theorem EgA.hash {w g e} (h:EgA w g e):w.rangeAt g 6 (byteVals e.p):=by
 intro j v a;rw [h.cell];exact pge (A:=[.int .i64 e.q,.int .i64 e.k,.int .i64 e.h,.int .i64 e.t,.int .i64 e.n,.string e.x]) rfl a
theorem EvG.load {w g e E} (a:e.p.length=32) (d:E=e.V.toArray) (h:EgA w g e):(Instr.loadAt 71 (.pointer (some ⟨g,0,none⟩))).run prog w=.ok (.agg E) w:=by
 subst d;refine xL w g 0 71 _ _ (fun j v c=>?_) underlying71 rfl ?_
 · rw [h.cell,yB];exact c
 · rw [EvG.V_len a];kernel_rfl
theorem prW (e:EvG) (f:e.ok) (hx:e.x.size<=1000000000) (w) (o:Tabs w):Calls prog 51 #[.agg e.V.toArray] w (MkS e.text w):=by
 obtain ⟨EV,ab⟩:=az (e.V.toArray);obtain ⟨ZH,aa⟩:=az ((byteVals e.p).toArray);have ak:=ah aa;obtain ⟨G,S⟩:=ae (w.alloc (.cells EV 71));obtain ⟨g,hg⟩:=az (w.heap.size);have r0:EgA G g e:=by rw [hg,<-S,ab];exact xi _ _
 have u0:=aU S;have HJ:=ah e.text_join;have HL:=ah (EvG.text_len f hx);have aw:=ah f;obtain ⟨q,B⟩:=ae (e.q);obtain ⟨k,A⟩:=ae (e.k);obtain ⟨h,v⟩:=ae (e.h);obtain ⟨t,y⟩:=ae (e.t);obtain ⟨n,C⟩:=ae (e.n);obtain ⟨x,D⟩:=ae (e.x);obtain ⟨p,z⟩:=ae (e.p);have j:Hid (∀ W,Uq G W->W.cell? ⟨g,0,none⟩=some (.int .i64 q)/\W.cell? ⟨g,1,none⟩=some (.int .i64 k)/\W.cell? ⟨g,2,none⟩=some (.int .i64 h)/\W.cell? ⟨g,3,none⟩=some (.int .i64 t)/\W.cell? ⟨g,4,none⟩=some (.int .i64 n)/\W.cell? ⟨g,5,none⟩=some (.string x)/\(Instr.loadAt 60 (.pointer (some ⟨g,6,none⟩))).run prog W=.ok (.agg ZH) W):=by
  intro W u;have c:=(r0.upd u)
  refine ⟨(c.cell 0).trans ?_,(c.cell 1).trans ?_,(c.cell 2).trans ?_,(c.cell 3).trans ?_,(c.cell 4).trans ?_,(c.cell 5).trans ?_,?_⟩
  · rw [<-B];rfl
  · rw [<-A];rfl
  · rw [<-v];rfl
  · rw [<-y];rfl
  · rw [<-C];rfl
  · rw [<-D];rfl
  · rw [aa];exact xL W g 6 60 _ _ c.hash underlying60 rfl (pi7 f.2.2.2.2.2.1)
 have r:Hid (pab q/\pab k/\pab h/\pab t/\pab n):=by rw [<-B,<-A,<-v,<-y,<-C];exact ⟨f.1,f.2.1,f.2.2.1,f.2.2.2.1,f.2.2.2.2.1⟩
 have HP:Hid (p.length=32/\x.size<=1000000000):=by rw [<-z,<-D];exact ⟨f.2.2.2.2.2.1,hx⟩
 rw [z] at ak;have aj:Hid (Lib.join [wEv,Lib.itoa q,Lib.itoa k,Lib.itoa h,Lib.itoa t,Lib.itoa n,hexL p,pbe (bs x)] [32]=e.text):=by
  rw [<-B,<-A,<-v,<-y,<-C,<-D,<-z];exact HJ.out
 have al:Hid (e.text.length<=1000000250):=xB HL.out (by omega);have m:=ah u0;have Y:Uq G G.drew:=uR.drew;have HG:=ah hg;rw [<-ab];clear ab aa r0 u0 hg f hx HJ HL aw B A v y C D z;obtain ⟨TX,af⟩:=ae (e.text);rw [af] at aj al ⊢;clear af;go_in;go_upto_region 1 with (fail)
 rw [<-HG.out];clear S;refine bH j Y fun d=>?_;refine tkS [0,1,3,4,6,7,9,10,12,13,15] d ?_;refine tkL 16 d ZH (fun w ar=>ar.2.2.2.2.2.2) ?_;refine tkS [18,19] d ?_;refine tk1 2 fun K a=>?_;go_simp;refine (paA q _ r.out.1 (o.upd (m.out.trans Y))).mono ?_;rintro e1 aK ⟨F,ap,aI,rfl,hq⟩;have X:=Y.trans hq;clear hq;go_wp2_with fail;refine tkK a (j.out _ X) fun d=>?_;clear a K;refine tk1 5 fun K a=>?_;go_simp;refine (paA k _ r.out.2.1 (o.upd (m.out.trans X))).mono ?_;rintro e2 aJ ⟨M,an,aE,rfl,hq⟩;have ac:=X.trans hq;clear hq;go_wp2_with fail;refine tkK a (j.out _ ac) fun d=>?_;clear a K;refine tk1 8 fun K a=>?_;go_simp;refine (paA h _ r.out.2.2.1 (o.upd (m.out.trans ac))).mono ?_;rintro e3 ay ⟨J,am,aD,rfl,hq⟩;have Z:=ac.trans hq;clear hq;go_wp2_with fail;refine tkK a (j.out _ Z) fun d=>?_;clear a K;refine tk1 11 fun K a=>?_;go_simp;refine (paA t _ r.out.2.2.2.1 (o.upd (m.out.trans Z))).mono ?_;rintro e4 ax ⟨H,ao,aB,rfl,hq⟩;have ad:=Z.trans hq;clear hq;go_wp2_with fail;refine tkK a (j.out _ ad) fun d=>?_;clear a K;refine tk1 14 fun K a=>?_;go_simp;refine (paA n _ r.out.2.2.2.2 (o.upd (m.out.trans ad))).mono ?_;rintro e5 aA ⟨O,av,aG,rfl,hq⟩;have ai:=ad.trans hq;clear hq;go_wp2_with fail;refine tkK a (j.out _ ai) fun d=>?_;clear a K;refine tk1 17 fun K a=>?_;go_simp;rw [ak.out];refine (pc5 p HP.out.1 _).mono ?_;rintro e6 aH ⟨E,au,aC,rfl,hq⟩;have U:=ai.trans hq;clear hq;go_wp2_with fail;refine tkK a (j.out _ U) fun d=>?_;clear a K;refine tk1 20 fun K a=>?_;go_simp;refine (ptD x _ HP.out.2 (o.upd (m.out.trans U))).mono ?_;rintro e7 ag ⟨N,aq,aF,rfl,hq⟩;have R:=U.trans hq;clear hq;go_wp2_with fail;refine tkK a (j.out _ R) fun d=>?_;clear a K;refine tk1 21 fun K a=>?_;go_simp;refine tkK a (j.out _ (R.alloc _)) fun d=>?_;clear a K;refine tkY 22 d ?_;refine tkD ?_;go_wp2_with fail;have Q:=pcQ ag [⟨#[101,118,101,110,116]⟩,F,M,J,H,O,E,N] 9;have P:Lib.join ([⟨#[101,118,101,110,116]⟩,F,M,J,H,O,E,(N:ByteArray)].map bs) [32]=TX:=by
  rw [<-aj.out,<-ap.out,<-an.out,<-am.out,<-ao.out,<-av.out,<-au.out,<-aq.out];rfl
 have hj:=Tryz.strings_Join ag.heap.size 0 8 [⟨#[101,118,101,110,116]⟩,F,M,J,H,O,E,N] ⟨#[32]⟩ _ Q.2 Q.1 (by simp) (by simp) (by
  show (Lib.join (_) [32]).length<=_;have e:=xU List.length P;have:=al.out;exact xB (xJ e) (by omega))
 refine hj.mono ?_;rintro e9 w9 ⟨rfl,hb⟩;have hu:=paE hb;obtain ⟨T,hT⟩:∃ T:ByteArray,T=⟨(Lib.join ([⟨#[101,118,101,110,116]⟩,F,M,J,H,O,E,(N:ByteArray)].map (·.data.toList)) (⟨#[32]⟩:ByteArray).data.toList).toArray⟩:=⟨_,rfl⟩
 rw [<-hT];have HB:Hid (bs T=TX):=by
  show _=_;rw [hT,pcM];exact P
 have HU:=ah ((m.out.trans (R.alloc _)).trans hu);clear hj Q P hb hu hT;go_wp2;go_ret;exact ⟨T,HB,by rw [<-HB.out,pac];exact xj _,rfl,HU.out⟩
theorem EvG.info {e:EvG} (h:e.p.length=32):(prog.info? 71).map (·.size)=some e.V.toArray.size:=by
 rw [show e.V.toArray.size=40 from EvG.V_len h];kernel_rfl
theorem EvG.one (e:EvG):e.V.toArray.all (·.oneCell')=true:=by
 rw [yg];intro v a;exact e.V_one v (by simpa using a)
theorem EvG.code_is (e:EvG) {a b y} (f:bs a=Lib.itoa e.r) (c:bs b=Lib.itoa e.s) (d:bs y=e.text):bs (a ++ ByteArray.mk #[32] ++ b ++ ByteArray.mk #[32] ++ y)=e.code:=by
 rw [pae,pae,pae,pae,f,c,d,EvG.code];simp [bs]
theorem pq2 (c:EvG) (k:c.ok) (p:c.x.size<=1000000000) (w) (C:Tabs w):Calls prog 254 #[.agg c.V.toArray] w (MkS c.code w):=by
 obtain ⟨M,h⟩:=az (c.V.toArray);have U:=ah h;obtain ⟨z,D⟩:=ae (w.alloc (.cells M 71));obtain ⟨g,J⟩:=az (w.heap.size);have v:EgA z g c:=by rw [J,<-D,h];exact xi _ _
 have O:=aU D;have q:=k.2.2.2.2.2.1;obtain ⟨r,o⟩:=ae (c.r);obtain ⟨s,n⟩:=ae (c.s);have A:Hid (∀ W,Uq z W->W.cell? ⟨g,38,none⟩=some (.int .i64 r)/\W.cell? ⟨g,39,none⟩=some (.int .i64 s)/\(Instr.loadAt 71 (.pointer (some ⟨g,0,none⟩))).run prog W=.ok (.agg M) W):=by
  intro W u;rw [<-o,<-n];exact ⟨((v.upd u).cell 38).trans (EvG.at38 q),((v.upd u).cell 39).trans (EvG.at39 q),EvG.load q h (v.upd u)⟩
 have t:Hid (pab r/\pab s):=by rw [<-o,<-n];exact k.2.2.2.2.2.2
 have HT:=ah (fun W (u:Uq w W)=>prW c k p W (C.upd u));have T:=ah (EvG.text_len k p);have X:Hid (∀ a b y:ByteArray,bs a=Lib.itoa r->bs b=Lib.itoa s->bs y=c.text->bs (a ++ ByteArray.mk #[32] ++ b ++ ByteArray.mk #[32] ++ y)=c.code):=by
  rw [<-o,<-n];exact fun a b y Y B Z=>c.code_is Y B Z
 have HX:=ah p;have m:=ah O;have F:Uq z z.drew:=uR.drew;have HG:=ah J;rw [<-h];clear h v O J k p q o n;go_in;go_upto_region 1 with (fail)
 rw [<-HG.out];clear D;refine bH A F fun d=>?_;refine tkS [0,1,2,5,6,7] d ?_;refine tkL 11 d M (fun w S=>S.2.2) ?_;refine tk1 3 fun K e=>?_;go_simp;refine (paA r _ t.out.1 (C.upd (m.out.trans F))).mono ?_;rintro e1 am ⟨f,R,aj,rfl,hq⟩;have E:=F.trans hq;clear hq;have ab:f.size<=20:=(by have:=itoa_len r t.out.1;omega);have ao:¬ 9223372036854775807<f.size+1:=(by omega);go_wp2_with fail;refine tkK e (A.out _ E) fun d=>?_;clear e K;refine tkY 4 d ?_;refine tk1 8 fun K e=>?_;go_simp;refine (paA s _ t.out.2 (C.upd (m.out.trans E))).mono ?_;rintro e2 ak ⟨j,Q,af,rfl,hq⟩;have G:=E.trans hq;clear hq;have al:j.size<=20:=(by have:=itoa_len s t.out.2;omega);have ag:¬ 9223372036854775807<f.size+1+j.size:=(by omega);have aa:¬ 9223372036854775807<f.size+1+j.size+1:=(by omega);go_wp2_with fail;refine tkK e (A.out _ G) fun d=>?_;clear e K;refine tkS [9,10] d ?_;refine tk1 12 fun K e=>?_;go_simp;rw [U.out];refine (HT.out _ (m.out.trans G)).mono ?_;rintro e3 ac ⟨H,P,ad,rfl,hq⟩;have N:=G.trans hq;clear hq;have an:H.size<=1000000250:=(by have:=T.out;have:=HX.out;omega);have ai:¬ 9223372036854775807<f.size+1+j.size+1+H.size:=(by omega);go_wp2_with fail;refine tkK e (A.out _ N) fun d=>?_;clear e K;refine tkS [13,14] d ?_;refine tkD ?_;go_wp2;go_ret;have B:=X.out f j H R.out Q.out P.out;exact ⟨_,B,by rw [<-B,pac];exact xj _,rfl,m.out.trans N⟩
theorem pi8 (a):∀ k s,(Lib.splitB a 0 k s).length<=k+1
 | 0,_=>by simp [Lib.splitB]
 | k+1,s=>by
  unfold Lib.splitB
  split
  · simp
  · rw [xF]
    have:=pi8 a k (s.extract ((Lib.indexB s a).toNat+a.size) s.size)
    omega
theorem pee (a):∀ k s p,p∈Lib.splitB a 0 k s->p.size<=s.size
 | 0,s,p,h=>by
  simp only [Lib.splitB,zl] at h
  rw [h]
  exact xj _
 | k+1,s,p,h=>by
  unfold Lib.splitB at h
  split at h
  · simp only [zl] at h
    rw [h]
    exact xj _
  · rcases yo.1 h with h | h
    · rw [h,zH]
      omega
    · have:=pee a k _ p h
      rw [zH] at this
      omega
theorem pm3 {s a} (h:pat (bs s) a):(Lib.splitB ⟨#[32]⟩ 0 (min 10 (s.size+1) - 1) s).map bs=a.parts:=by
 have c:=a.code_len;rw [<-h.2,pac] at c;have d:min 10 (s.size+1) - 1=9:=by omega
 have e:Lib.splitK (bs ⟨#[32]⟩) 0 9 (bs s)=a.parts:=by rw [h.2];exact a.code_split
 rw [d,poI e,List.map_map]
 conv=>rhs;rw [<-List.map_id a.parts]
 exact uJ fun x _=>rfl
def puk (s:ByteArray) (W:World) (e:Ending) (w':World):Prop :=
 ∃ (P:List ByteArray) (cap:Nat),Hid ((∀ ev,pat (bs s) ev->P.map bs=ev.parts)/\(∀ p∈P,p.size<=s.size))/\P.length<=cap/\cap<=10/\e=.returned (.slice (some ⟨W.heap.size,0,none⟩) P.length cap)/\w'=W.alloc (.cells (Lib.cellsOf P cap) 9)
theorem pq3 (s) (g:s.size<=4000000000) (W) (a:Tabs W):Calls prog 251 #[.string s,.string ⟨#[32]⟩,.int .i64 10] W (puk s W):=by
 obtain ⟨m,d⟩:=a.m;refine (Tryz.strings_SplitN s ⟨#[32]⟩ 10 m W (by omega) d (by decide) (by omega) (by omega)).mono ?_;rintro e w' ⟨rfl,rfl⟩;refine ⟨Lib.splitB ⟨#[32]⟩ 0 (min 10 (s.size+1) - 1) s,min 10 (s.size+1),⟨fun f h=>pm3 h,fun p c=>pee _ _ _ _ c⟩,?_,by omega,rfl,rfl⟩;have:=pi8 ⟨#[32]⟩ (min 10 (s.size+1) - 1) s;omega
theorem ptF {P:List ByteArray} (h:P.length=10):∃ a b c d e f g i j k,P=[a,b,c,d,e,f,g,i,j,k]:=by
 match P,h with
 | [a,b,c,d,e,f,g,i,j,k],_=>exact ⟨a,b,c,d,e,f,g,i,j,k,rfl⟩
theorem pdn (w a c W) (d:w.heap.size<=a) (e:W.heap[a]? =some (.cells evZ.toArray 71 (0,0))) (u:Uq w W) :
 ∃ X,Hid (W.setRow a c=X)/\Fr X a c 71/\Hid (Uq w X) :=
 ⟨_,rfl,xz _ _ _ _ _ _ e,u.setRowNew d c⟩
theorem poQ {e f:EvG} (h1:Lib.itoa e.r=Lib.itoa f.r) (a:Lib.itoa e.s=Lib.itoa f.s) (g:Lib.itoa e.q=Lib.itoa f.q) (d:Lib.itoa e.k=Lib.itoa f.k) (c:Lib.itoa e.h=Lib.itoa f.h) (u:Lib.itoa e.t=Lib.itoa f.t) (j:Lib.itoa e.n=Lib.itoa f.n) (o:hexL e.p=hexL f.p) (m:pbe (bs e.x)=pbe (bs f.x)):e.code=f.code:=by
 unfold EvG.code EvG.text;rw [h1,a,g,d,c,u,j,o,m]
theorem pi9:prog.built 71 []=some evZ.toArray:=by kernel_rfl
theorem pgi:(prog.info? 71).map (·.size)=some evZ.toArray.size:=by
 rw [pcr];kernel_rfl
theorem phe:evZ.toArray.all (·.oneCell')=true:=by kernel_rfl
end Go.Proofs.YtkhjolbbpdaplaaGreatDoor
