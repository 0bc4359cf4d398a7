/- digest.Read: a hash's text, read: the walk and what follows. -/
import Derived.Test.YtkhjolbbpdaplaaGreatDoorHAG
import Derived.Lib.SplitLaws
namespace Go.Proofs.YtkhjolbbpdaplaaGreatDoor
set_option maxHeartbeats 4000000
open Go.RowKit Go.Proofs.Tryz
set_option maxRecDepth 100000
abbrev xt:=@List.mem_of_getElem?
abbrev zq:=@yieldsIf_load_mid
abbrev zI:=@Array.toList_setIfInBounds
abbrev uJ:=@List.map_congr_left
theorem prU (c w):Calls prog 176 #[.string ⟨#[48,49,50,51,52,53,54,55,56,57,97,98,99,100,101,102]⟩,.int .u8 (c.toNat:Int)] w (fun e w'=>e=.returned (.int .i64 (match digH c with | some n=>(n:Int) | none=>-1))/\w'=w):=by
 refine (Tryz.strings_IndexByte _ (c.toNat:Int) w).mono ?_;rintro e w' ⟨rfl,rfl⟩;refine ⟨?_,rfl⟩;have h:=pkz c;have a:((c.toNat:Int)).toNat.toUInt8=c:=by simp
 rw [a];exact xU (fun x=>Ending.returned (.int .i64 x)) h
theorem plR {c n} (h:digH c=some n) (w):Calls prog 176 #[.string ⟨#[48,49,50,51,52,53,54,55,56,57,97,98,99,100,101,102]⟩,.int .u8 (c.toNat:Int)] w (fun e w'=>e=.returned (.int .i64 (n:Int))/\w'=w):=by
 have:=prU c w;rw [h] at this;exact this
theorem plS {c} (h:digH c=none) (w):Calls prog 176 #[.string ⟨#[48,49,50,51,52,53,54,55,56,57,97,98,99,100,101,102]⟩,.int .u8 (c.toNat:Int)] w (fun e w'=>e=.returned (.int .i64 (-1))/\w'=w):=by
 have:=prU c w;rw [h] at this;exact this
def zero32:List UInt8:=List.replicate 32 0
theorem hashInfo {l} (h:l.length=32):(prog.info? 60).map (·.size)=some (byteVals l).toArray.size:=by
 rw [show (byteVals l).toArray.size=32 by simp [byteVals,h]];kernel_rfl
theorem hashOne (l):(byteVals l).toArray.all (·.oneCell')=true:=by
 rw [yg];intro v a;exact paL _ v (by simpa using a)
theorem AB.setRow {T w g c} (h:AB T w g c) (d):AB T (w.setRow g (byteVals d).toArray) g d:=xz w g _ _ _ _ h
theorem AB.other {T w g L j c} (h:AB T w g c) (n:g≠L) (v):AB T (w.setCell ⟨L,j,none⟩ v) g c:=by
 unfold AB at h ⊢;rw [((Upd.refl [L] w).setCell (p:=⟨L,j,none⟩) (by simp) v).block g (xq.1 h).1 (by simpa using n)];exact h
theorem pgd (s w):Calls prog 106 #[.string s] w (ptv (bs s) w):=by
 have C:zero32.length=32:=by simp [zero32]
 have u:AB 60 (w.alloc (.cells (byteVals zero32).toArray 60)) w.heap.size zero32:=xi _ _;by_cases Q:s.size=64
 case neg =>
  have v:=ah u;have q:=ah C;have hq:¬ (s.size:Int)=64:=by omega
  clear u C;go_in;go_wp2_with (refine yH rfl 60 _ _ rfl w.heap.size (byteVals zero32).toArray rfl rfl _ _ v.out (hashInfo q.out) rfl (hashOne _) ?_)
  refine xI (results_row_tmp rfl _ _ w.heap.size _ (byteVals zero32).toArray _ _ rfl (v.out.setRow zero32) underlying60 rfl (hashInfo q.out)) rfl ⟨zero32,false,por (by rw [pac];exact Q),rfl,(uR.alloc _).setRowNew (xj _) _⟩
 case pos =>
  have O:AB 60 ((w.alloc (.cells (byteVals zero32).toArray 60)).alloc (.cells (byteVals zero32).toArray 60)) (w.heap.size+1) zero32:=by
   have h:=xi (w.alloc (.cells (byteVals zero32).toArray 60)) (.cells (byteVals zero32).toArray 60);rw [yI] at h;exact h
  have v:=ah (u.upd ((Upd.refl [] _).alloc (.cells (byteVals zero32).toArray 60)));have ad:=ah O;have q:=ah C;have hq:(s.size:Int)=64:=by omega
  clear u O C;go_in;go_wp2;go_loopw [5,6,13] (fun _ _ i wr=>∃ k:Nat,i=.int .i64 (k:Int)/\k<=64/\Hid (AB 60 wr (w.heap.size+1) (pbt ((bs s).take k) ++ List.replicate (32 - (k+1) / 2) 0))/\Hid (AB 60 wr w.heap.size zero32)/\Hid (pf8 ((bs s).take k))/\Hid (Uq w wr)) (fun _ _ i _=>64 - (intOf i).toNat)
  case atStart=>exact ⟨0,rfl,xu _,ad.out,v.out,fun c h=>by simp at h,(uR.alloc _).alloc _⟩
  case round =>
   obtain ⟨k,rfl,hk,f,g,J,A⟩:=hrel;by_cases ac:k<64
   · have ag:k<s.size:=by omega
     have Y:=pc6 s k ag;have y:=ah Y;clear Y;have i0:(0:Int)<=(k:Int):=by omega
     have i1:(k:Int)<64:=by omega
     cases hd:digH s[k] with
     | none =>
      have HN:=ah (pot (t:=bs s) (xt y.out) hd);have x:=plS hd;clear hd;go_wp2_with fail;refine (x wr).mono ?_;rintro e U ⟨rfl,rfl⟩;go_wp2_with (refine yH rfl 60 _ _ rfl w.heap.size (byteVals zero32).toArray rfl rfl _ _ g.out (hashInfo q.out) rfl (hashOne _) ?_)
      refine xI (results_row_tmp rfl _ _ w.heap.size _ (byteVals zero32).toArray _ _ rfl (g.out.setRow zero32) underlying60 rfl (hashInfo q.out)) rfl ⟨zero32,false,HN.out,rfl,A.out.setRowNew (xj _) _⟩
     | some n =>
      obtain ⟨R,M⟩:=piY hd;have x:=plR hd;have P:Hid (pf8 ((bs s).take (k+1))):=by
       intro c N;rw [xN,y.out] at N;rcases yq.1 N with h | h
       · exact J.out c h
       · rw [show c=s[k] by simpa using h];exact ⟨n,hd⟩
      have ai:=ah hd;have S:=ah R;clear hd R;by_cases T:k % 2=0
      · obtain ⟨m,rfl⟩:∃ m,k=2 * m:=⟨k / 2,by omega⟩
        have d:=(f.out.set m (dv s[2 * m])).upd (Upd.refl [] _);rw [show (2 * m+1) / 2=m by omega,pou y.out (by omega)] at d;have K:=f.out.cell (j:=m) (b:=0) (by rw [show (2 * m+1) / 2=m by omega,xC (by rw [pby,xQ,pac];omega),zB,xH (by rw [pby,xQ,pac];omega)]);have af:=f.out.frozen m;have e1:((2 * m:Nat):Int).tdiv 2=(m:Int):=by rw [xP (by omega)];omega
        have e2:((2 * m:Nat):Int) / 2=(m:Int):=by omega
        have b0:(0:Int)<=(m:Int):=by omega
        have b1:(m:Int)<32:=by omega
        rw [show 32 - (m+1)=32 - (2 * m+1+1) / 2 by omega] at d;have r:=ah d;clear d T;go_wp2_with fail;refine (x wr).mono ?_;rintro e U ⟨rfl,rfl⟩;have vb:Go.bits .or .u8 0 (n:Int)=((dv s[2 * m]).toNat:Int):=by
         have h:=pfC 0 (by omega) n M;rw [S.out];simpa using h
        go_wp2_with fail;refine ⟨⟨2 * m+1,by go_num,by omega,r.out,g.out.other (by omega) _,P.out,A.out.setNew (p:=⟨_,_,none⟩) (by show w.heap.size<=w.heap.size+1;omega) _⟩,by simp [intOf];omega⟩
      · obtain ⟨m,rfl⟩:∃ m,k=2 * m+1:=⟨k / 2,by omega⟩
        have D:=pc6 s (2 * m) (by omega);obtain ⟨Z,X⟩:=pqP D y.out;obtain ⟨o,W⟩:∃ o,digH s[2 * m]=some o:=J.out s[2 * m] (by
         refine xt (i:=2 * m) ?_;rw [xR (by omega)];exact D)
        obtain ⟨E,aa⟩:=piY W;have a:=f.out;rw [show (2 * m+1+1) / 2=m+1 by omega] at a;have K:=a.cell Z;rw [E] at K;have d:=a.set m (UInt8.ofNat (16 * (dv s[2 * m]).toNat+(dv s[2 * m+1]).toNat));rw [X,E,S.out] at d;have af:=f.out.frozen m;have e1:((2 * m+1:Nat):Int).tdiv 2=(m:Int):=by rw [xP (by omega)];omega
        have e2:((2 * m+1:Nat):Int) / 2=(m:Int):=by omega
        have e3:(2 * (m:Int)+1) / 2=(m:Int):=by omega
        have b0:(0:Int)<=(m:Int):=by omega
        have b1:(m:Int)<32:=by omega
        rw [show 32 - (m+1)=32 - (2 * m+1+1+1) / 2 by omega] at d;have r:=ah d;have aj:=ah a;clear d a T Z X D W E f;go_wp2_with fail;refine (x wr).mono ?_;rintro e U ⟨rfl,rfl⟩;have vb:Go.bits .or .u8 ((o:Int) * 16) (n:Int)=((UInt8.ofNat (16 * o+n)).toNat:Int):=by
         have h:=pfC o aa n M;rw [show ((16 * o:Nat):Int)=(o:Int) * 16 by omega] at h;rw [h,yn,xV (by omega)]
        go_wp2_with fail;refine ⟨⟨2 * m+1+1,by go_num,by omega,r.out,g.out.other (by omega) _,P.out,A.out.setNew (p:=⟨_,_,none⟩) (by show w.heap.size<=w.heap.size+1;omega) _⟩,by simp [intOf];omega⟩
   · obtain rfl:k=64:=by omega
     obtain ⟨H,F⟩:=az (pbt (bs s));have a:=f.out;have G:=J.out;have ab:(bs s).length=64:=by rw [pac];exact Q
     rw [xy (by omega)] at a G;have z:=poq ab G;rw [show 32 - (64+1) / 2=0 by omega,zg,yl,<-F] at a;rw [<-F] at z;have B:=ah z.1;have HY:=ah z;have r:=ah a;clear a G z F f ac hk;go_wp2_with (first | (refine yM rfl 60 _ rfl (w.heap.size+1) rfl _ (byteVals H).toArray _ _ r.out underlying60 rfl (hashInfo B.out) ?_) | (refine yH rfl 60 _ _ rfl w.heap.size (byteVals H).toArray rfl rfl _ _ g.out (hashInfo B.out) (by simp [byteVals,B.out,q.out]) (hashOne _) ?_))
     refine xI (results_row_tmp rfl _ _ w.heap.size _ (byteVals H).toArray _ _ rfl (g.out.setRow H) underlying60 rfl (hashInfo B.out)) rfl ⟨H,true,HY.out,rfl,A.out.setRowNew (xj _) _⟩

def prV (w:World) (e:Ending) (w':World):Prop:=e=.returned (.bool true)/\Upd [] [] w w'
theorem poG (p t r s b w) (c:pab p) (d:pab r) (g:pab s) (k:t.size<=140737488355000) (a:Tabs w) (h:verB p (bs t) r s=b) :
 Calls prog 11 #[.int .i64 p,.string t,.agg #[.int .i64 r,.int .i64 s]] w (fun e w'=>e=.returned (.bool b)/\Uq w w'):=by
 refine (pdM p t r s w c d g k a).mono ?_;rintro e w' ⟨x,f,rfl,j⟩;exact ⟨by rw [f.out,h],j⟩
theorem ptx:Lib.itoa 3=[51]:=by
 show Lib.decDigits 3=_;rw [zE (by omega)];rfl
def RcAt (w:World) (g:Nat) (x:Rc):Prop:=w.heap[g]? =some (.cells (rcV x).toArray 62 (0,0))
theorem RcAt.upd {w w' g x} (h:RcAt w g x) (u:Uq w w'):RcAt w' g x:=paa h u
theorem RcAt.cell {w g x} (h:RcAt w g x) (j):w.cell? ⟨g,j,none⟩=(rcV x)[j]?:=by
 rw [xa w g j _ _ _ h,xD]
theorem RcAt.all {w g x} (h:RcAt w g x):w.rangeAt g 0 (rcV x):=by
 intro j v a;rw [h.cell,yB];exact a
theorem RcAt.head {w g x} (h:RcAt w g x):w.cell? ⟨g,0,none⟩=some (.int .i64 x.kiosk)/\w.cell? ⟨g,1,none⟩=some (.int .i64 x.serial)/\w.cell? ⟨g,2,none⟩=some (.string x.draw)/\w.cell? ⟨g,3,none⟩=some (.int .i64 x.seen) :=
 ⟨h.cell 0,h.cell 1,h.cell 2,h.cell 3⟩
theorem pge {A B C:List Value} {o j v} (c:A.length=o) (h:B[j]? =some v):(A ++ (B ++ C))[o+j]? =some v:=by
 have a:=(xe.1 h).1;rw [xC (by omega),show o+j - A.length=j by omega,yu a];exact h
theorem RcAt.ranges {w g x} (h:RcAt w g x) (c:x.ok):w.rangeAt g 4 (byteVals x.out)/\w.rangeAt g 36 (byteVals x.hash)/\w.rangeAt g 68 (byteVals x.prev):=by
 obtain ⟨_,_,_,h1,d,e,_⟩:=c;refine ⟨fun j v a=>?_,fun j v a=>?_,fun j v a=>?_⟩
 · rw [h.cell];exact pge rfl a
 · rw [h.cell];have:=pge (A:=[.int .i64 x.kiosk,.int .i64 x.serial,.string x.draw,.int .i64 x.seen] ++ byteVals x.out) (C:=byteVals x.prev ++ [.int .i64 x.r,.int .i64 x.s]) (o:=36) (by simp [pak,h1]) a;rw [xG] at this;exact this
 · rw [h.cell];have:=pge (A:=[.int .i64 x.kiosk,.int .i64 x.serial,.string x.draw,.int .i64 x.seen] ++ (byteVals x.out ++ byteVals x.hash)) (C:=[.int .i64 x.r,.int .i64 x.s]) (o:=68) (by simp [pak,h1,d]) a;rw [xG,xG] at this;exact this
theorem RcAt.sig {w g x} (h:RcAt w g x) (a:x.ok):w.cell? ⟨g,100,none⟩=some (.int .i64 x.r)/\w.cell? ⟨g,101,none⟩=some (.int .i64 x.s):=by
 obtain ⟨_,_,_,h1,c,e,_⟩:=a;have key:∀ j v,([.int .i64 x.r,.int .i64 x.s]:List Value)[j]? =some v->(rcV x)[100+j]? =some v:=by
  intro j v d;have:=pge (A:=[.int .i64 x.kiosk,.int .i64 x.serial,.string x.draw,.int .i64 x.seen] ++ (byteVals x.out ++ (byteVals x.hash ++ byteVals x.prev))) (C:=[]) (o:=100) (by simp [pak,h1,c,e]) d;rw [yl,xG,xG,xG] at this;exact this
 exact ⟨(h.cell 100).trans (key 0 _ rfl),(h.cell 101).trans (key 1 _ rfl)⟩
theorem pdy {x} (h:x.ok):(prog.info? 62).map (·.size)=some (rcV x).length:=by
 rw [paM h];kernel_rfl
theorem rcOne (x):(rcV x).toArray.all (·.oneCell')=true:=by
 rw [yg];intro v a;exact psj _ v (by simpa using a)
theorem plT (g c a w) (j:pf1 w g a) (q:a.length<=c) (r:a.length<=1000) (t:(Lib.join (a.map bs) [32]).length<=140737488355328) :
 Calls prog 108 #[.slice (some ⟨g,0,none⟩) a.length c] w (MkS (Lib.join (a.map bs) [32]) w):=by
 have o:Lib.join (a.map (·.data.toList)) (ByteArray.mk #[32]).data.toList=Lib.join (a.map bs) [32]:=rfl;have m:=ah o;have k:=ah j;clear o j;go_in;go_wp2_with fail;refine (Tryz.strings_Join g 0 c a ⟨#[32]⟩ w k.out.2 k.out.1 (by omega) q (by rw [m.out];omega)).mono ?_;rintro e u ⟨rfl,n⟩;have p:=paE n;clear n;rw [m.out];obtain ⟨T,d⟩:∃ T:ByteArray,T=⟨(Lib.join (a.map bs) [32]).toArray⟩:=⟨_,rfl⟩
 rw [<-d];have f:bs T=Lib.join (a.map bs) [32]:=by rw [d,pcM]
 have h:=ah f;clear d f;go_wp2;go_ret;exact ⟨T,h,by rw [<-h.out,pac];exact xj _,rfl,p⟩
def evV (c:UInt8) (r s:Int):List Value:=[.int .i64 5,.int .i64 4,.int .i64 3,.int .i64 0,.int .i64 0,.string ⟨#[c]⟩] ++ (byteVals zero32 ++ [.int .i64 r,.int .i64 s])
theorem pdz (c r s):(evV c r s).length=40:=by simp [evV,byteVals,zero32]
theorem pso (c r s):∀ u∈evV c r s,u.oneCell'=true:=by
 intro u hu;simp only [evV,yq,yo,zy,uY] at hu;rcases hu with (rfl | rfl | rfl | rfl | rfl | rfl) | hu | rfl | rfl
 all_goals first | rfl | exact paL _ _ hu
def tOf (c:UInt8):List UInt8:=tPre ++ [c]
def wEv:List UInt8:=[101,118,101,110,116]
def puK (c:UInt8):List UInt8:=[48,32,48,32] ++ tOf c
theorem phY (c):(tOf c).length=84:=by simp [tOf,tPre,phU]
theorem pgf (n:Nat) (h:n<10):Lib.itoa (n:Int)=[UInt8.ofNat (48+n)]:=by
 unfold Lib.itoa;rw [yy (by omega),xW,zE h]
theorem pty:Lib.itoa 5=[53]:=pgf 5 (by omega)
theorem ptz:Lib.itoa 4=[52]:=pgf 4 (by omega)
theorem poH:Lib.itoa 0=[48]:=pgf 0 (by omega)
theorem ptA:Lib.itoa 1=[49]:=pgf 1 (by omega)
theorem pqV:hexL zero32=phU:=by decide
theorem pqW (c):Lib.join [wEv,[53],[52],[51],[48],[48],phU,[49,58,c]] [32]=tOf c:=by
 simp [Lib.join,List.intercalate_cons_cons,tOf,tPre,wEv]
theorem pbd {c k a b} (h:c ∉ a):Lib.splitK [c] 0 (k+1) (a ++ c :: b)=a :: Lib.splitK [c] 0 k b:=by
 have e:=peM c a b h;have h1:(a ++ c :: b).take a.length=a:=List.take_left;have d:(a ++ c :: b).drop (a.length+1)=b:=by
  rw [show a ++ c :: b=(a ++ [c]) ++ b by simp,show a.length+1=(a ++ [c]).length by simp];exact List.drop_left
 rw [Lib.splitK,e,yy (by simp),xW,zY,h1];show a :: Lib.splitK [c] 0 k ((a ++ c :: b).drop (a.length+1))=_;rw [d]
theorem poI {s a k l} (h:Lib.splitK (bs a) 0 k (bs s)=l):Lib.splitB a 0 k s=l.map (fun x=>⟨x.toArray⟩):=by
 have e:=Lib.splitB_data a 0 k s;have c:(Lib.splitB a 0 k s).map (·.data.toList)=l:=e.trans h;rw [<-c,List.map_map]
 conv=>lhs;rw [<-List.map_id (Lib.splitB a 0 k s)]
 refine uJ fun x _=>?_;exact paT rfl
theorem poJ {c} (h:c≠32) {s} (a:bs s=tOf c):Lib.countB s ⟨#[32]⟩=7:=by
 have e:Lib.countB s ⟨#[32]⟩=(bs s).count 32:=Lib.count_one 32 (bs s);rw [e,a,tOf,List.count_append,show tPre.count 32=7 by decide,List.count_cons_of_ne (by simpa using h)];rfl
def rcS (g:Nat) (x:Rc) (w:World):Prop:=w.cell? ⟨g,0,none⟩=some (.int .i64 x.kiosk)/\w.cell? ⟨g,1,none⟩=some (.int .i64 x.serial)/\w.cell? ⟨g,2,none⟩=some (.string x.draw)/\w.cell? ⟨g,3,none⟩=some (.int .i64 x.seen)/\w.rangeAt g 4 (byteVals x.out)/\w.rangeAt g 36 (byteVals x.hash)/\w.rangeAt g 68 (byteVals x.prev)
theorem RcAt.s {w g x} (h:RcAt w g x) (a:x.ok):rcS g x w:=⟨h.head.1,h.head.2.1,h.head.2.2.1,h.head.2.2.2,(h.ranges a).1,(h.ranges a).2.1,(h.ranges a).2.2⟩
theorem peQ {l} (h:l.length=32):(prog.info? 60).map (·.size)=some (byteVals l).length:=by
 rw [pak,h];kernel_rfl
theorem pi1 (x k s n a b c) (h:bs k=Lib.itoa x.kiosk) (g:bs s=Lib.itoa x.serial) (f:bs n=Lib.itoa x.seen) (j:bs a=hexL x.out) (d:bs b=hexL x.hash) (e:bs c=hexL x.prev):Lib.join ([ByteArray.mk #[114,101,99,101,105,112,116],k,s,n,a,b,c,x.draw].map bs) [32]=pa1 x:=by
 simp only [zr,zU,h,g,f,j,d,e,Lib.join,pa1];simp [List.intercalate,wRc,bs]
theorem pcP {x} (a:x.ok):(pa1 x).length<=300+x.draw.size:=by
 obtain ⟨h1,c,f,e,d,g,_⟩:=a;have h:=itoa_len _ h1;have j:=itoa_len _ c;have k:=itoa_len _ f;unfold pa1;simp only [xr,xF,paO,e,d,g,pac];have:wRc.length=7:=rfl;omega
theorem pcQ (w:World) (a T):pf1 (w.alloc (.cells (a.map Value.string).toArray T)) w.heap.size a:=by
 refine ⟨by rw [yI];omega,fun j x c=>?_⟩;rw [xa _ _ _ _ _ _ (xi w _),xD,yB,ys,c];rfl
theorem plU (x) (g:x.ok) (hd:x.draw.size<=1000000000) (w) (q:Tabs w):Calls prog 43 #[.agg (rcV x).toArray] w (MkS (pa1 x) w):=by
 obtain ⟨C,v⟩:=az ((rcV x).toArray);have t:RcAt (w.alloc (.cells C 62)).drew w.heap.size x:=by
  rw [v];exact RcAt.upd (xi w _) uR.drew
 rw [<-v];clear v;have U:Uq w (w.alloc (.cells C 62)).drew:=(uR.alloc _).drew;have aa:=g;obtain ⟨h1,Z,P,J,S,X,_,_⟩:=aa;have l1:=itoa_len _ h1;have l2:=itoa_len _ Z;have l3:=itoa_len _ P;have p:prog.underlying 60=some (.array 32 5):=underlying60;have i1:=peQ J;have i2:=peQ S;have i3:=peQ X;obtain ⟨k0,k1,k2,k3,k4,k5,k6⟩:=t.s g;have M:∀ W,RcAt W w.heap.size x->(W.cell? ⟨w.heap.size,0,none⟩=some (.int .i64 x.kiosk)/\W.cell? ⟨w.heap.size,1,none⟩=some (.int .i64 x.serial)/\W.cell? ⟨w.heap.size,2,none⟩=some (.string x.draw)/\W.cell? ⟨w.heap.size,3,none⟩=some (.int .i64 x.seen)/\W.rangeAt w.heap.size 4 (byteVals x.out)/\W.rangeAt w.heap.size 36 (byteVals x.hash)/\W.rangeAt w.heap.size 68 (byteVals x.prev)):=fun W r=>r.s g;have d:=ah M;clear M;go_in;go_wp2_with fail;refine bH d t fun c=>?_;refine tkS [0,1,3,4,6,7,9] c ?_;refine tkT 10 c ?_ (y:=(zq (by rfl) _ _ rfl _ _ rfl (byteVals x.out) _ (fun w f=>f.2.2.2.2.1) p rfl i1));refine tkY 12 c ?_;refine tkT 13 c ?_ (y:=(zq (by rfl) _ _ rfl _ _ rfl (byteVals x.hash) _ (fun w f=>f.2.2.2.2.2.1) p rfl i2));refine tkY 15 c ?_;refine tkT 16 c ?_ (y:=(zq (by rfl) _ _ rfl _ _ rfl (byteVals x.prev) _ (fun w f=>f.2.2.2.2.2.2) p rfl i3));refine tkS [18,19] c ?_;refine tk1 2 fun K a=>?_;go_simp;refine (paA x.kiosk _ h1 (q.upd U)).mono ?_;rintro e w1 ⟨j,E,ai,rfl,hq⟩;have T:=t.upd hq;have Q:=U.trans hq;clear hq;go_wp2_with fail;refine tkK a (d.out _ T) fun c=>?_;clear a K;refine tk1 5 fun K a=>?_;go_simp;refine (paA x.serial _ Z (q.upd Q)).mono ?_;rintro e w2 ⟨n,B,af,rfl,hq⟩;have Y:=T.upd hq;have N:=Q.trans hq;clear hq;go_wp2_with fail;refine tkK a (d.out _ Y) fun c=>?_;clear a K;refine tk1 8 fun K a=>?_;go_simp;refine (paA x.seen _ P (q.upd N)).mono ?_;rintro e w3 ⟨m,A,ad,rfl,hq⟩;have R:=Y.upd hq;have u3:=N.trans hq;clear hq;go_wp2_with fail;refine tkK a (d.out _ R) fun c=>?_;clear a K;refine tk1 11 fun K a=>?_;go_simp;refine (pc5 x.out J _).mono ?_;rintro e w4 ⟨k,D,ab,rfl,hq⟩;have r4:=R.upd hq;have u4:=u3.trans hq;clear hq;go_wp2_with fail;refine tkK a (d.out _ r4) fun c=>?_;clear a K;refine tk1 14 fun K a=>?_;go_simp;refine (pc5 x.hash S _).mono ?_;rintro e w5 ⟨o,H,ag,rfl,hq⟩;have O:=r4.upd hq;have u5:=u4.trans hq;clear hq;go_wp2_with fail;refine tkK a (d.out _ O) fun c=>?_;clear a K;refine tk1 17 fun K a=>?_;go_simp;refine (pc5 x.prev X _).mono ?_;rintro e w6 ⟨h,F,ac,rfl,hq⟩;have u:=O.upd hq;have u6:=u5.trans hq;clear hq;go_wp2_with fail;refine tkK a (d.out _ u) fun c=>?_;clear a K;refine tk1 20 fun K a=>?_;go_simp;refine tkK a (d.out _ (u.upd ((Upd.refl [] _).alloc _))) fun c=>?_;clear a K;refine tk1 21 fun K a=>?_;go_simp;refine (plT _ 8 [ByteArray.mk #[114,101,99,101,105,112,116],j,n,m,k,o,h,x.draw] _ (pcQ w6 [ByteArray.mk #[114,101,99,101,105,112,116],j,n,m,k,o,h,x.draw] 9) (xj 8) (by show 8<=1000;omega) (by rw [pi1 x j n m k o h E.out B.out A.out D.out H.out F.out];exact xB (pcP g) (by omega))).mono ?_;rintro e w7 ⟨z,HZ,hz,rfl,hq⟩;have r7:=u.upd (((Upd.refl [] _).alloc _).trans hq);have u7:=u6.trans (((Upd.refl [] _).alloc _).trans hq);clear hq;go_wp2_with fail;refine tkK a (d.out _ r7) fun c=>?_;clear a K;refine tkY 22 c ?_;refine tkD ?_;go_wp2;go_ret;have G:=HZ.out;rw [pi1 x j n m k o h E.out B.out A.out D.out H.out F.out] at G hz;exact ⟨z,G,hz,rfl,u7⟩
theorem plV (off):∀ (V:List Value) (s:Nat) (A B C:List Value),A.length=off+s->B.length=V.length->(V.zipIdx s).foldl (fun (cs:Array Value) (p:Value × Nat)=>cs.setIfInBounds (off+p.2) p.1) (A ++ (B ++ C)).toArray=(A ++ (V ++ C)).toArray
 | [],s,A,B,C,hA,hB=>by
  have:B=[]:=ze (by simpa using hB)
  subst this
  rfl
 | v :: V,s,A,[],C,hA,hB=>by simp at hB
 | v :: V,s,A,b :: B,C,hA,hB=>by
  rw [List.zipIdx_cons,List.foldl_cons]
  have e:((A ++ (b :: B ++ C)).toArray.setIfInBounds (off+s) v)=((A ++ [v]) ++ (B ++ C)).toArray:=by
   apply Array.ext';rw [zI];show (A ++ (b :: B ++ C)).set (off+s) v=(A ++ [v]) ++ (B ++ C);rw [ya _ _ (by omega),<-hA,yC];simp
  show (V.zipIdx (s+1)).foldl _ ((A ++ (b :: B ++ C)).toArray.setIfInBounds (off+s) v)=_;rw [e,plV off V (s+1) (A ++ [v]) B C (by simp;omega) (by simpa using hB)];simp
theorem pqX (off) (V A B C:List Value) (c:A.length=off) (a:B.length=V.length):V.toArray.zipIdx.foldl (fun (cs:Array Value) (p:Value × Nat)=>cs.setIfInBounds (off+p.2) p.1) (A ++ (B ++ C)).toArray=(A ++ (V ++ C)).toArray:=by
 have h:=plV off V 0 A B C (by omega) a;rw [<-Array.foldl_toList,Array.toList_zipIdx];exact h
def rcPl:Array (Nat × Nat):=#[(0,1),(1,1),(2,1),(3,1),(4,32),(36,32),(68,32),(100,2)]
theorem pqY (ps):prog.built 62 ps=Instr.fill (rcPl[·]?) (rcV Rc.zero).toArray ps:=by kernel_rfl
theorem pbZ {pl i off n v} {V A B C:List Value} {r} (c:pl i=some (off,n)) (a:v.cells=V.toArray) (g:V.length=n) (e:A.length=off) (h:B.length=n):Instr.fill pl (A ++ (B ++ C)).toArray ((i,v) :: r)=Instr.fill pl (A ++ (V ++ C)).toArray r:=by
 rw [Instr.fill,c];have d:v.cells.size=n:=by rw [a];simpa using g
 have f:¬ (decide (v.cells.size≠n) || decide (off+v.cells.size > (A ++ (B ++ C)).toArray.size))=true:=by
  rw [d];simp;omega
 show (if (decide (v.cells.size≠n) || decide (off+v.cells.size > (A ++ (B ++ C)).toArray.size))=true then none else _)=_;rw [yy f,a];exact xU (fun z=>Instr.fill pl z r) (pqX off V A B C e (by omega))
theorem pkC (k s n d a b c) (h:a.length=32) (m:b.length=32) (o:c.length=32) :
 prog.built 62 [(0,.int .i64 k),(1,.int .i64 s),(2,.string d),(3,.int .i64 n),(4,.agg (byteVals a).toArray),(5,.agg (byteVals b).toArray),(6,.agg (byteVals c).toArray)]=some (rcV ⟨k,s,n,d,a,b,c,0,0⟩).toArray:=by
 rw [pqY];have e:(byteVals zero32).length=32:=by simp [pak,zero32]
 have f:(byteVals a).length=32:=by rw [pak,h]
 have g:(byteVals b).length=32:=by rw [pak,m]
 have p:(byteVals c).length=32:=by rw [pak,o]
 have j:(rcV Rc.zero).toArray=([] ++ ([Value.int .i64 0] ++ ([Value.int .i64 0,Value.string ByteArray.empty,Value.int .i64 0] ++ (byteVals zero32 ++ (byteVals zero32 ++ (byteVals zero32 ++ [Value.int .i64 0,Value.int .i64 0])))))).toArray:=rfl;rw [j,pbZ (off:=0) (n:=1) (V:=[Value.int .i64 k]) rfl rfl rfl rfl rfl];rw [show ([] ++ ([Value.int .i64 k] ++ ([Value.int .i64 0,Value.string ByteArray.empty,Value.int .i64 0] ++ (byteVals zero32 ++ (byteVals zero32 ++ (byteVals zero32 ++ [Value.int .i64 0,Value.int .i64 0]))))):List Value)=[Value.int .i64 k] ++ ([Value.int .i64 0] ++ ([Value.string ByteArray.empty,Value.int .i64 0] ++ (byteVals zero32 ++ (byteVals zero32 ++ (byteVals zero32 ++ [Value.int .i64 0,Value.int .i64 0]))))) from rfl,pbZ (off:=1) (n:=1) (V:=[Value.int .i64 s]) rfl rfl rfl rfl rfl];rw [show ([Value.int .i64 k] ++ ([Value.int .i64 s] ++ ([Value.string ByteArray.empty,Value.int .i64 0] ++ (byteVals zero32 ++ (byteVals zero32 ++ (byteVals zero32 ++ [Value.int .i64 0,Value.int .i64 0]))))):List Value)=[Value.int .i64 k,Value.int .i64 s] ++ ([Value.string ByteArray.empty] ++ ([Value.int .i64 0] ++ (byteVals zero32 ++ (byteVals zero32 ++ (byteVals zero32 ++ [Value.int .i64 0,Value.int .i64 0]))))) from rfl,pbZ (off:=2) (n:=1) (V:=[Value.string d]) rfl rfl rfl rfl rfl];rw [show ([Value.int .i64 k,Value.int .i64 s] ++ ([Value.string d] ++ ([Value.int .i64 0] ++ (byteVals zero32 ++ (byteVals zero32 ++ (byteVals zero32 ++ [Value.int .i64 0,Value.int .i64 0]))))):List Value)=[Value.int .i64 k,Value.int .i64 s,Value.string d] ++ ([Value.int .i64 0] ++ (byteVals zero32 ++ (byteVals zero32 ++ (byteVals zero32 ++ [Value.int .i64 0,Value.int .i64 0])))) from rfl,pbZ (off:=3) (n:=1) (V:=[Value.int .i64 n]) rfl rfl rfl rfl rfl];rw [show ([Value.int .i64 k,Value.int .i64 s,Value.string d] ++ ([Value.int .i64 n] ++ (byteVals zero32 ++ (byteVals zero32 ++ (byteVals zero32 ++ [Value.int .i64 0,Value.int .i64 0])))):List Value)=[Value.int .i64 k,Value.int .i64 s,Value.string d,Value.int .i64 n] ++ (byteVals zero32 ++ (byteVals zero32 ++ (byteVals zero32 ++ [Value.int .i64 0,Value.int .i64 0]))) from rfl,pbZ (off:=4) (n:=32) (V:=byteVals a) rfl rfl f rfl e];rw [<-xG,pbZ (off:=36) (n:=32) (V:=byteVals b) rfl rfl g (by simp [f]) e];rw [<-xG,pbZ (off:=68) (n:=32) (V:=byteVals c) rfl rfl p (by simp [f,g]) e];rw [Instr.fill];simp [rcV]
end Go.Proofs.YtkhjolbbpdaplaaGreatDoor
