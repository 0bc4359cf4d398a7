/- sortesref06.Text, number, Read and what follows. -/
import Derived.Lib.AsciiSet
import Derived.Test.YtkhjolbbpdaplaaGreatDoorHAS
namespace Go.Proofs.YtkhjolbbpdaplaaGreatDoor
set_option maxHeartbeats 2000000
open Go.RowKit Go.Proofs.Tryz
set_option maxRecDepth 100000
abbrev uU:=@Lib.join_one
abbrev vl:=@List.contains_iff_mem
theorem pnf (r s w) (f:pab r) (h:pab s):Calls prog 155 #[.agg #[.int .i64 r,.int .i64 s]] w (MkS (pb4 r s) w):=by
 have h1:=ProofAt.start w r s;have g:=h1.upd uR.drew;have o:=g.cells;have C:=itoa_len r f;have A:=itoa_len s h;go_in;go_wp2_with fail;clear h1;go_region_held3 (fun j=>j.cell? ⟨w.heap.size,0,none⟩=some (.int .i64 r)/\j.cell? ⟨w.heap.size,1,none⟩=some (.int .i64 s)) (first | exact o | assumption)
  (first
   | (go_at_call 198;((with_reducible refine (pcF r _ f).mono ?_);rintro e n ⟨d,c,z,rfl,hq⟩;have y:¬ 9223372036854775807<d.size+1:=(by omega);have k:=g.upd hq;have t:=k.cells;clear hq))
   | (go_at_call 198;((with_reducible refine (pcF s _ h).mono ?_);rintro e n ⟨p,a,x,rfl,hq⟩;have B:¬ 9223372036854775807<d.size+1+p.size:=(by omega);have m:=k.upd hq;have t:=m.cells;clear hq)))
 go_wp2;go_ret;refine ⟨_,?_,?_,rfl,m.up⟩
 · show _=_;rw [pae,pae,c.out,a.out];rfl
 · have q:=paF c.out;have v:=paF a.out;have u:(ByteArray.mk #[46]).size=1:=rfl;simp [ByteArray.size_append,pb4,q,v,u];omega
def pkZ (S:List UInt8) (s r:ByteArray):Prop:=((∀ c∈bs s,c∈S) ↔ r.size=0)/\(r.size≠0->∃ c∈bs r,c ∉ S)
def psL (w:World) (b:Nat) (S:List UInt8):Prop:=∀ x:UInt8,w.cell? ⟨b,x.toNat,none⟩=some (.bool (S.contains x))
def prg:Value->Nat
 | .string t=>t.size
 | _=>0
theorem psM {S:List UInt8} {t} (h:t.size=0):∀ c∈bs t,c∈S:=by
 intro c a;have:bs t=[]:=uk.1 (by rw [pac];exact h);rw [this] at a
 cases a
theorem phw {S s t} (e:(∀ c∈bs s,c∈S) ↔ (∀ c∈bs t,c∈S)) {x} (a:x∈bs t) (f:S.contains x=false):pkZ S s t:=by
 have d:x ∉ S:=by
  intro h;have:=vl.2 h;rw [f] at this
  cases this
 refine ⟨⟨fun h=>absurd (e.1 h x a) d,fun h=>?_⟩,fun _=>⟨x,a,d⟩⟩;have:bs t=[]:=uk.1 (by rw [pac];exact h);rw [this] at a
 cases a
theorem pju {S s t} (a:(∀ c∈bs s,c∈S) ↔ (∀ c∈bs t,c∈S)) (h:t.size=0):pkZ S s t:=⟨⟨fun _=>h,fun _=>a.2 (psM h)⟩,fun d=>absurd h d⟩
theorem ppv {S:List UInt8} {t} (h:0<t.size) (d:S.contains t[0]=true):(∀ c∈bs t,c∈S) ↔ (∀ c∈bs (t.extract 1 t.size),c∈S):=by
 rw [phX,poF t h];simp only [yo,List.drop_succ_cons,zN];exact ⟨fun k c a=>k c (.inr a),fun k c a=>a.elim (fun e=>by rw [e];exact vl.1 d) (k c)⟩
theorem psN (t) (h:0<t.size):bs t=bs (t.extract 0 (t.size - 1)) ++ [t[t.size - 1]]:=by
 rw [pkB];have c:=pc6 t (t.size - 1) (by omega);have a:(bs t).take (t.size - 1+1)=(bs t).take (t.size - 1) ++ [t[t.size - 1]]:=by rw [xN,c];rfl
 rw [show t.size - 1+1=t.size by omega,xy (by rw [pac];omega)] at a;exact a
theorem prh {S:List UInt8} {t} (h:0<t.size) (d:S.contains (t[t.size - 1]'(by omega))=true):(∀ c∈bs t,c∈S) ↔ (∀ c∈bs (t.extract 0 (t.size - 1)),c∈S):=by
 rw [psN t h];simp only [yq,zl];exact ⟨fun k c a=>k c (.inl a),fun k c a=>a.elim (k c) (fun e=>by rw [e];exact vl.1 d)⟩
def ptP (S:List UInt8) (s:ByteArray) (w:World) (e:Ending) (w':World):Prop:=∃ r:ByteArray,Hid (pkZ S s r)/\r.size<=s.size/\e=.returned (.string r)/\w=w'
theorem pk0 (S s b w) (j:psL w b S) (_hs:s.size<=1000000000):Calls prog 231 #[.string s,.pointer (some ⟨b,0,none⟩)] w (ptP S s w):=by
 have m:=ah (fun x:UInt8=>Tryz.asciiSet_contains b x (S.contains x) w (j x));clear j;go_in;go_wp2;go_loop [0] (fun v=>∃ (t:ByteArray),v=.string t/\t.size<=s.size/\Hid ((∀ c∈bs s,c∈S) ↔ (∀ c∈bs t,c∈S))) (fun v=>prg v)
 case atStart=>exact ⟨s,rfl,xj _,Iff.rfl⟩
 case round =>
  obtain ⟨t,rfl,g,d⟩:=hrel;by_cases h:0<t.size
  · go_wp2_with fail;refine (m.out t[0]).mono ?_;rintro e w' ⟨rfl,rfl⟩;by_cases a:S.contains t[0]=true
    · have k:Hid ((∀ c∈bs s,c∈S) ↔ (∀ c∈bs (t.extract 1 t.size),c∈S)):=d.out.trans (ppv h a);have n:(t.extract 1 t.size).size=t.size - 1:=by rw [zH];omega
      rw [a];clear a d;go_wp2_with fail;exact ⟨⟨_,rfl,by omega,k⟩,by simp only [prg];omega⟩
    · have a:S.contains t[0]=false:=by rw [<-yK];exact a
      have f:Hid (pkZ S s t):=phw d.out (by rw [poF t h];exact List.mem_cons_self) a;rw [a];clear a d;go_wp2;go_ret;exact ⟨t,f,g,rfl,rfl⟩
  · have f:Hid (pkZ S s t):=pju d.out (by omega);go_wp2;go_ret;exact ⟨t,f,g,rfl,rfl⟩
theorem pjv (S s b w) (k:psL w b S) (r:s.size<=1000000000):Calls prog 249 #[.string s,.pointer (some ⟨b,0,none⟩)] w (ptP S s w):=by
 have p:=ah (fun x:UInt8=>Tryz.asciiSet_contains b x (S.contains x) w (k x));clear k;go_in;go_wp2;go_loop [0] (fun v=>∃ (t:ByteArray),v=.string t/\t.size<=s.size/\Hid ((∀ c∈bs s,c∈S) ↔ (∀ c∈bs t,c∈S))) (fun v=>prg v)
 case atStart=>exact ⟨s,rfl,xj _,Iff.rfl⟩
 case round =>
  obtain ⟨t,rfl,g,d⟩:=hrel;by_cases m:0<t.size
  · obtain ⟨z,j⟩:=ae (t.size - 1);have n:z<t.size:=by omega
    have u:IntKind.i64.wrap ((t.size:Int) - 1)=(z:Int):=(pam (by omega) (by omega)).trans (by omega);go_wp2_with fail;refine (p.out t[z]).mono ?_;rintro e w' ⟨rfl,rfl⟩;by_cases a:S.contains t[z]=true
    · have o:Hid ((∀ c∈bs s,c∈S) ↔ (∀ c∈bs (t.extract 0 z),c∈S)):=by
       have h:=prh m (S:=S) (by simp only [j];exact a);rw [j] at h;exact d.out.trans h
      have q:(t.extract 0 z).size=z:=by rw [zH];omega
      rw [a];clear a d;go_wp2_with fail;exact ⟨⟨_,rfl,by omega,o⟩,by simp only [prg];omega⟩
    · have a:S.contains t[z]=false:=by rw [<-yK];exact a
      have f:Hid (pkZ S s t):=phw d.out (xt (pc6 t z n)) a;rw [a];clear a d;go_wp2;go_ret;exact ⟨t,f,g,rfl,rfl⟩
  · have f:Hid (pkZ S s t):=pju d.out (by omega);go_wp2;go_ret;exact ⟨t,f,g,rfl,rfl⟩
def hx16:List UInt8:=[48,49,50,51,52,53,54,55,56,57,97,98,99,100,101,102]
def puq:ByteArray:=⟨#[48,49,50,51,52,53,54,55,56,57,97,98,99,100,101,102]⟩
theorem png:∀ (j:Nat) (b),hx16[j]? =some b->b.toNat<128:=by
 intro j b h;have a:=xt h;revert b;simp only [hx16,yo,zy,uY];intro b _ a;rcases a with rfl | rfl | rfl | rfl | rfl | rfl | rfl | rfl | rfl | rfl | rfl | rfl | rfl | rfl | rfl | rfl <;> decide
theorem psO (w):(zeroValue 258).run prog w=.ok (.agg (Array.replicate 256 (.bool false))) w:=by kernel_rfl
theorem pur (w):Calls prog 230 #[.string ⟨#[48,49,50,51,52,53,54,55,56,57,97,98,99,100,101,102]⟩] w (fun e w'=>e=.returned (.tuple #[.agg (Lib.setCells hx16),.bool true])/\Uq w w'):=by
 refine (Tryz.strings_makeASCIISet psO puq w (by decide) png).mono ?_;rintro e w' ⟨rfl,rfl⟩;exact ⟨rfl,uR.alloc _⟩
def ptQ (s:ByteArray) (w:World) (e:Ending) (w':World):Prop:=∃ r:ByteArray,Hid (r.size=0 ↔ ∀ c∈bs s,c∈hx16)/\e=.returned (.string r)/\Upd [] [] w w'
theorem psP (s) (H:s.size<=1000000000) (h0:0<s.size) (w):Calls prog 207 #[.string s,.string ⟨#[48,49,50,51,52,53,54,55,56,57,97,98,99,100,101,102]⟩] w (ptQ s w):=by
 have E:(s.toList == [])=false:=by
  rw [xm,ne_eq,yi];intro e;have:s.size=0:=by rw [<-pac];exact xU List.length e
  omega
 have P:s.toList.isEmpty=false:=by simpa using E
 have k:=ah (pur w);obtain ⟨C,d⟩:=ae (Lib.setCells hx16);have o:Hid (C.size=256):=by rw [<-d];exact Lib.setCells_size _
 have A:Fo C:=by rw [<-d];exact Lib.setCells_one _
 have D:Fi 258 C:=by show _=_;rw [o.out];kernel_rfl
 have B:Hid ((Tryz.zeroCells258).size=C.size):=by show _=_;rw [o.out];kernel_rfl
 have G:Hid (∀ x:UInt8,C[x.toNat]? =some (.bool (hx16.contains x))):=by rw [<-d];exact Lib.setCells_at hx16
 rw [d] at k;clear d;go_in;go_wp2_with fail;refine k.out.mono ?_;rintro e p ⟨rfl,t⟩;obtain ⟨a,q,v,z,n⟩:=paz p 258 Tryz.zeroCells258 C;obtain ⟨f,F⟩:=ae (p.heap.size);rw [F] at q v z;have K:=ah (t.trans n);have m:Hid (∀ W,Uq a W->psL W f hx16):=fun W u x=>(xa _ f x.toNat _ _ _ (paa z.out u)).trans (G.out x);clear t k n;go_wp2_with (refine bS q D B A v ?_)
 refine (pjv hx16 s f a (m.out a uR) H).mono ?_;rintro e M ⟨r,j,R,rfl,rfl⟩;go_wp2_with fail;refine (pk0 hx16 r f a (m.out a uR) (by omega)).mono ?_;rintro e M ⟨y,J,Q,rfl,rfl⟩;go_wp2;go_ret;refine ⟨y,?_,rfl,K.out⟩;show _ ↔ _;constructor
 · intro h;by_cases g:r.size=0
   · exact j.out.1.2 g
   · obtain ⟨c,N,O⟩:=j.out.2 g;exact absurd (J.out.1.2 h c N) O
 · intro h;have g:=j.out.1.1 h;omega
def pcb (l:List UInt8) (W:List (List UInt8)):Prop:=(∀ x∈W,(32:UInt8) ∉ x)/\W≠[]/\Lib.join W [32]=l
theorem pcG (x y r a):Lib.join (x :: y :: r) a=x ++ (a ++ Lib.join (y :: r) a):=by
 rw [vz,vz];simp [Lib.joinTail]
theorem pcj:∀ W V l,pcb l W->pcb l V->W=V
 | [],_,_,h,_=>absurd rfl h.2.1
 | _ :: _,[],_,_,h=>absurd rfl h.2.1
 | [x],[y],l,h,k=>by
  have h1:=h.2.2
  have c:=k.2.2
  rw [uU] at h1 c
  rw [h1,c]
 | [x],y :: z :: r,l,h,k=>by
  have h1:=h.2.2
  have c:=k.2.2
  rw [uU] at h1
  rw [pcG] at c
  have:(32:UInt8)∈x:=by rw [h1,<-c];simp
  exact absurd this (h.1 x (by simp))
 | y :: z :: r,[x],l,k,h=>by
  have h1:=h.2.2
  have c:=k.2.2
  rw [uU] at h1
  rw [pcG] at c
  have:(32:UInt8)∈x:=by rw [h1,<-c];simp
  exact absurd this (h.1 x (by simp))
 | x :: y :: r,u :: v :: q,l,h,k=>by
  have h1:=h.2.2
  have c:=k.2.2
  rw [pcG] at h1 c
  have f:=pbH 32 x (Lib.join (y :: r) [32]) (h.1 x (by simp))
  have d:=pbH 32 u (Lib.join (v :: q) [32]) (k.1 u (by simp))
  have g:x ++ 32 :: Lib.join (y :: r) [32]=l:=h1
  have m:u ++ 32 :: Lib.join (v :: q) [32]=l:=c
  rw [g] at f
  rw [m,f] at d
  injection d with d c3
  injection c3 with c3 _
  have j:=pcj (y :: r) (v :: q) (Lib.join (y :: r) [32]) ⟨fun a e=>h.1 a (by simp [List.mem_cons.1 e]),by simp,rfl⟩ ⟨fun a e=>k.1 a (by simp [List.mem_cons.1 e]),by simp,c3.symm⟩
  rw [d,j]
theorem ppw (a k l):Lib.splitK a 0 k l≠[]:=by
 cases k with
 | zero=>simp [Lib.splitK]
 | succ k =>
  unfold Lib.splitK;split <;> simp
theorem pfl:∀ k l,l.count 32=k->pcb l (Lib.splitK [32] 0 k l)
 | 0,l,h=>⟨fun x hx=>by
  simp only [Lib.splitK,zl] at hx
  rw [hx]
  exact List.count_eq_zero.1 h,by simp [Lib.splitK],by rw [Lib.splitK,uU]⟩
 | k+1,l,h=>by
  obtain ⟨a,b,rfl,c⟩:=ped 32 l (List.count_pos_iff.1 (by omega))
  have f:b.count 32=k:=by
   rw [List.count_append,List.count_eq_zero.2 c,List.count_cons_self] at h;omega
  have d:=pfl k b f;rw [pbd c];refine ⟨fun x hx=>?_,by simp,?_⟩
  · rcases yo.1 hx with rfl | hx
    · exact c
    · exact d.1 x hx
  · obtain ⟨y,r,e⟩:=List.exists_cons_of_ne_nil (ppw [32] k b);rw [e,pcG,<-e,d.2.2];rfl
theorem pjw (s):pcb (bs s) ((Lib.splitB ⟨#[32]⟩ 0 (Lib.countB s ⟨#[32]⟩) s).map bs):=by
 have e:Lib.countB s ⟨#[32]⟩=(bs s).count 32:=Lib.count_one 32 (bs s);have h:=Lib.splitB_data ⟨#[32]⟩ 0 (Lib.countB s ⟨#[32]⟩) s;have a:(Lib.splitB ⟨#[32]⟩ 0 (Lib.countB s ⟨#[32]⟩) s).map bs=Lib.splitK [32] 0 (Lib.countB s ⟨#[32]⟩) (bs s):=h;rw [a,e];exact pfl _ _ rfl
structure Bal where
 k:List UInt8
 h:Int
 v:Int
 x:List UInt8
def kPro:List UInt8:=[112,114,111,112,111,115,101]
def kPre:List UInt8:=[112,114,101,112,97,114,101]
def kCom:List UInt8:=[99,111,109,109,105,116]
def Bal.ok (b:Bal):Prop:=(b.k=kPro\/b.k=kPre\/b.k=kCom)/\(0<=b.h/\b.h<=1000000000)/\(0<=b.v/\b.v<=1000000000)/\2<=b.x.length/\b.x.length<=400/\b.x.length % 2=0/\∀ c∈b.x,c∈hx16
def Bal.words (b:Bal):List (List UInt8):=[b.k,Lib.itoa b.h,Lib.itoa b.v,b.x]
def Bal.text (b:Bal):List UInt8:=Lib.join b.words [32]
def Bal.key (b:Bal):List UInt8:=Lib.join [b.k,Lib.itoa b.h,Lib.itoa b.v] [32]
def pbk (l:List UInt8) (b:Bal):Prop:=b.ok/\l=b.text
theorem ppx:∀ c∈hx16,c≠32:=by decide
theorem Bal.ok.no32 {b:Bal} (h:b.ok):∀ x∈b.words,(32:UInt8) ∉ x:=by
 intro x a;simp only [Bal.words,yo,zy,uY] at a;rcases a with rfl | rfl | rfl | rfl
 · rcases h.1 with e | e | e <;> rw [e] <;> decide
 · exact itoa_no32 _
 · exact itoa_no32 _
 · exact fun c=>ppx 32 (h.2.2.2.2.2.2 32 c) rfl
theorem pbk.words {l:List UInt8} {b:Bal} (h:pbk l b) {W:List (List UInt8)} (a:pcb l W):W=b.words :=
 pcj _ _ l a ⟨h.1.no32,by simp [Bal.words],h.2.symm⟩
theorem pjx {l a b} (c:pbk l a) (d:pbk l b):a=b:=by
 have e:=d.words ⟨c.1.no32,by simp [Bal.words],c.2.symm⟩;obtain ⟨⟨_,o,j,_⟩,_⟩:=c;obtain ⟨⟨_,n,m,_⟩,_⟩:=d
 cases a with
 | mk k h v x =>
 cases b with
 | mk k' h' v' x' =>
 simp only [Bal.words,um,uZ] at e;dsimp only at *;obtain ⟨rfl,g,f,rfl⟩:=e;obtain rfl:=paQ (by unfold pab;omega) (by unfold pab;omega) g;obtain rfl:=paQ (by unfold pab;omega) (by unfold pab;omega) f;rfl
theorem psQ {a b:Bal} (d:a.ok) (g:b.ok):a.key=b.key ↔ (a.k=b.k/\a.h=b.h/\a.v=b.v):=by
 constructor
 · intro h;have f:pcb a.key [a.k,Lib.itoa a.h,Lib.itoa a.v]:=⟨fun x c=>d.no32 x (by simp only [Bal.words,yo,zy,uY] at c ⊢;rcases c with h | h | h <;> simp [h]),by simp,rfl⟩
   have m:pcb b.key [b.k,Lib.itoa b.h,Lib.itoa b.v]:=⟨fun x c=>g.no32 x (by simp only [Bal.words,yo,zy,uY] at c ⊢;rcases c with h | h | h <;> simp [h]),by simp,rfl⟩
   rw [h] at f;have e:=pcj _ _ _ f m;simp only [um,uZ] at e;obtain ⟨_,r,o,_⟩:=d;obtain ⟨_,q,p,_⟩:=g;exact ⟨e.1,paQ (by unfold pab;omega) (by unfold pab;omega) e.2.1,paQ (by unfold pab;omega) (by unfold pab;omega) e.2.2⟩
 · rintro ⟨h1,n,j⟩;unfold Bal.key;rw [h1,n,j]
def pfr (x v c z:Int):List UInt8:=Lib.join [Lib.itoa x,Lib.itoa v,Lib.itoa c,Lib.itoa z] [32]
theorem pgu (x v c z):pcb (pfr x v c z) [Lib.itoa x,Lib.itoa v,Lib.itoa c,Lib.itoa z] :=
 ⟨fun y a=>by
  simp only [yo,zy,uY] at a
  rcases a with rfl | rfl | rfl | rfl <;> exact itoa_no32 _,by simp,rfl⟩
theorem pjy (x v c z) (h1:pab x) (a:pab v) (e:pab c) (d:pab z):(pfr x v c z).length<=83:=by
 have f:=itoa_len x h1;have h:=itoa_len v a;have j:=itoa_len c e;have g:=itoa_len z d;simp [pfr,Lib.join,List.intercalate_cons_cons];omega
def pri (l:List UInt8):Nat:=puo (numN (sha ([101,47] ++ l)) % 2305843009213691578)
theorem ppy (l):memN (pri l):=by
 have h:numN (sha ([101,47] ++ l)) % 2305843009213691578<2305843009213691578:=yP _ (by omega);exact pre (by omega) (by show _<2305843009213691579;omega)
theorem pjz (s w) (B:s.size<=281474976710000) :
 Calls prog 149 #[.string s] w (MkN 2305843009213691579 (pri (bs s)) w):=by
 go_in;go_wp2_with fail;refine (phW _ w (by have:(ByteArray.mk #[101,47]).size=2:=rfl;simp [ByteArray.size_append];omega)).mono ?_;rintro e n ⟨rfl,m⟩;have f:bs (⟨#[101,47]⟩ ++ s)=[101,47] ++ bs s:=by rw [pae];rfl
 rw [f];clear f;obtain ⟨h,a⟩:=az (sha ([101,47] ++ bs s));have d:h.length=32:=by rw [a,pbP]
 rw [<-a];obtain ⟨cs,c⟩:=az ((byteVals h).toArray);rw [<-c];have y:=ah a;have x:=ah d;have k:=ah c;clear a d c;go_wp2_with fail;rw [k.out];refine (pga h x.out n).mono ?_;rintro e u ⟨r,p,D,rfl,g⟩;obtain ⟨q,hq⟩:=az (r % 2305843009213691578);have A:q<2305843009213691578:=by rw [hq];exact yP _ (by omega)
 have j:((r:Int) % 2305843009213691578)=(q:Int):=by rw [hq];simp
 have F:Int.tmod (r:Int) 2305843009213691578=(q:Int):=by rw [xO (by omega)];exact j
 have C:IntKind.i64.wrap (1+(q:Int))=((q+1:Nat):Int):=by rw [pam (by omega) (by omega)];omega
 have o:=ah hq;clear hq;go_wp2_with fail;refine (ppr (q+1) (q+1) u (by omega) (by omega)).mono ?_;rintro e E ⟨t,z,v,rfl,rfl⟩;go_wp2;go_ret;refine ⟨t,?_,v,rfl,m.trans g⟩;show _=_;rw [z.out,o.out,p.out,y.out];rfl
theorem pbI (n w) (a:pab n):Calls prog 74 #[.int .i64 n] w (MkS (Lib.itoa n) w):=by
 have k:=ah (pnf n 0 w a (by unfold pab;omega));have j:=ah (itoa_len n a);clear a;go_in;go_wp2_with fail;refine k.out.mono ?_;rintro e q ⟨y,d,o,rfl,m⟩;have g:Lib.itoa 0=[48]:=poH;have c:y.size=(Lib.itoa n).length+2:=by rw [paF d.out];simp [pb4,g]
 have h:=ah c;have r:IntKind.i64.wrap ((y.size:Int) - 2)=(y.size:Int) - 2:=pam (by omega) (by have:=j.out;omega);have p:(0:Int)<=(y.size:Int) - 2:=by omega
 clear o c;go_wp2;go_ret;have f:bs (y.extract 0 (y.size - 2))=Lib.itoa n:=by
  rw [pbc,d.out,h.out];simp [pb4,g]
 exact ⟨_,f,by rw [paF f];exact xj _,rfl,m⟩
def baseN (n:Int):Nat:=pri ([114,111,117,110,100,47] ++ Lib.itoa n)
theorem ppz (n):memN (baseN n):=ppy _
theorem pnh (n w) (a:pab n):Calls prog 71 #[.int .i64 n] w (MkN 2305843009213691579 (baseN n) w):=by
 have p:=ah (pbI n w a);have c:=ah (itoa_len n a);clear a;go_in;go_wp2_with fail;refine p.out.mono ?_;rintro e j ⟨y,h,t,rfl,q⟩;have o:(ByteArray.mk #[114,111,117,110,100,47]).size=6:=rfl;have d:(ByteArray.mk #[114,111,117,110,100,47] ++ y).size<=1000:=by simp [ByteArray.size_append,o];have:=c.out;omega
 have g:=ah d;have u:¬ 9223372036854775807<6+y.size:=by have:=c.out;omega
 clear t;go_wp2_with fail;refine (pjz _ j (by have:=g.out;omega)).mono ?_;rintro e v ⟨r,m,k,rfl,f⟩;go_wp2;go_ret;refine ⟨r,?_,k,rfl,q.trans f⟩;show _=_;rw [m.out,pae,h.out];rfl
def prtV (y:Nat) (n:Int):Nat:=pP (baseN n) y
def prtC (y:Nat) (n:Int):Nat:=pnc y 4 (baseN n) (pht y 4 (baseN n))
def prtZ (y:Nat) (n:Int):Nat:=prd y 4 (baseN n) (pht y 4 (baseN n))
def pus (x y:Nat) (n:Int) (w:World) (e:Ending) (w':World):Prop:=∃ v c z:Nat,Hid (v=prtV y n/\c=prtC y n/\z=prtZ y n)/\v<2305843009213691579/\c<1152921504606845789/\z<1152921504606845789/\e=.returned (.agg #[x,v,c,z])/\Upd [] [] w w'
def ptZ:Array Value:=#[.int .i64 0,.int .i64 0,.int .i64 0,.int .i64 0]
theorem pdo (x v c z):(prog.info? 86).map (·.size)=some (#[.int .i64 x,.int .i64 v,.int .i64 c,.int .i64 z]:Array Value).size:=by
 show _=some 4;kernel_rfl
theorem psR (x v c z):prog.built 86 [(0,.int .i64 x),(1,.int .i64 v),(2,.agg #[.int .i64 c,.int .i64 z])]=some #[.int .i64 x,.int .i64 v,.int .i64 c,.int .i64 z]:=by kernel_rfl
theorem phx (x y:Nat) (n w) (X:1<=x/\x<=60) (hy:y<1152921504606845789) (P:pab n) :
 Calls prog 24 #[.agg #[x,y],.int .i64 n] w (pus x y n w):=by
 obtain ⟨a,U⟩:=ae (w.heap.size);obtain ⟨t,E⟩:=ae (w.alloc (.cells #[x,y] 89));have N:=ah (aW U E);have C:=aU E;obtain ⟨gP,Q⟩:=ae (t.heap.size);obtain ⟨H,k⟩:=ae (t.alloc (.cells ptZ 86));have s0:=ah (aW Q k);have A:=aU k;have o:=ah (paa N.out A);have d0:=xa _ a 0 _ _ _ o.out;have d1:=xa _ a 1 _ _ _ o.out;have O:Hid (w.heap.size<=gP/\a<gP):=by have:=C.size;have:=paf N.out;exact ⟨by omega,by omega⟩
 have U0:=ah (C.trans A);have HB:=ah (fun W=>pnh n W P);have aa:t.alloc (.cells #[.int .i64 0,.int .i64 0,.int .i64 0,.int .i64 0] 86)=H:=k;have i1:¬ (x:Int)<1:=by omega
 have i2:¬ (60:Int)<(x:Int):=by omega
 have Y:¬ (1152921504606845789:Int)<=(y:Int):=by omega
 have i4:¬ (y:Int)<0:=by omega
 clear C A P k;go_in;go_wp2_with fail;refine (HB.out H).mono ?_;rintro e m ⟨b,p,hb,rfl,g⟩;have G:memN b:=by rw [p.out];exact ppz n
 have D:b<=9223372036854775807:=by omega
 have J:memN 4:=⟨by decide,by decide,pfA⟩
 have M:expN (y:Int)=y:=by unfold expN;omega
 have S:Hid (∀ W,Calls prog 73 #[y,.int .i64 4,b] W (psK (prtC y n) (prtZ y n) W)):=fun W=>by
  have h:=phv (y:Int) 4 b W (by omega) J G;rw [M] at h;rw [prtC,prtZ,<-p.out];exact h
 have R:Hid (∀ W,Calls prog 72 #[b,y,.int .i64 2305843009213691579] W (fun e w'=>∃ r:Nat,Hid (r=prtV y n)/\r<2305843009213691579/\e=.returned (.int .i64 (r:Int))/\W=w')):=fun W=>by
  have h:=pdm b y 2305843009213691579 W D (by omega) rfl;rw [prtV,<-p.out];exact h
 have B:Hid (∀ W,Uq m W->W.cell? ⟨a,0,none⟩=some (.int .i64 (x:Int))/\W.cell? ⟨a,1,none⟩=some (.int .i64 (y:Int))):=fun W u=>by
  have h:=paa o.out (g.trans u);exact ⟨xa _ a 0 _ _ _ h,xa _ a 1 _ _ _ h⟩
 have T:Hid (∀ W V,Uq m W->(W.setRow gP V).cell? ⟨a,0,none⟩=some (.int .i64 (x:Int))/\(W.setRow gP V).cell? ⟨a,1,none⟩=some (.int .i64 (y:Int))):=fun W V u=>by
  have h:(W.setRow gP V).heap[a]? =_:=(yD _ _ _ _ (Nat.ne_of_lt O.out.2)).trans (paa o.out (g.trans u));exact ⟨xa _ a 0 _ _ _ h,xa _ a 1 _ _ _ h⟩
 have F:=ah (paa s0.out g);have U2:=ah (U0.out.trans g);have q:Uq m m.drew:=uR.drew;clear G D J M d0 d1 g i1 i2 Y i4 X hy;go_upto_region 4 with (fail)
 refine bH B q fun f=>?_;refine tkS [0,1,2,3,4,6,7,8] f ?_;refine tk1 5 fun K d=>?_;go_simp;refine (R.out _).mono ?_;rintro e ac ⟨v,HV,hv,rfl,rfl⟩;go_wp2_with fail;refine tkK d (B.out _ q) fun f=>?_;clear d K;refine tk1 9 fun K d=>?_;go_simp;refine (S.out _).mono ?_;rintro e ab ⟨c,z,Z,HZ,hc,hz,rfl,hq⟩;have j:=q.trans hq;clear hq;go_wp2_with fail;refine tkK d (B.out _ j) fun f=>?_;clear d K;refine tkY 10 f ?_;refine tk1 11 fun K d=>?_;rw [xH (by rfl)];refine xM 86 _ _ rfl gP #[x,v,c,z] rfl rfl _ _ (paa F.out j) (pdo _ _ _ _) rfl (by simp [Value.oneCell']) ?_;refine tkK d (T.out _ _ j) fun f=>?_;clear d K;refine tkD ?_;go_wp2_with fail;refine xI (yX rfl _ _ gP _ #[x,v,c,z] _ _ rfl (xz _ _ _ _ _ _ (paa F.out j)) underlying86 rfl (pdo _ _ _ _)) rfl ⟨v,c,z,ah ⟨HV.out,Z.out,HZ.out⟩,hv,hc,hz,rfl,(U2.out.trans j).setRowNew (xB O.out.1 (xj _)) _⟩
theorem pni (x v c z) (p:pab x) (r:pab v) (y:pab c) (t:pab z) (w) :
 Calls prog 25 #[.agg #[.int .i64 x,.int .i64 v,.int .i64 c,.int .i64 z]] w (MkS (pfr x v c z) w):=by
 obtain ⟨f,P⟩:=ae (w.heap.size);obtain ⟨q,C⟩:=ae (w.alloc (.cells #[x,v,c,z] 86));have S:=ah (aW P C);have R:=ah (aU C);have k:=ah (xf (itoa_len x p) (xf (itoa_len v r) (xf (itoa_len c y) (itoa_len z t))));have n:=ah (xf p (xf r (xf y t)));have m:Hid (∀ W,Uq q W->W.cell? ⟨f,0,none⟩=some (.int .i64 x)/\W.cell? ⟨f,1,none⟩=some (.int .i64 v)/\W.cell? ⟨f,2,none⟩=some (.int .i64 c)/\W.cell? ⟨f,3,none⟩=some (.int .i64 z)):=fun W u=>by
  have h:=paa S.out u;exact ⟨xa _ f 0 _ _ _ h,xa _ f 1 _ _ _ h,xa _ f 2 _ _ _ h,xa _ f 3 _ _ _ h⟩
 have F:Uq q q.drew:=uR.drew;clear p r y t;go_in;go_upto_region 1 with (fail)
 refine bH m F fun d=>?_;refine tkS [0,1,4,5,9,10,11,15,16,17] d ?_;refine tk1 2 fun K a=>?_;go_simp;refine (pbI x _ n.out.1).mono ?_;rintro e ac ⟨g,Q,Z,rfl,hq⟩;have A:=F.trans hq;clear hq;have X:¬ 9223372036854775807<g.size+1:=(by have:=k.out;omega);go_wp2_with fail;refine tkK a (m.out _ A) fun d=>?_;clear a K;refine tkY 3 d ?_;refine tk1 6 fun K a=>?_;go_simp;refine (pbI v _ n.out.2.1).mono ?_;rintro e aa ⟨j,M,U,rfl,hq⟩;have D:=A.trans hq;clear hq;have t2:¬ 9223372036854775807<g.size+1+j.size:=(by have:=k.out;omega);have Y:¬ 9223372036854775807<g.size+1+j.size+1:=(by have:=k.out;omega);go_wp2_with fail;refine tkK a (m.out _ D) fun d=>?_;clear a K;refine tkS [7,8] d ?_;refine tk1 12 fun K a=>?_;go_simp;refine (pbI c _ n.out.2.2.1).mono ?_;rintro e ad ⟨o,J,T,rfl,hq⟩;have B:=D.trans hq;clear hq;have t4:¬ 9223372036854775807<g.size+1+j.size+1+o.size:=(by have:=k.out;omega);have t5:¬ 9223372036854775807<g.size+1+j.size+1+o.size+1:=(by have:=k.out;omega);go_wp2_with fail;refine tkK a (m.out _ B) fun d=>?_;clear a K;refine tkS [13,14] d ?_;refine tk1 18 fun K a=>?_;go_simp;refine (pbI z _ n.out.2.2.2).mono ?_;rintro e ab ⟨H,O,af,rfl,hq⟩;have E:=B.trans hq;clear hq;have t6:¬ 9223372036854775807<g.size+1+j.size+1+o.size+1+H.size:=(by have:=k.out;omega);go_wp2_with fail;refine tkK a (m.out _ E) fun d=>?_;clear a K;refine tkS [19,20] d ?_;refine tkD ?_;go_wp2;go_ret;have G:bs (g ++ ByteArray.mk #[32] ++ j ++ ByteArray.mk #[32] ++ o ++ ByteArray.mk #[32] ++ H)=pfr x v c z:=by
  have N:bs (ByteArray.mk #[32])=[32]:=rfl;rw [pae,pae,pae,pae,pae,pae,Q.out,M.out,J.out,O.out,N];simp [pfr,Lib.join,List.intercalate_cons_cons]
 exact ⟨_,G,by rw [paF G];exact xj _,rfl,R.out.trans E⟩
end Go.Proofs.YtkhjolbbpdaplaaGreatDoor
