/- A part of the proof. -/
import Derived.Test.YtnflnicdjioflaaGreatDoorSxaa
import Derived.Test.YtnflnicdjioflaaGreatDoorSxac
import Derived.WalkSpells
import Derived.WalkLawsBesides
import Derived.Shelf.GgClosure.Gives
import Derived.Test.YtnflnicdjioflaaGreatDoorProg
import Derived.Laws.Entries
set_option linter.unusedVariables false
set_option linter.unusedSimpArgs false
set_option maxRecDepth 100000
set_option maxHeartbeats 8000000
namespace Go.Proofs.YtnflnicdjioflaaGreatDoorW.PrintWords
open Go.RowKit
namespace Kd
def tag {α:Type} (f:Nat->Nat) (d:Kd α):Kd (α×Nat) where
 sz:=d.sz
 E:=d.E
 K:=fun w x cs=>d.K w x.1 cs
 M:=fun w base ok x cs=>d.M w base (fun k=>ok k/\f k=x.2) x.1 cs
 K_len:=fun h=>d.K_len h
 K_one:=fun h=>d.K_one h
 K_below:=fun hb h=>d.K_below hb h
 K_of_M:=fun h=>d.K_of_M h
 M_mono:=fun hok h=>d.M_mono (fun k hk=>⟨hok k hk.1,hk.2⟩) h
 M_bound:=fun h=>d.M_mono (fun _ hk=>⟨⟨hk.1.1,hk.2⟩,hk.1.2⟩) (d.M_bound h)
 M_move:=fun hm h=>d.M_move (fun k hk=>hm k hk.1) h
 M_lower:=fun hb h=>d.M_lower hb h
def raw (sz:Nat):Kd (List Value) where
 sz:=sz
 E:=[]
 K:=fun _ x cs=>cs=x/\cs.length=sz/\ ∀u∈cs,u.oneCell'=true
 M:=fun _ _ _ x cs=>cs=x/\cs.length=sz/\ ∀u∈cs,u.oneCell'=true
 K_len:=fun h=>h.2.1
 K_one:=fun h=>h.2.2
 K_below:=fun _ h=>h
 K_of_M:=fun h=>h
 M_mono:=fun _ h=>h
 M_bound:=fun h=>h
 M_move:=fun _ h=>h
 M_lower:=fun _ h=>h
def S {α:Type} (d:Kd α) (e:Nat) (w:World) (base:Nat) (ok:Nat->Prop) (v:Value) (xs:List α):Prop:= ∃f,(tag f d).R e w base ok v xs.zipIdx
section
variable {α β:Type} {d:Kd α} {d':Kd β} {e e':Nat} {w w1 W:World} {base b:Nat} {ok ok' okv oku:Nat->Prop} {u v:Value} {xs:List α} {ys:List β}
theorem R_head {ad:Addr} {n cap:Nat} (h:d.R e w base ok (.slice (some ad) n cap) xs): ∃g,ad=⟨g,0,none⟩:=by
 obtain⟨_,inner,ho,hr⟩:=h;rcases ho.2 with ⟨hv,_⟩|⟨g,cap',cur,hv,_⟩
 ·cases hv
 ·injection hv with ha _ _
  injection ha with ha
  exact⟨g,ha⟩
end
def gap {α:Type} (f:Nat->Nat) (d:Kd α) (i:Nat) (c:List Value):Kd (α×Nat) where
 sz:=d.sz
 E:=d.E
 K:=fun w x cs=>(x.2=i->cs=c/\cs.length=d.sz/\ ∀u∈cs,u.oneCell'=true)/\(x.2≠i->d.K w x.1 cs)
 M:=fun w base ok x cs=>(x.2=i->cs=c/\cs.length=d.sz/\ ∀u∈cs,u.oneCell'=true)/\(x.2≠i->d.M w base (fun k=>ok k/\f k=x.2) x.1 cs)
 K_len:=fun{w x cs} h=>by
  by_cases hx:x.2=i
  ·exact(h.1 hx).2.1
  ·exact d.K_len (h.2 hx)
 K_one:=fun{w x cs} h=>by
  by_cases hx:x.2=i
  ·exact(h.1 hx).2.2
  ·exact d.K_one (h.2 hx)
 K_below:=fun hb h=>⟨h.1,fun hx=>d.K_below hb (h.2 hx)⟩
 K_of_M:=fun h=>⟨h.1,fun hx=>d.K_of_M (h.2 hx)⟩
 M_mono:=fun hok h=>⟨h.1,fun hx=>d.M_mono (fun k hk=>⟨hok k hk.1,hk.2⟩) (h.2 hx)⟩
 M_bound:=fun h=>⟨h.1,fun hx=>d.M_mono (fun _ hk=>⟨⟨hk.1.1,hk.2⟩,hk.1.2⟩) (d.M_bound (h.2 hx))⟩
 M_move:=fun hm h=>⟨h.1,fun hx=>d.M_move (fun k hk=>hm k hk.1) (h.2 hx)⟩
 M_lower:=fun hb h=>⟨h.1,fun hx=>d.M_lower hb (h.2 hx)⟩
def H {α:Type} (d:Kd α) (e:Nat) (w:World) (base:Nat) (ok:Nat->Prop) (v:Value) (xs:List α) (i:Int) (oki:Nat->Prop) (c:List Value):Prop:=
 (∀k,oki k->ok k)/\ ∃f,(gap f d i.toNat c).R e w base (fun k=>ok k/\ ¬oki k) v xs.zipIdx
end Kd
end Go.Proofs.YtnflnicdjioflaaGreatDoorW.PrintWords

namespace Go.Proofs.YtnflnicdjioflaaGreatDoorW.PrintWords
open Go.RowKit
namespace Kd
structure Heap {α:Type} (d:Kd α):Prop where
 K: ∀{w w1:World} {x:α} {cs:List Value},(∀k,k<w.heap.size->w1.heap[k]? =w.heap[k]?)->d.K w x cs->d.K w1 x cs
end Kd
end Go.Proofs.YtnflnicdjioflaaGreatDoorW.PrintWords

namespace Go.Proofs.YtnflnicdjioflaaGreatDoorW.PrintWords
open Go.RowKit
def Foot (P:World->Prop) (W:World) (ok:Nat->Prop):Prop:= ∀W':World,(∀k,ok k->k<W.heap.size->W'.heap[k]? =W.heap[k]?)->P W'
namespace Kd
def F {α:Type} (d:Kd α) (W:World) (ok:Nat->Prop) (A:Option Addr) (n:Nat) (xs:List α):Prop:=Foot (fun W=>d.C W A n xs) W ok
def FK {α:Type} (d:Kd α) (W:World) (ok:Nat->Prop) (x:α) (c:List Value):Prop:=Foot (fun W=>d.K W x c) W ok
end Kd
end Go.Proofs.YtnflnicdjioflaaGreatDoorW.PrintWords

namespace Go.Proofs.YtnflnicdjioflaaGreatDoorW.PrintWords
open Go.RowKit
namespace Kd
section
variable {α:Type} {d:Kd α} {e base n cc g:Nat} {ok ok' okp S:Nat->Prop} {w w1 W W1:World} {A:Option Addr} {u v v1:Value} {xs:List α} {x:α} {c:List Value}
def N {α:Type} (d:Kd α) (e:Nat) (w:World) (base:Nat) (ok:Nat->Prop) (v:Value) (xs:List α):Prop:=
 (∀k,v.ownBlock=some k->ok k)/\ ∃rows:List (List Value),rows.length=xs.length/\(raw d.sz).R e w base (fun k=>some k=v.ownBlock) v rows/\ ∀(j:Nat) (x:α) (c:List Value),xs[j]? =some x->rows[j]? =some c->FK d w (fun k=>ok k/\some k≠v.ownBlock) x c
end
end Kd
end Go.Proofs.YtnflnicdjioflaaGreatDoorW.PrintWords

namespace Go.Proofs.YtnflnicdjioflaaGreatDoorW.PrintMore
open Go.RowKit Go.Proofs.YtnflnicdjioflaaGreatDoorW.PrintWords
namespace Kd
open Go.Proofs.YtnflnicdjioflaaGreatDoorW.PrintWords.Kd
theorem R_get {α:Type} {d:Kd α} {e base n cap:Nat} {ok:Nat->Prop} {W:World} {ad:Addr} {xs:List α} (h:d.R e W base ok (.slice (some ad) n cap) xs) (z:α) (i:Int) (h0:0<=i) (h1:i<n):
  ∃c,c.length=d.sz/\d.M W base (fun k=>ok k/\some k≠(Value.slice (some ad) n cap).ownBlock) (xs.getD i.toNat z) c/\ ∀j u,c[j]? =some u->W.cell? (ad.add (i.toNat*d.sz+j))=some u:=by
 obtain⟨g,hg⟩: ∃g,ad=⟨g,0,none⟩:=by
  obtain⟨_,inner,ho,_⟩:=h;rcases ho.2 with ⟨hv,_⟩|⟨g,cap',cur,hv,_⟩
  ·cases hv
  ·injection hv with ha _ _
   injection ha with ha
   exact⟨g,ha⟩
 subst hg;obtain⟨c,hcl,hM,hcc,_⟩:=R_elem h z i h0 h1;refine⟨c,hcl,d.M_mono (fun k hk=>⟨hk.1,fun he=>hk.2 ?_⟩) hM,fun j u hu=> ?_⟩
 ·rw[add_at,Nat.zero_add]
  exact hcc j u hu
 ·simpa[Value.ownBlock] using he
end Kd
theorem Qh (k k':IntKind) (x y:Int):Builtin.max2 (.int k x) (.int k' y)=pure (.int k (if x<y then y else x)):=by simp only[Builtin.max2,gt_iff_lt]
theorem Qi (k k':IntKind) (x y:Int):Builtin.min2 (.int k x) (.int k' y)=pure (.int k (if y<x then y else x)):=by simp only[Builtin.min2]
theorem Qk (ats:Array TypeId) (ty:TypeId) (a b:Value):Builtin.max_ ats ty #[a,b]=(Builtin.max2 a b >>= fun s=>pure s):=by simp only[Builtin.max_,List.foldlM_cons,List.foldlM_nil]
theorem Ql (ats:Array TypeId) (ty:TypeId) (a b:Value):Builtin.min_ ats ty #[a,b]=(Builtin.min2 a b >>= fun s=>pure s):=by simp only[Builtin.min_,List.foldlM_cons,List.foldlM_nil]
theorem Qd (ats:Array TypeId) (ty:TypeId) (a b c:Value):Builtin.max_ ats ty #[a,b,c]=(Builtin.max2 a b >>= fun s=>Builtin.max2 s c >>= fun s=>pure s):=by simp only[Builtin.max_,List.foldlM_cons,List.foldlM_nil]
theorem Qe (ats:Array TypeId) (ty:TypeId) (a b c:Value):Builtin.min_ ats ty #[a,b,c]=(Builtin.min2 a b >>= fun s=>Builtin.min2 s c >>= fun s=>pure s):=by simp only[Builtin.min_,List.foldlM_cons,List.foldlM_nil]
end Go.Proofs.YtnflnicdjioflaaGreatDoorW.PrintMore
namespace Go.Proofs.YtnflnicdjioflaaGreatDoorW.PrintWords
open Go.RowKit
def mn (a b:Int):Int:=if b<a then b else a
namespace Kd
section
variable {α:Type} {d:Kd α} {e base b b' g N:Nat} {ok ok1:Nat->Prop} {W W2 w1:World} {u v:Value} {xs ys:List α} {S:Nat->Prop}
theorem Qei {n size:Nat} {cs:List Value} (h:W.ownsRow b e size v n cs) (hb: ∀k,v.ownBlock=some k->b'<=k):W.ownsRow b' e size v n cs:=by
 obtain⟨h1,h2⟩:=h;refine⟨h1,?_⟩;rcases h2 with h2|⟨g,cap,cur,rfl,_,r⟩
 ·exact .inl h2
 ·exact .inr ⟨g,cap,cur,rfl,hb g (by simp[Value.ownBlock]),r⟩
end
end Kd
end Go.Proofs.YtnflnicdjioflaaGreatDoorW.PrintWords
namespace Go.Proofs.YtnflnicdjioflaaGreatDoorW.PrintWords
open Go.RowKit
namespace Kd
def V {α:Type} (d:Kd α) (_e:Nat) (W:World) (_base:Nat) (ok:Nat->Prop) (v:Value) (xs:List α):Prop:= ∃A c,v= .slice A xs.length c/\xs.length<=c/\F d W ok A xs.length xs
end Kd
end Go.Proofs.YtnflnicdjioflaaGreatDoorW.PrintWords

namespace Go.Proofs.YtnflnicdjioflaaGreatDoor.Tk
open Go.RowKit Go.Proofs.YtnflnicdjioflaaGreatDoorW.PrintWords Go.Proofs.YtnflnicdjioflaaGreatDoorW.PrintLast Go.Proofs.YtnflnicdjioflaaGreatDoorW.PrintMore
theorem z1 {α:Type} (l:List α) (i:Nat) (v:α):l.toArray.setIfInBounds i v=(l.set i v).toArray :=by simp
theorem z2 {α:Type} {l:List α} {i:Nat} (h:i<l.toArray.size):l.toArray[i]=l[i]'(by simpa using h):=rfl
theorem z3 {α:Type} {a:α} {l:List α} (h:0<(a::l).length):(a::l)[0]=a:=rfl
theorem z4 {α:Type} {a:α} {l:List α} {i:Nat} (h:i+1<(a::l).length):(a::l)[i+1]=l[i]'(Nat.lt_of_succ_lt_succ h):=rfl
theorem z5 {α:Type} {a b:α} {l:List α}:(a::l).set 0 b=b::l:=rfl
theorem z6 {α:Type} {a b:α} {l:List α} {i:Nat}:(a::l).set (i+1) b=a::l.set i b:=rfl
variable {P:Program} {md:Region.Mode} {ops:Array Oper} {Q:Exit->Act->World->Prop} {S:World->Prop} {ds:List Nat} {oi:Oper} {fuel:Nat} {listed l':Array Bool} {a a':Act} {w:World}
theorem tk (i:Nat) (v:Value) (hS:S w) (h:wpAnyH P md ops Q S fuel l' a' w) (hi:ops[i]? =some oi:=by rfl)
  (hs:Region.noSelect ops=true:=by kernel_rfl) (hf:Region.free md ops listed i=true:=by kernel_rfl) (hr:(Region.ready md ops listed).contains i=true:=by kernel_rfl) (hQ: ∀c a w,Q (.panic c) (a.put oi.dst v) w->Q (.panic c) a w:=by exact fun _ _ _ h=>h)
  (hy:YieldsIf P ops S oi v a:=by exact Or.inl ⟨by rfl,fun wS hS=>by(try dsimp only at hS);go_simp⟩)
  (ha:a.put oi.dst v=a':=by(try simp only[Act.put,List.setIfInBounds_toArray,List.getElem_toArray,List.getElem_cons_zero,List.getElem_cons_succ,List.set_cons_zero,List.set_cons_succ]);(try rfl))
  (hl:listed.setIfInBounds i true=l':=by(try simp only[List.setIfInBounds_toArray,List.set_cons_zero,List.set_cons_succ]);(try rfl)):wpAnyH P md ops Q S (fuel+1) listed a w:=by
 subst ha hl;exact wpAnyH_take hi hs hf hr hQ hy hS h
theorem tl (i:Nat) (v:Value) (hS:S w) (h:Q0 P md ops Q S ds fuel l' a' w) (hi:ops[i]? =some oi:=by rfl)
  (hs:Region.noSelect ops=true:=by kernel_rfl) (hf:Region.free md ops listed i=true:=by kernel_rfl) (hr:(Region.ready md ops listed).contains i=true:=by kernel_rfl) (hc:Region.closedB md ops listed=true:=by kernel_rfl) (hl:Region.lastB md ops listed ds i=true:=by kernel_rfl)
  (hQ: ∀c a w,Q (.panic c) (a.put oi.dst v) w->Q (.panic c) a w:=by exact fun _ _ _ h=>h) (hy:YieldsIf P ops S oi v a:=by exact Or.inl ⟨by rfl,fun wS hS=>by(try dsimp only at hS);go_simp⟩)
  (ha:a.put oi.dst v=a':=by(try simp only[Act.put,List.setIfInBounds_toArray,List.getElem_toArray,List.getElem_cons_zero,List.getElem_cons_succ,List.set_cons_zero,List.set_cons_succ]);(try rfl))
  (hl':listed.setIfInBounds i true=l':=by(try simp only[List.setIfInBounds_toArray,List.set_cons_zero,List.set_cons_succ]);(try rfl)):Q0 P md ops Q S ds (fuel+1) listed a w:=by
 subst ha hl';exact Mc hi hs hf hr hc hl hQ hy hS h
theorem tz (i:Nat) (hS:S w) (h:wpAnyH P md ops Q S fuel l' a' w) (hi:ops[i]? =some oi:=by rfl)
  (hs:Region.noSelect ops=true:=by kernel_rfl) (hf:Region.free md ops listed i=true:=by kernel_rfl) (hr:(Region.ready md ops listed).contains i=true:=by kernel_rfl) (hQ: ∀c a w,Q (.panic c) (a.put oi.dst undef) w->Q (.panic c) a w:=by exact fun _ _ _ h=>h)
  (hy:YieldsIf P ops S oi undef a:=by exact Or.inr ⟨by rfl,rfl⟩)
  (ha:a.put oi.dst undef=a':=by(try simp only[Act.put,List.setIfInBounds_toArray,List.getElem_toArray,List.getElem_cons_zero,List.getElem_cons_succ,List.set_cons_zero,List.set_cons_succ]);(try rfl))
  (hl:listed.setIfInBounds i true=l':=by(try simp only[List.setIfInBounds_toArray,List.set_cons_zero,List.set_cons_succ]);(try rfl)):wpAnyH P md ops Q S (fuel+1) listed a w:=by
 subst ha hl;exact wpAnyH_take hi hs hf hr hQ hy hS h
end Go.Proofs.YtnflnicdjioflaaGreatDoor.Tk

namespace Go.Proofs.YtnflnicdjioflaaGreatDoor.Q15
def Zh:List Int:=[
 0,16,40,69,101,136,174,214,256,299,344,391,439,489,539,591,645,699,754,811,868,926,986,1046,1107,1169,1232,1296,1360,1425,1491,1558,
 1625,1693,1762,1831,1901,1972,2044,2116,2188,2262,2335,2410,2485,2560,2637,2713,2791,2868,2947,3026,3105,3185,3265,3346,3427,3509,3592,3674,3758,3842,3926,4010,
 4096,4181,4267,4353,4440,4528,4615,4703,4792,4881,4970,5060,5150,5241,5332,5423,5515,5607,5699,5792,5886,5979,6073,6168,6262,6357,6453,6549,6645,6741,6838,6935,
 7033,7130,7229,7327,7426,7525,7625,7725,7825,7925,8026,8127,8229,8330,8432,8535,8637,8740,8844,8947,9051,9155,9260,9365,9470,9575,9681,9787,9893,10000,10106,10213,
 10321,10428,10536,10645,10753,10862,10971,11080,11190,11300,11410,11520,11631,11742,11853,11964,12076,12188,12300,12412,12525,12638,12751,12865,12979,13093,13207,13321,13436,13551,13666,13782,
 13897,14013,14129,14246,14362,14479,14597,14714,14831,14949,15067,15186,15304,15423,15542,15661,15781,15900,16020,16140,16261,16381,16502,16623,16744,16866,16987,17109,17231,17354,17476,17599,
 17722,17845,17968,18092,18216,18340,18464,18589,18713,18838,18963,19088,19214,19340,19465,19592,19718,19844,19971,20098,20225,20352,20480,20608,20736,20864,20992,21120,21249,21378,21507,21636,
 21766,21895,22025,22155,22286,22416,22547,22677,22808,22940,23071,23202,23334,23466,23598,23731,23863,23996,24129,24262,24395,24528,24662,24796,24929,25064,25198,25332,25467,25602,25737,25872,
 26007,26143,26279,26415,26551,26687,26823,26960,27097,27234,27371,27508,27646,27783,27921,28059,28197,28335,28474,28613,28751,28890,29029,29169,29308,29448,29588,29728,29868,30008,30149,30289,
 30430,30571,30712,30853,30995,31137,31278,31420,31562,31705,31847,31990,32132,32275,32418,32561,32705,32848,32992,33136,33280,33424,33568,33713,33857,34002,34147,34292,34437,34583,34728,34874,
 35020,35166,35312,35458,35605,35751,35898,36045,36192,36339,36487,36634,36782,36929,37077,37226,37374,37522,37671,37819,37968,38117,38266,38416,38565,38714,38864,39014,39164,39314,39464,39615,
 39765,39916,40067,40218,40369,40520,40672,40823,40975,41127,41279,41431,41583,41735,41888,42041,42193,42346,42500,42653,42806,42960,43113,43267,43421,43575,43729,43883,44038,44192,44347,44502,
 44657,44812,44967,45123,45278,45434,45590,45746,45902,46058,46214,46371,46527,46684,46841,46998,47155,47312,47470,47627,47785,47943,48101,48259,48417,48575,48733,48892,49051,49210,49368,49527,
 49687,49846,50005,50165,50325,50485,50645,50805,50965,51125,51286,51446,51607,51768,51929,52090,52251,52412,52574,52735,52897,53059,53221,53383,53545,53707,53870,54032,54195,54358,54521,54684,
 54847,55010,55174,55337,55501,55665,55829,55993,56157,56321,56485,56650,56815,56979,57144,57309,57474,57639,57805,57970,58136,58302,58467,58633,58799,58965,59132,59298,59465,59631,59798,59965,
 60132,60299,60466,60633,60801,60968,61136,61304,61472,61640,61808,61976,62145,62313,62482,62650,62819,62988,63157,63326,63496,63665,63834,64004,64174,64344,64514,64684,64854,65024,65194,65365,
 65536,65706,65877,66048,66219,66390,66561,66733,66904,67076,67248,67420,67591,67764,67936,68108,68280,68453,68625,68798,68971,69144,69317,69490,69663,69837,70010,70184,70357,70531,70705,70879,
 71053,71227,71401,71576,71750,71925,72100,72275,72450,72625,72800,72975,73150,73326,73501,73677,73853,74029,74205,74381,74557,74733,74910,75086,75263,75440,75617,75793,75971,76148,76325,76502,
 76680,76857,77035,77213,77391,77568,77747,77925,78103,78281,78460,78638,78817,78996,79175,79354,79533,79712,79891,80071,80250,80430,80609,80789,80969,81149,81329,81509,81690,81870,82050,82231,
 82412,82592,82773,82954,83135,83317,83498,83679,83861,84042,84224,84406,84588,84769,84952,85134,85316,85498,85681,85863,86046,86229,86411,86594,86777,86961,87144,87327,87511,87694,87878,88061,
 88245,88429,88613,88797,88981,89166,89350,89534,89719,89904,90088,90273,90458,90643,90828,91014,91199,91384,91570,91755,91941,92127,92313,92499,92685,92871,93057,93244,93430,93617,93803,93990,
 94177,94364,94551,94738,94925,95112,95300,95487,95675,95862,96050,96238,96426,96614,96802,96990,97178,97367,97555,97744,97932,98121,98310,98499,98688,98877,99066,99255,99445,99634,99824,100013,
 100203,100393,100583,100773,100963,101153,101343,101534,101724,101915,102105,102296,102487,102678,102869,103060,103251,103442,103634,103825,104017,104208,104400,104592,104784,104976,105168,105360,105552,105744,105937,106129,
 106322,106514,106707,106900,107093,107286,107479,107672,107865,108059,108252,108446,108639,108833,109027,109221,109415,109609,109803,109997,110191,110386,110580,110775,110969,111164,111359,111554,111749,111944,112139,112334,
 112529,112725,112920,113116,113312,113507,113703,113899,114095,114291,114487,114684,114880,115076,115273,115469,115666,115863,116060,116257,116454,116651,116848,117045,117242,117440,117637,117835,118033,118230,118428,118626,
 118824,119022,119220,119419,119617,119815,120014,120212,120411,120610,120809,121008,121207,121406,121605,121804,122003,122203,122402,122602,122801,123001,123201,123401,123601,123801,124001,124201,124401,124602,124802,125003,
 125203,125404,125605,125806,126007,126208,126409,126610,126811,127012,127214,127415,127617,127819,128020,128222,128424,128626,128828,129030,129232,129435,129637,129839,130042,130245,130447,130650,130853,131056,131259,131462,
 131665,131868,132071,132275,132478,132682,132885,133089,133293,133497,133701,133905,134109,134313,134517,134721,134926,135130,135335,135540,135744,135949,136154,136359,136564,136769,136974,137179,137385,137590,137796,138001,
 138207,138412,138618,138824,139030,139236,139442,139648,139854,140061,140267,140474,140680,140887,141093,141300,141507,141714,141921,142128,142335,142542,142750,142957,143165,143372,143580,143787,143995,144203,144411,144619,
 144827,145035,145243,145451,145660,145868,146077,146285,146494,146703,146911,147120,147329,147538,147747,147957,148166,148375,148584,148794,149003,149213,149423,149632,149842,150052,150262,150472,150682,150893,151103,151313,
 151524,151734,151945,152155,152366,152577,152788,152999,153210,153421,153632,153843,154054,154266,154477,154689,154900,155112,155323,155535,155747,155959,156171,156383,156595,156808,157020,157232,157445,157657,157870,158082,
 158295,158508,158721,158934,159147,159360,159573,159786,160000,160213,160426,160640,160853,161067,161281,161495,161708,161922,162136,162350,162565,162779,162993,163207,163422,163636,163851,164066,164280,164495,164710,164925]
end Go.Proofs.YtnflnicdjioflaaGreatDoor.Q15

namespace Go.Proofs.YtnflnicdjioflaaGreatDoor.Q15
def P (q:Int):Int:=Zh.getD q.toNat 0
def Yh (s:Int):Int:=([4096,4871,5793,6889]:List Int).getD (s%4).toNat 0*2^(s/4).toNat /256
def V (x q:Int):Int:=min ((2*P q*x+256)/512) 2097152
def fst (p:Int->Bool) (lo hi:Int):Int:=lo+((List.range (hi-lo).toNat).findIdx fun k=>p (lo+(k:Nat)))
def Xp (n:Int):Int:=max n (-n)
def sg (n r:Int):Int:=if n<0 then-r else r
theorem Gq:Zh.length=1024:=by decide+kernel
theorem Qb6:Zh.all (fun x=>decide (0<=x/\x<=164925))=true:=by decide+kernel
theorem P_bd (q:Int):0<=P q/\P q<=164925:=by
 unfold P;rw[List.getD_eq_getElem?_getD]
 cases h:Zh[q.toNat]? with
 |none=>simp
 |some x=>
  have:=List.all_eq_true.1 Qb6 x (List.mem_of_getElem? h);simpa using this
theorem Zg {a b A B:Int} (h0:0<=a) (h1:a<=A) (g0:0<=b) (g1:b<=B):0<=a*b/\a*b<=A*B:=
 ⟨Int.mul_nonneg h0 g0,Int.le_trans (Int.mul_le_mul_of_nonneg_right h1 g0) (Int.mul_le_mul_of_nonneg_left g1 (by omega))⟩
theorem Qeu:((List.range 96).all fun k=>decide (16<=Yh (k:Nat)/\Yh (k:Nat)<=268435456))=true:=by decide+kernel
theorem Nu {s:Int} (h0:0<=s) (h1:s<=95):16<=Yh s/\Yh s<=268435456:=by
 have h:=List.all_eq_true.1 Qeu s.toNat (by simp;omega);simp only[decide_eq_true_eq] at h
 rwa [Int.toNat_of_nonneg h0] at h
theorem V_bd {x:Int} (q:Int) (h0:0<=x):0<=V x q/\V x q<=2097152:=by
 unfold V;have:=Int.mul_nonneg (a:=2*P q) (b:=x) (by have:=P_bd q;omega) h0;omega
def isS (n:Int):Bool:=decide (0<=n/\n<=95)
def isQ (n:Int):Bool:=decide (-1023<=n/\n<=1023)
def chk (p:Int->Bool) (l:List Int) (s:Int):Int:=if isS s then if l.length<=128 then if l.all p then 0 else 6 else 2 else 1
end Go.Proofs.YtnflnicdjioflaaGreatDoor.Q15

namespace Go.Proofs.YtnflnicdjioflaaGreatDoor.Q15
open Go.RowKit Go.Proofs.YtnflnicdjioflaaGreatDoorW.PrintWords
theorem Ih: ∀(vals:List Value) (k:Nat) (cells:Array Value),(∀v∈vals,v.cells= #[v])->k+vals.length=cells.size->
    Instr.fill (fun i=>some (i*1,1)) cells ((List.range' k vals.length).zip vals)=some (cells.toList.take k++vals).toArray
  |[],k,cells,_,hk=>by
    simp at hk;simp[Instr.fill,List.take_of_length_le (show cells.toList.length<=k by simp[hk])]
  |v::vs,k,cells,h1,hk=>by
    have hv:=h1 v (by simp);have hlt:k<cells.size:=(by simp at hk;omega);simp only[List.length_cons,List.range'_succ,List.zip_cons_cons,Instr.fill,Nat.mul_one,hv];rw[if_neg (by simp;omega)];have e:(#[v].zipIdx.foldl (fun cs (c,j)=>cs.setIfInBounds (k+j) c) cells)=cells.setIfInBounds k v:=(by simp);rw[show(Array.foldl (fun cs (x:Value×Nat)=>match x with|(c,j)=>cs.setIfInBounds (k+j) c) cells #[v].zipIdx)=cells.setIfInBounds k v from by simp];have ih:=Ih vs (k+1) (cells.setIfInBounds k v) (fun u hu=>h1 u (by simp[hu])) (by simp at hk ⊢;omega);simp only[Nat.mul_one] at ih;rw[ih]
    congr 2
    apply List.ext_getElem?
    intro i;simp only[Array.toList_setIfInBounds,List.getElem?_append,List.length_take,List.length_set,Array.length_toList];by_cases hi:i<k
    · simp[hi,show i<k+1 by omega,show min (k+1) cells.size=k+1 by omega,show min k cells.size=k by omega,show k≠i by omega]
    · by_cases hi2:i=k
      · subst hi2
        simp[show min (i+1) cells.size=i+1 by omega,show min i cells.size=i by omega]
      · have e2:i-k=(i-(k+1))+1:=by omega
        simp[hi,show¬i<k+1 by omega,show min (k+1) cells.size=k+1 by omega,show min k cells.size=k by omega,e2]
def POW:Array Value:=(Zh.map (Value.int .i64)).toArray
theorem Qak: ∃parts:Array (Nat×Operand),Tryz.f205=
{name:= "shawm/quant.powers",origin:= "",params:= #[],resultTypes:= #[209],nfree:=0,ntmps:=2,
  results:= #[Go.ResultVar.cell 0 209],
  body:=
    some
      ((Go.Code.region 0
            #[{dst:=some 0,op:=Go.Op.alloc 209,type:=0,pos:= "powers.go:6",after:= #[],guard:=none}]
            false).seq
        ((Go.Code.region 1
              #[{dst:=some 1,
                  op:=
                    Go.Op.build 209 parts,
                  type:=209,pos:= "powers.go:7",after:= #[],guard:=none},
                {dst:=none,op:=Go.Op.store 209 (Go.Operand.tmp 0) (Go.Operand.tmp 1),type:=0,
                  pos:= "powers.go:7",
                  after:= #[{on:=0,ground:=Go.Ground.data},{on:=0,ground:=Go.Ground.phase}],
                  guard:=none}]
              false).seq
          Go.Code.ret)),
  norace:=false,file:= "shawm/quant/powers.go",endLine:=73,tmpNames:= #["",""]}
   /\ ∀a:Act,parts.toList.map (fun(i,x)=>(i,a.eval x))=(List.range' 0 1024).zip (Zh.map (Value.int .i64)):=⟨_,rfl,fun _=>by kernel_rfl⟩
theorem F7:POW.size=1024:=by simp[POW];decide+kernel
theorem Ad (parts:Array (Nat×Operand)) (a:Act) (h:parts.toList.map (fun(i,x)=>(i,a.eval x))=(List.range' 0 1024).zip (Zh.map (Value.int .i64))):
    Tryz.prog.built 209 (parts.map fun(i,x)=>(i,a.eval x)).toList =some POW:=by
  rw[Array.toList_map,h];have hf:=Ih (Zh.map (Value.int .i64)) 0 (Array.replicate 1024 (.int .i64 0)) (by intro v hv;simp at hv;obtain⟨x,_,rfl⟩:=hv;rfl) (by simp;decide+kernel);have hl:(Zh.map (Value.int .i64)).length =1024:=(by simp;decide+kernel);rw[hl] at hf
  have e:Tryz.prog.built 209 ((List.range' 0 1024).zip (Zh.map (Value.int .i64)))=Instr.fill (fun i=>some (i*1,1)) (Array.replicate 1024 (.int .i64 0)) ((List.range' 0 1024).zip (Zh.map (Value.int .i64))):=by
    generalize (List.range' 0 1024).zip (Zh.map (Value.int .i64))=l
    kernel_rfl
  rw[e,hf];simp[POW]
theorem Oe {P:Program} {ops:Array Oper} {rest:List Oper} {o:Oper} {a:Act} {w w':World} {v:Value} {Q:Exit->Act->World->Prop} (hgd:o.guard=none)
    (hr:(execOp a.eval o).run P w= .ok (.value v) w') (h:wpList P ops Q rest (a.put o.dst v) w'):wpList P ops Q (o::rest) a w:=
  wpList_plain hgd fun _ hK=>by
    unfold Oper.wp;rw[hr];exact hK _ _ h
def ZER:Array Value:=Array.replicate 1024 (.int .i64 0)
theorem Wh (ρ:Operand->Value) (o:Oper) (ho:o.op= .alloc 209) (w:World):
    (execOp ρ o).run Tryz.prog w= .ok (.value (.pointer (some ⟨w.heap.size,0,none⟩))) (w.alloc (.cells ZER 209)):=by
  obtain⟨d,op,ty,pos,af,gu⟩:=o;subst ho
  kernel_rfl
theorem Qa2:(Tryz.prog.info? 209).map (·.size)=some POW.size:=by rw[F7];kernel_rfl
theorem zer_size:ZER.size=POW.size:=by rw[F7];simp[ZER]
theorem tab_one:POW.all (·.oneCell')=true:=by
  rw[Array.all_eq_true_iff_forall_mem];intro v hv;simp[POW] at hv;obtain⟨x,_,rfl⟩:=hv;rfl
theorem Ae (w:World):
    Calls Tryz.prog 205 #[] w fun e w'=>e= .returned (.agg POW)/\Below w.heap.size w w':=by
  obtain⟨parts,hf,hp⟩:=Qak;have hfn:Tryz.prog.funcs[205]? =some _:=Tryz.func205.trans (congrArg some hf);refine calls_of_wp hfn rfl ?_;clear hfn hf;have HB: ∀a:Act,Tryz.prog.built 209 (parts.map fun(i,x)=>(i,a.eval x)).toList =some POW:=fun a=>Ad parts a (hp a)
  have HB:=Qa.mk HB;clear hp;simp only[List.size_toArray,List.length_nil,Nat.reduceSub,Array.replicate_succ,Array.replicate_zero,List.push_toArray,List.append_toArray,List.nil_append,List.cons_append];go_wp2_with (first|(refine Oe rfl (Wh _ _ rfl _) ?_)|(refine wpList_build rfl 209 parts rfl (by rw[HB.out];rfl) ?_;rw[HB.out,Option.getD_some])|(refine wpList_store_row rfl 209 (.tmp 0) (.tmp 1) rfl w.heap.size POW rfl rfl 209 ZER (heap_alloc_new _ _) Qa2 zer_size tab_one ?_));refine bodyPost_ret (v:= .agg POW) (results_cell_row rfl _ _ w.heap.size 209 POW (0,0) (.array 1024 3) rfl (setRow_heap _ _ ZER _ _ _ (heap_alloc_new _ _)) (by kernel_rfl) rfl Qa2) rfl ⟨rfl,?_⟩;have h:=(Below.refl w.heap.size w).alloc (Nat.le_refl _) (.cells ZER 209);exact h.trans ⟨rfl,rfl,rfl,by simp,fun k hk=>setRow_other _ _ _ _ (by omega)⟩
end Go.Proofs.YtnflnicdjioflaaGreatDoor.Q15

namespace Go.Proofs.YtnflnicdjioflaaGreatDoor.Q15
open Go.RowKit Go.Proofs.YtnflnicdjioflaaGreatDoorW.PrintWords Go.Proofs.YtnflnicdjioflaaGreatDoorW.PrintLast Go.Proofs.YtnflnicdjioflaaGreatDoorW.PrintMore
attribute [local go_sem] Qh Qi Qk Ql Qd Qe
theorem Pi {k:IntKind} {a b:Int} (h:a=b):Ending.returned (.int k a)= .returned (.int k b):=by rw[h]
theorem pow_at (q:Int) (h0:0<=q) (h1:q<=1023):POW[q.toNat]? =some (.int .i64 (P q)):=by
 have hl:=Gq;unfold POW P;rw[List.getElem?_toArray,List.getElem?_map,List.getElem?_eq_getElem (by omega),List.getD_eq_getElem?_getD,List.getElem?_eq_getElem (by omega)];rfl
theorem Gw (s:Int) (w:World) (h0:0<=s) (h1:s<=95):
  Calls Tryz.prog 159 #[.int .i64 s] w fun e w'=>e= .returned (.tuple #[.int .i64 (Yh s),.int .i64 0])/\Below w.heap.size w w':=by
 obtain⟨c,hc⟩: ∃c,c=([4096,4871,5793,6889]:List Int).getD (s%4).toNat 0:=⟨_,rfl⟩
 have hq:([.int .i64 4096,.int .i64 4871,.int .i64 5793,.int .i64 6889]:List Value)[(s%4).toNat]? =some (.int .i64 c):=by
  rw[hc];have:s%4=0\/s%4=1\/s%4=2\/s%4=3:=(by omega);rcases this with h|h|h|h<;>rw[h]<;>rfl
 have h2:(2:Int)^(s/4).toNat <=2^23:=by
  have:(2:Nat)^(s/4).toNat <=2^23:=Nat.pow_le_pow_right (by omega) (by omega)
  exact_mod_cast this
 have h3:0<=c/\c<=6889:=by
  rw[hc];have:s%4=0\/s%4=1\/s%4=2\/s%4=3:=(by omega);rcases this with h|h|h|h<;>rw[h]<;>decide
 have h4:=Zg h3.1 h3.2 (Int.pow_nonneg (show(0:Int)<=2 by omega)) h2
 have HS:Qa (wrap64 (c*2^(s/4).toNat)/256=Yh s):=⟨by
  rw[show wrap64 (c*2^(s/4).toNat)=c*2^(s/4).toNat from by unfold wrap64;omega,hc]
  rfl⟩
 clear hc h2 h3 h4;go_enter Tryz.func159,Tryz.ntmps159;go_wp2;go_ret2;exact⟨by rw[HS.out];rfl,(Below.refl _ _).alloc (Nat.le_refl _) _⟩
theorem M6 {P:Program} {T E len:Nat} {cs:Array Value} {q:Int} {v:Value} (hT:P.underlying T=some (.array len E)) (hs:(P.info? E).map (·.size)=some 1) (hE:P.plainKey E=true)
  (h0:0<=q) (h1:q<len) (hx:cs[q.toNat]? =some v) (w:World):(Instr.index T (.agg cs) (.int .i64 q)).run P w= .ok v w:=by
 cases hi:P.info? E with
 |none=>simp[hi] at hs
 |some i=>
  have hz:i.size=1:=(by simpa[hi] using hs);have hr:=run_part_plain (P:=P) (w:=w) hE hx;have hsz:(sizeOf E).run P w= .ok 1 w:=(by simp[sizeOf,typeInfo,hi,hz]);simp[Instr.index,asIntOf,run_underlying hT,h0,h1,hsz,hr]
theorem Og (x q:Int) (w:World) (hx0:0<=x) (hx1:x<=268435456) (h0:0<=q) (h1:q<=1023):
  Calls Tryz.prog 162 #[.int .i64 x,.int .i64 q] w fun e w'=>e= .returned (.int .i64 (V x q))/\Below w.heap.size w w':=by
 have hP:=P_bd q;have hm:=Zg (show 0<=2*P q by omega) (show 2*P q<=329850 by omega) hx0 hx1;have hat:=fun w=>M6 (P:=Tryz.prog) (T:=209) (E:=3) (len:=1024) (by kernel_rfl) (by kernel_rfl) (by kernel_rfl) h0 (by omega) (pow_at q h0 h1) w
 go_enter Tryz.func162,Tryz.ntmps162;go_wp2_with (go_at_call 205;refine(Ae _).mono ?_;rintro e w' ⟨rfl,hb⟩)
 all_goals
  go_ret;exact⟨Pi (by unfold V;omega),hb⟩
theorem Qea (n:Int) (w:World):Calls Tryz.prog 115 #[.int .i64 n] w fun e w'=>e= .returned (.bool (isQ n))/\Below w.heap.size w w':=by
 by_cases h1: -1023<=n
 ·by_cases h2:n<=1023
  ·rw[show isQ n=true by unfold isQ;simp[h1,h2]]
   go_enter Tryz.func115,Tryz.ntmps115;go_wp2;go_ret;exact⟨rfl,Below.refl _ _⟩
  ·rw[show isQ n=false by unfold isQ;simp[h2]]
   have h3:decide (n<=1023)=false:=(by simpa using h2);go_enter Tryz.func115,Tryz.ntmps115;go_wp2;go_ret;exact⟨rfl,Below.refl _ _⟩
 ·rw[show isQ n=false by unfold isQ;simp[h1]]
  have h3:decide (-1023<=n)=false:=(by simpa using h1);go_enter Tryz.func115,Tryz.ntmps115;go_wp2;go_ret;exact⟨rfl,Below.refl _ _⟩
theorem Dv (n:Int) (w:World):Calls Tryz.prog 157 #[.int .i64 n] w fun e w'=>e= .returned (.bool (isS n))/\Below w.heap.size w w':=by
 by_cases h1:0<=n
 ·by_cases h2:n<=95
  ·rw[show isS n=true by unfold isS;simp[h1,h2]]
   go_enter Tryz.func157,Tryz.ntmps157;go_wp2;go_ret;exact⟨rfl,Below.refl _ _⟩
  ·rw[show isS n=false by unfold isS;simp[h2]]
   have h3:decide (n<=95)=false:=(by simpa using h2);go_enter Tryz.func157,Tryz.ntmps157;go_wp2;go_ret;exact⟨rfl,Below.refl _ _⟩
 ·rw[show isS n=false by unfold isS;simp[h1]]
  have h3:decide (0<=n)=false:=(by simpa using h1);go_enter Tryz.func157,Tryz.ntmps157;go_wp2;go_ret;exact⟨rfl,Below.refl _ _⟩
theorem isQ_bd {q:Int} (h:isQ q=true): -1023<=q/\q<=1023:=by simpa[isQ] using h
theorem isS_bd {q:Int} (h:isS q=true):0<=q/\q<=95:=by simpa[isS] using h
theorem Qcl (s:Int) (w:World) (h0:0<=s) (h1:s<=95):
  Calls Tryz.prog 102 #[.int .i64 s] w fun e w'=>e= .returned (.int .i64 (Yh s))/\Below w.heap.size w w':=by
 go_enter Tryz.func102,Tryz.ntmps102;go_wp2_with (go_at_call 159;refine(Gw _ _ h0 h1).mono ?_;rintro e w' ⟨rfl,hb⟩);go_ret;exact⟨rfl,hb⟩
def FnInt (g:Nat) (fs cs:Array Value) (w:World) (x r:Int):Prop:=
 ∀W,Below w.heap.size w W->Calls Tryz.prog g (fs++ #[.int .i64 x]++cs) W fun e w'=>e= .returned (.int .i64 r)/\Below W.heap.size W w'
def Kn (g:Nat) (fs cs:Array Value) (w:World) (x:Int) (r:Bool):Prop:=
 ∀W,Below w.heap.size w W->Calls Tryz.prog g (fs++ #[.int .i64 x]++cs) W fun e w'=>e= .returned (.bool r)/\Below W.heap.size W w'
def Enters (g:Nat):Prop:= ∀args w,(callFunc g args).run Tryz.prog w= .ok (.enter g args) w
theorem Wl (g:Nat) (fs cs:Array Value) (n r:Int) (w:World) (eg:Enters g) (hn0: -4611686018427387904<=n) (hn1:n<=4611686018427387904) (hr0: -4611686018427387904<=r) (hr1:r<=4611686018427387904)
  (hf:FnInt g fs cs w (Xp n) r):
  Calls Tryz.prog 105 #[.int .i64 n,.func (.func g) fs cs] w fun e w'=>e= .returned (.int .i64 (sg n r))/\Below w.heap.size w w':=by
 have hc:=hf w (Below.refl _ _);unfold Enters at eg;by_cases hn:n<0
 ·rw[show Xp n= -n by unfold Xp;omega] at hc
  have HC:=Qa.mk hc;clear hc hf;go_enter Tryz.func105,Tryz.ntmps105;go_wp2_with (go_at_fn g;refine HC.out.mono ?_;rintro e w' ⟨rfl,hb⟩);go_ret;exact⟨Pi (by unfold sg;rw[if_pos hn]),hb⟩
 ·rw[show Xp n=n by unfold Xp;omega] at hc
  have HC:=Qa.mk hc;clear hc hf;go_enter Tryz.func105,Tryz.ntmps105;go_wp2_with (go_at_fn g;refine HC.out.mono ?_;rintro e w' ⟨rfl,hb⟩);go_ret;exact⟨Pi (by unfold sg;rw[if_neg (by omega)]),hb⟩
end Go.Proofs.YtnflnicdjioflaaGreatDoor.Q15

namespace Go.Proofs.YtnflnicdjioflaaGreatDoor.Q15
open Go.RowKit Go.Proofs.YtnflnicdjioflaaGreatDoorW.PrintWords Go.Proofs.YtnflnicdjioflaaGreatDoorW.PrintLast Go.Proofs.YtnflnicdjioflaaGreatDoorW.PrintMore
attribute [local go_sem] Qh Qi Qk Ql Qd Qe
theorem bnx {w w1 w2:World} (h:Below w.heap.size w w1) (h2:Below w1.heap.size w1 w2):Below w.heap.size w w2:=h.trans (h2.mono h.size)
theorem cnx {w w1:World} {a:Addr} {v:Value} (h:w.cell? a=some v) (hb:Below w.heap.size w w1):w1.cell? a=some v:=(hb.cell (World.block_lt_of_cell? w _ h)).trans h
theorem Qa5 (q s:Int) (w:World) (h0: -1023<=q) (h1:q<=1023) (h2:0<=s) (h3:s<=95):
  Calls Tryz.prog 117 #[.int .i64 q,.int .i64 s] w fun e w'=>e= .returned (.int .i64 (sg q (V (Yh s) (Xp q))))/\Below w.heap.size w w':=by
 have hs:=Nu h2 h3;have hv:=V_bd (x:=Yh s) (Xp q) (by omega);have ha:0<=Xp q/\Xp q<=1023:=(by unfold Xp;omega);obtain⟨st,hst⟩: ∃st,st=Yh s:=⟨_,rfl⟩;have hw:=fun w=>Qcl s w h2 h3
 rw[<-hst] at hs hv hw ⊢;have HW:=Qa.mk hw;clear hst hw;go_enter Tryz.func117,Tryz.ntmps117
 go_wp2_with (first|(go_at_call 102;refine(HW.out _).mono ?_;rintro e w' ⟨rfl,hb1⟩)|
  (go_at_call 105;refine(Wl 162 #[.int .i64 st] #[] q (V st (Xp q)) _ (fun _ _=>by kernel_rfl) (by omega) (by omega) (by omega) (by omega) (fun W _=>Og st _ W (by omega) hs.2 ha.1 ha.2)).mono ?_;rintro e w' ⟨rfl,hb⟩))
 go_ret;exact⟨rfl,hb1.trans (hb.mono hb1.size)⟩
end Go.Proofs.YtnflnicdjioflaaGreatDoor.Q15

namespace Go.Proofs.YtnflnicdjioflaaGreatDoor.Q15
open Go.RowKit Go.Proofs.YtnflnicdjioflaaGreatDoorW.PrintWords Go.Proofs.YtnflnicdjioflaaGreatDoorW.PrintLast Go.Proofs.YtnflnicdjioflaaGreatDoorW.PrintMore
attribute [local go_sem] Qh Qi Qk Ql Qd Qe
theorem Yl (l:List Int) (k:Nat) (h:k<l.length):rd l k=l[k]:=by unfold rd;simp[List.getD_eq_getElem?_getD,h]
theorem Qp (l:List Int) (k:Nat) (h:k<l.length):rd l k∈l:=by rw[Yl l k h];exact List.getElem_mem _
theorem Qu (l:List Int) (k:Nat) (h:k<l.length):l.take (k+1)=l.take k++[rd l k]:=by rw[Yl l k h,List.take_succ_eq_append_getElem h]
theorem Qn {w w1:World} {A:Option Addr} {l:List Int} (hr:(Kd.int .i64).C w A l.length l) (hb:Below w.heap.size w w1) {k:Nat} (hk:k<l.length):
  ∃ad,A=some ad/\w1.cell? (ad.add k)=some (.int .i64 (rd l k)):=by
 obtain⟨ad,e,h⟩:=Kd.Cz hr (k:Nat) (by omega) (by omega);exact⟨ad,e,cnx h hb⟩
theorem Qw:(Tryz.prog.info? 3).map (fun i=>(i.zero,i.size,i.bytes))=some (some (.int .i64 0),1,8):=by kernel_rfl
theorem N8 (g:Nat) (fs cs:Array Value) (p:Int->Bool) (A:Option Addr) (cap:Nat) (l:List Int) (w:World) (eg:Enters g) (hr:(Kd.int .i64).C w A l.length l) (hl:l.length<=1099511627776)
  (hp: ∀x∈l,Kn g fs cs w x (p x)):
  Calls Tryz.prog 158 #[.slice A l.length cap,.func (.func g) fs cs] w fun e w'=>e= .returned (.bool (l.all p))/\Below w.heap.size w w':=by
 have HP:=Qa.mk hp;have HR:=Qa.mk hr;clear hp hr;unfold Enters at eg;go_enter Tryz.func158,Tryz.ntmps158;go_wp2;go_loopw [9] (fun i wr=> ∃k:Nat,i= .int .i64 k/\k<=l.length/\Qa ((l.take k).all p=true)/\Below w.heap.size w wr) (fun i _=>l.length-(intOf i).toNat)
 case atStart=>exact⟨0,rfl,by omega,⟨by simp⟩,Below.refl _ _⟩
 case round=>
  obtain⟨k,rfl,hk,ha,hb⟩:=hrel;by_cases hlt:k<l.length
  ·obtain⟨ad,rfl,hcell⟩:=Qn HR.out hb hlt
   have hc:=HP.out _ (Qp l k hlt) wr hb;have HT:=Qa.mk (Qu l k hlt);have HRD:=Qa.mk (Qp l k hlt);obtain⟨x,hx⟩: ∃x,x=rd l k:=⟨_,rfl⟩;rw[<-hx] at hcell hc HT HRD;clear hx
   cases hpm:p x with
   |true=>
    rw[hpm] at hc;have HC:=Qa.mk hc;have hpm:=Qa.mk hpm;clear hc;go_wp2_with (go_at_fn g;refine HC.out.mono ?_;rintro e w' ⟨rfl,hb1⟩);go_roundw
    case rel=>exact⟨k+1,by go_num,by omega,⟨by rw[HT.out,List.all_append,ha.out];simp[hpm.out]⟩,bnx hb hb1⟩
    case measure=>simp[intOf];omega
   |false=>
    rw[hpm] at hc;have HC:=Qa.mk hc;have hpm:=Qa.mk hpm;clear hc;go_wp2_with (go_at_fn g;refine HC.out.mono ?_;rintro e w' ⟨rfl,hb1⟩);go_ret;refine⟨?_,bnx hb hb1⟩;rw[show l.all p=false from List.all_eq_false.2 ⟨x,HRD.out,by rw[hpm.out];simp⟩];rfl
  ·obtain rfl:k=l.length:=by omega
   go_wp2;go_ret;refine⟨?_,hb⟩;have:=ha.out;rw[List.take_length] at this;rw[this];rfl
theorem Et (g:Nat) (fs cs:Array Value) (f:Int->Int) (A:Option Addr) (cap:Nat) (l:List Int) (w:World) (eg:Enters g) (hr:(Kd.int .i64).C w A l.length l) (hl:l.length<=1099511627776)
  (hp: ∀x∈l,FnInt g fs cs w x (f x)):
  Calls Tryz.prog 103 #[.slice A l.length cap,.func (.func g) fs cs] w fun e w'=> ∃v:Value,e= .returned v/\(Kd.int .i64).R 3 w' w.heap.size (fun _=>True) v (l.map f)/\Below w.heap.size w w':=by
 have HP:=Qa.mk hp;have HR:=Qa.mk hr;clear hp hr;unfold Enters at eg;go_enter Tryz.func103,Tryz.ntmps103;go_wp2;go_loopw [5,10] (fun o i wr=> ∃k:Nat,i= .int .i64 k/\k<=l.length/\Qa ((Kd.int .i64).R 3 wr w.heap.size (fun _=>True) o ((l.take k).map f))/\Below w.heap.size w wr) (fun _ i _=>l.length-(intOf i).toNat)
 case atStart=>exact⟨0,rfl,by omega,⟨Kd.Zx _ _ _ _ _⟩,Below.refl _ _⟩
 case round=>
  obtain⟨k,rfl,hk,ho,hb⟩:=hrel;by_cases hlt:k<l.length
  ·obtain⟨ad,rfl,hcell⟩:=Qn HR.out hb hlt
   have hc:=HP.out _ (Qp l k hlt) wr hb;have HT:=Qa.mk (Qu l k hlt);obtain⟨x,hx⟩: ∃x,x=rd l k:=⟨_,rfl⟩;rw[<-hx] at hcell hc HT;clear hx;have HC:=Qa.mk hc;clear hc;obtain⟨y,hy⟩: ∃y,y=(l.take k).map f:=⟨_,rfl⟩;have hyl:y.length<=1099511627776:=(by rw[hy];simp;omega);rw[<-hy] at ho;have HY:=Qa.mk hy;clear hy;go_wp2_with (first|(go_at_fn g;refine HC.out.mono ?_;rintro e w' ⟨rfl,hb1⟩;have HO1:=Qa.mk (Kd.Q4 ho.out hb1);have HB1:=Qa.mk (bnx hb hb1);clear ho hb hb1)|(at_builtin;refine Kd.Q3 (Kd.int .i64) (w0:=w) w.heap.size rfl (.tmp 14) (.tmp 18) 22 3 (.int .i64 0) 8 rfl Tryz.underlying22 Qw rfl (by decide) (by omega) u5 y (f x) [.int .i64 (f x)] (fun _=>True) (fun _=>False) rfl rfl rfl (fun _ hk=>hk.elim) (fun _ _=>trivial) HO1.out HB1.out HB1.out.size (by omega) ?_;intro v1 wA hoA hbA hgA hatA;have HOA:=Qa.mk hoA;have HBA:=Qa.mk hbA;clear hoA hbA hgA hatA));go_roundw
   case rel=>exact⟨k+1,by go_num,by omega,⟨by rw[HT.out,List.map_append,<-HY.out];exact HOA.out⟩,HBA.out⟩
   case measure=>simp[intOf];omega
  ·obtain rfl:k=l.length:=by omega
   rw[List.take_length] at ho;go_wp2;go_ret;exact⟨_,rfl,ho.out,hb⟩
end Go.Proofs.YtnflnicdjioflaaGreatDoor.Q15

namespace Go.Proofs.YtnflnicdjioflaaGreatDoor.Q21
open Go.RowKit Go.Proofs.YtnflnicdjioflaaGreatDoorW.PrintWords Go.Proofs.YtnflnicdjioflaaGreatDoorW.PrintLast Go.Proofs.YtnflnicdjioflaaGreatDoorW.PrintMore
attribute [local go_sem] Qh Qi Qk Ql Qd Qe
open Go.Proofs.YtnflnicdjioflaaGreatDoor.Q15
def Zc (sh:Bool) (g:List Int):Bool:=if sh then decide (g.length<=8)&&g.all (fun n=>decide (1<=n/\n<=8))&&decide (g.sum=8) else decide (g.length=0)
theorem Xr {g:List Int}:Zc true g=true↔g.length<=8/\(∀n∈g,1<=n/\n<=8)/\g.sum=8:=by
 unfold Zc;simp[and_assoc]
theorem L6 {g:List Int} {k:Nat} (hk:k<g.length) (h:rd g k<1\/8<rd g k):Zc true g=false:=by
 rw[<-Bool.not_eq_true];intro h2;have:=(Xr.1 h2).2.1 _ (Qp g k hk);omega
theorem Lx {g:List Int} (h8:g.length<=8) (ha: ∀n∈g,1<=n/\n<=8):Zc true g=decide (g.sum=8):=by
 by_cases h:g.sum=8
 ·rw[decide_eq_true h];exact Xr.2 ⟨h8,ha,h⟩
 ·rw[decide_eq_false h,<-Bool.not_eq_true];exact fun h2=>h (Xr.1 h2).2.2
theorem Ju (sh:Bool) (A:Option Addr) (cap:Nat) (g:List Int) (w:World) (hr:(Kd.int .i64).C w A g.length g):
  Calls Tryz.prog 94 #[.bool sh,.slice A g.length cap] w fun e w'=>e= .returned (.int .i64 (if Zc sh g then 0 else 1))/\Below w.heap.size w w':=by
 have hb:=Below.refl w.heap.size w;have HR:=Qa.mk hr;clear hr
 cases sh with
 |false=>
  by_cases h0:g.length=0
  ·rw[show Zc false g=true from decide_eq_true h0]
   have h1:decide ((g.length:Int)=0)=true:=decide_eq_true (by omega);have h2:((g.length:Int)==0)=true:=beq_iff_eq.2 (by omega);have h3:decide ((8:Int)<(g.length:Int))=false:=(by simp;omega);clear h0;go_enter Tryz.func94,Tryz.ntmps94;go_wp2;go_ret;exact⟨rfl,hb⟩
  ·rw[show Zc false g=false from decide_eq_false h0]
   have h1:decide ((g.length:Int)=0)=false:=decide_eq_false (by omega);have h2:((g.length:Int)==0)=false:=beq_eq_false_iff_ne.2 (by omega);clear h0;go_enter Tryz.func94,Tryz.ntmps94;go_wp2;go_ret;exact⟨rfl,hb⟩
 |true=>
  by_cases h8:8<g.length
  ·have hf:Zc true g=false:=by
    rw[<-Bool.not_eq_true];intro h2;have:=(Xr.1 h2).1;omega
   rw[hf];have h1:(8:Int)<(g.length:Int):=(by omega);clear h8;go_enter Tryz.func94,Tryz.ntmps94;go_wp2;go_ret;exact⟨rfl,hb⟩
  ·have hgI:(g.length:Int)<=8:=by omega
   have h3:decide ((8:Int)<(g.length:Int))=false:=(by simp;omega);have hno:=Qa.mk (fun k hk h=>L6 (g:=g) (k:=k) hk h);have hend:=Qa.mk (fun ha=>Lx (g:=g) (by omega) ha);obtain⟨E,hE⟩: ∃E,E=Zc true g:=⟨_,rfl⟩;rw[<-hE] at hno hend ⊢;obtain⟨V,hV⟩: ∃V:Value,V=(.int .i64 (if E then 0 else 1)):=⟨_,rfl⟩;have HV:Qa ((E=true->V= .int .i64 0)/\(E=false->V= .int .i64 1)):=⟨⟨fun h=>by rw[h] at hV;exact hV,fun h=>by rw[h] at hV;exact hV⟩⟩;rw[<-hV];clear hE h8 hV;go_enter Tryz.func94,Tryz.ntmps94;go_wp2;go_loopw [5,24] (fun s i wr=> ∃(k:Nat) (z:Int),i= .int .i64 k/\s= .int .i64 z/\k<=g.length/\0<=z/\z<=k*8/\Qa (z=(g.take k).sum)/\Qa (∀n∈g.take k,1<=n/\n<=8)/\Below w.heap.size w wr) (fun _ i _=>g.length-(intOf i).toNat)
   case atStart=>exact⟨0,0,rfl,rfl,by omega,by omega,by omega,⟨by simp⟩,⟨by simp⟩,Below.refl _ _⟩
   case round=>
    obtain⟨k,z,rfl,rfl,hk,hz0,hz1,hn,ha,hb⟩:=hrel;by_cases hlt:k<g.length
    ·obtain⟨ad,rfl,hcell⟩:=Qn HR.out hb hlt
     have hno2:=hno.out k hlt;have hT:=Qu g k hlt;have hkI:(k:Int)<(g.length:Int):=(by omega);obtain⟨n,hx⟩: ∃n,n=rd g k:=⟨_,rfl⟩;rw[<-hx] at hcell hno2 hT;replace hno2:=Qa.mk hno2;replace hT:=Qa.mk hT;clear hx;by_cases h1:n<1
     ·have hf:=Qa.mk (HV.out.2 (hno2.out (.inl h1)))
      go_wp2;go_ret;exact⟨by rw[hf.out];rfl,hb⟩
     ·by_cases h2:8<n
      ·have hf:=Qa.mk (HV.out.2 (hno2.out (.inr h2)))
       have h1':decide (n<1)=false:=(by simpa using h1);go_wp2;go_ret;exact⟨by rw[hf.out];rfl,hb⟩
      ·have h1':decide (n<1)=false:=by simpa using h1
       have h2':decide (8<n)=false:=(by simpa using h2);go_wp2;go_roundw
       case rel=>exact⟨k+1,z+n,by go_num,rfl,by omega,by omega,by omega,⟨by rw[hT.out,List.sum_append,hn.out];simp⟩,⟨by
        rw[hT.out];intro x hx;rcases List.mem_append.1 hx with hx|hx
        ·exact ha.out x hx
        ·rw[List.mem_singleton.1 hx];omega⟩,hb⟩
       case measure=>simp[intOf];omega
    ·obtain rfl:k=g.length:=by omega
     have hA:=ha.out;have hN:=hn.out;rw[List.take_length] at hA hN;have hf:=hend.out hA;rw[<-hN] at hf;replace hf:=Qa.mk hf;clear ha hn hA hN;by_cases g1:z=8
     ·subst g1
      replace hf:=Qa.mk (HV.out.1 (hf.out.trans (decide_eq_true rfl)));go_wp2;go_ret;exact⟨by rw[hf.out];rfl,hb⟩
     ·have g2:(z != 8)=true:=bne_iff_ne.2 g1
      have g3:(z==8)=false:=(by simpa using g1);replace hf:=Qa.mk (HV.out.2 (hf.out.trans (decide_eq_false g1)));clear g1;go_wp2;go_ret;exact⟨by rw[hf.out];rfl,hb⟩
theorem Ot (sh:Bool) (A:Option Addr) (cap:Nat) (g:List Int) (w:World) (hr:(Kd.int .i64).C w A g.length g):
  Calls Tryz.prog 62 #[.bool sh,.slice A g.length cap] w fun e w'=>e= .returned (.bool (Zc sh g))/\Below w.heap.size w w':=by
 have hb:=Below.refl w.heap.size w;have HR:=Qa.mk hr;clear hr
 cases sh with
 |false=>
  by_cases h0:g.length=0
  ·rw[show Zc false g=true from decide_eq_true h0]
   have h1:decide ((g.length:Int)=0)=true:=decide_eq_true (by omega);have h2:((g.length:Int)==0)=true:=beq_iff_eq.2 (by omega);have h3:decide ((8:Int)<(g.length:Int))=false:=(by simp;omega);clear h0;go_enter Tryz.func62,Tryz.ntmps62;go_wp2;go_ret;exact⟨rfl,hb⟩
  ·rw[show Zc false g=false from decide_eq_false h0]
   have h1:decide ((g.length:Int)=0)=false:=decide_eq_false (by omega);have h2:((g.length:Int)==0)=false:=beq_eq_false_iff_ne.2 (by omega);clear h0;go_enter Tryz.func62,Tryz.ntmps62;go_wp2;go_ret;exact⟨rfl,hb⟩
 |true=>
  by_cases h8:8<g.length
  ·have hf:Zc true g=false:=by
    rw[<-Bool.not_eq_true];intro h2;have:=(Xr.1 h2).1;omega
   rw[hf];have h1:(8:Int)<(g.length:Int):=(by omega);clear h8;go_enter Tryz.func62,Tryz.ntmps62;go_wp2;go_ret;exact⟨rfl,hb⟩
  ·have hgI:(g.length:Int)<=8:=by omega
   have h3:decide ((8:Int)<(g.length:Int))=false:=(by simp;omega);have hno:=Qa.mk (fun k hk h=>L6 (g:=g) (k:=k) hk h);have hend:=Qa.mk (fun ha=>Lx (g:=g) (by omega) ha);obtain⟨E,hE⟩: ∃E,E=Zc true g:=⟨_,rfl⟩;rw[<-hE] at hno hend ⊢;obtain⟨V,hV⟩: ∃V:Value,V=(.bool E):=⟨_,rfl⟩;have HV:Qa ((E=true->V= .bool true)/\(E=false->V= .bool false)):=⟨⟨fun h=>by rw[h] at hV;exact hV,fun h=>by rw[h] at hV;exact hV⟩⟩;rw[<-hV];clear hE h8 hV;go_enter Tryz.func62,Tryz.ntmps62;go_wp2;go_loopw [5,24] (fun s i wr=> ∃(k:Nat) (z:Int),i= .int .i64 k/\s= .int .i64 z/\k<=g.length/\0<=z/\z<=k*8/\Qa (z=(g.take k).sum)/\Qa (∀n∈g.take k,1<=n/\n<=8)/\Below w.heap.size w wr) (fun _ i _=>g.length-(intOf i).toNat)
   case atStart=>exact⟨0,0,rfl,rfl,by omega,by omega,by omega,⟨by simp⟩,⟨by simp⟩,Below.refl _ _⟩
   case round=>
    obtain⟨k,z,rfl,rfl,hk,hz0,hz1,hn,ha,hb⟩:=hrel;by_cases hlt:k<g.length
    ·obtain⟨ad,rfl,hcell⟩:=Qn HR.out hb hlt
     have hno2:=hno.out k hlt;have hT:=Qu g k hlt;have hkI:(k:Int)<(g.length:Int):=(by omega);obtain⟨n,hx⟩: ∃n,n=rd g k:=⟨_,rfl⟩;rw[<-hx] at hcell hno2 hT;replace hno2:=Qa.mk hno2;replace hT:=Qa.mk hT;clear hx;by_cases h1:n<1
     ·have hf:=Qa.mk (HV.out.2 (hno2.out (.inl h1)))
      go_wp2;go_ret;exact⟨by rw[hf.out];rfl,hb⟩
     ·by_cases h2:8<n
      ·have hf:=Qa.mk (HV.out.2 (hno2.out (.inr h2)))
       have h1':decide (n<1)=false:=(by simpa using h1);go_wp2;go_ret;exact⟨by rw[hf.out];rfl,hb⟩
      ·have h1':decide (n<1)=false:=by simpa using h1
       have h2':decide (8<n)=false:=(by simpa using h2);go_wp2;go_roundw
       case rel=>exact⟨k+1,z+n,by go_num,rfl,by omega,by omega,by omega,⟨by rw[hT.out,List.sum_append,hn.out];simp⟩,⟨by
        rw[hT.out];intro x hx;rcases List.mem_append.1 hx with hx|hx
        ·exact ha.out x hx
        ·rw[List.mem_singleton.1 hx];omega⟩,hb⟩
       case measure=>simp[intOf];omega
    ·obtain rfl:k=g.length:=by omega
     have hA:=ha.out;have hN:=hn.out;rw[List.take_length] at hA hN;have hf:=hend.out hA;rw[<-hN] at hf;replace hf:=Qa.mk hf;clear ha hn hA hN;by_cases g1:z=8
     ·subst g1
      replace hf:=Qa.mk (HV.out.1 (hf.out.trans (decide_eq_true rfl)));go_wp2;go_ret;exact⟨by rw[hf.out];rfl,hb⟩
     ·have g2:(z != 8)=true:=bne_iff_ne.2 g1
      have g3:(z==8)=false:=(by simpa using g1);replace hf:=Qa.mk (HV.out.2 (hf.out.trans (decide_eq_false g1)));clear g1;go_wp2;go_ret;exact⟨by rw[hf.out];rfl,hb⟩
end Go.Proofs.YtnflnicdjioflaaGreatDoor.Q21

namespace Go.Proofs.YtnflnicdjioflaaGreatDoor.Bts
open Go.RowKit Go.Proofs.YtnflnicdjioflaaGreatDoorW.PrintWords Go.Proofs.YtnflnicdjioflaaGreatDoorW.PrintLast Go.Proofs.YtnflnicdjioflaaGreatDoorW.PrintMore
attribute [local go_sem] Qh Qi Qk Ql Qd Qe
def Yu (l:List Int) (i:Nat):Nat->Int
 |0=>0
 |m+1=>Yu l i m+l.getD (8*i+m) 0*2^(7-m)
def Xq (l:List Int) (i:Nat):Int:=Yu l i 8
def Q8 (l:List Int):List Int:=(List.range ((l.length+7)/8)).map (Xq l)
def Uv (l:List Int):Prop:= ∀x∈l,x=0\/x=1
theorem Zp (l:List Int):(Q8 l).length =(l.length+7)/8:=by simp[Q8]
theorem Qek:Q8 []=[]:=rfl
theorem gD_in {l:List Int} {i:Nat} (h:i<l.length):l.getD i 0=l[i]:=by simp[List.getD_eq_getElem?_getD,h]
theorem gD_out {l:List Int} {i:Nat} (h:l.length<=i):l.getD i 0=0:=by simp[List.getD_eq_getElem?_getD,h]
theorem gD_app {l k:List Int} {i:Nat} (h:i<l.length):(l++k).getD i 0=l.getD i 0:=by simp[List.getD_eq_getElem?_getD,List.getElem?_append_left h]
theorem Ip {l:List Int} (h:Uv l) (i:Nat):l.getD i 0=0\/l.getD i 0=1:=by
 by_cases hi:i<l.length
 ·rw[gD_in hi]
  exact h _ (List.getElem_mem hi)
 ·rw[gD_out (by omega)]
  exact .inl rfl
theorem Li {l:List Int} (h:Uv l) (i:Nat): ∀m,m<=8-> ∃a:Int,Yu l i m=a*2^(8-m)/\0<=a/\a<=2^m-1
 |0,_=>⟨0,by simp[Yu],by omega,by simp⟩
 |m+1,hm=>by
  obtain⟨a,e,a0,a1⟩:=Li h i m (by omega);refine⟨2*a+l.getD (8*i+m) 0,?_,?_,?_⟩
  ·rw[Yu,e,show 8-m=(7-m)+1 by omega,Int.pow_succ,show 8-(m+1)=7-m by omega,Int.add_mul,Int.mul_comm (2^(7-m)) 2,<-Int.mul_assoc,Int.mul_comm a 2]
  ·rcases Ip h (8*i+m) with e|e<;>rw[e]<;>omega
  ·rw[Int.pow_succ]
   rcases Ip h (8*i+m) with e|e<;>rw[e]<;>omega
theorem Uo {l k:List Int} (i:Nat): ∀m,8*i+m<=l.length->Yu (l++k) i m=Yu l i m
 |0,_=>rfl
 |m+1,hm=>by
  rw[Yu,Yu,Uo i m (by omega),gD_app (by omega)]
theorem Yx {l:List Int} (i:Nat): ∀m m',m<=m'->l.length<=8*i+m->Yu l i m'=Yu l i m:=by
 intro m m' hm hl
 induction m' with
 |zero=>rw[show m=0 by omega]
 |succ n ih=>
  by_cases h:m=n+1
  ·rw[h]
  ·rw[Yu,ih (by omega),gD_out (by omega)]
   simp
theorem Rk {l k:List Int} (h:Uv l) (h2:Uv k):Uv (l++k):=fun x hx=>by
 rcases List.mem_append.1 hx with hx|hx
 ·exact h x hx
 ·exact h2 x hx
theorem Qbx:Uv []:=fun x hx=>by cases hx
theorem Rl {b:Int} (h:b=0\/b=1):Uv [b]:=fun x hx=>by rw[List.mem_singleton.1 hx];exact h
theorem Qej {l:List Int} (b:Int) (h:l.length%8=0):Q8 (l++[b])=Q8 l++[b*128]:=by
 unfold Q8;have h1:((l++[b]).length +7)/8=(l.length+7)/8+1:=(by simp;omega);rw[h1,List.range_succ,List.map_append]
 congr 1
 ·refine List.map_congr_left fun i hi=> ?_
  have hi:=List.mem_range.1 hi;exact Uo i 8 (by omega)
 ·simp only[List.map_cons,List.map_nil]
  congr 1
  have h2:(l.length+7)/8=l.length/8:=(by omega);have h3:8*(l.length/8)=l.length:=(by omega);unfold Xq;rw[Yx (l:=l++[b]) _ 1 8 (by omega) (by simp;omega),Yu,Yu,h2];simp[h3]
theorem packL_in {l:List Int} (b:Int) (h:l.length%8≠0):Q8 (l++[b])=(Q8 l).set (l.length/8) (Xq l (l.length/8)+b*2^(7-l.length%8)):=by
 have h1:((l++[b]).length +7)/8=(l.length+7)/8:=by simp;omega
 apply List.ext_getElem
 ·rw[Zp,h1,List.length_set,Zp]
 ·intro i p1 p2
  rw[Zp] at p1;rw[List.getElem_set];simp only[Q8,List.getElem_map,List.getElem_range];by_cases hi:l.length/8=i
  ·rw[if_pos hi]
   subst hi;unfold Xq;rw[Yx (l:=l++[b]) _ (l.length%8+1) 8 (by omega) (by simp;omega),Yx (l:=l) _ (l.length%8) 8 (by omega) (by omega),Yu,Uo _ _ (by omega)];have h3:8*(l.length/8)+l.length%8=l.length:=(by omega);rw[h3];simp
  ·rw[if_neg hi]
   exact Uo i 8 (by simp at p1;omega)
theorem Qbk {l:List Int} (h:Uv l) (h8:l.length%8≠0): ∃a:Int,Xq l (l.length/8)=a*2^(8-l.length%8)/\0<=a/\a<=2^(l.length%8)-1:=by
 unfold Xq;rw[Yx (l:=l) _ (l.length%8) 8 (by omega) (by omega)];exact Li h _ _ (by omega)
theorem rd_packL {l:List Int} {i:Nat} (h:i<(l.length+7)/8):rd (Q8 l) i=Xq l i:=by
 simp[rd,Q8,h]
theorem Qc6 (a b:Int) (r:Nat) (hr:r<8) (ha:0<=a) (ha1:a<=2^r-1) (hb:b=0\/b=1):
  bits .or .u8 (a*2^(8-r)) (b*2^(7-r))=a*2^(8-r)+b*2^(7-r):=by
 have key: ∀r:Fin 8,∀a:Fin 128,∀b:Fin 2,a.val<=2^r.val-1->bits .or .u8 ((a.val:Int)*2^(8-r.val)) ((b.val:Int)*2^(7-r.val))=(a.val:Int)*2^(8-r.val)+(b.val:Int)*2^(7-r.val):=(by decide+kernel);obtain⟨n,rfl⟩:=Int.eq_ofNat_of_zero_le ha
 have h1:n<=2^r-1:=by
  have:((2^r:Nat):Int)=2^r:=(by simp);omega
 have h2:2^r<=128:=Nat.pow_le_pow_right (n:=2) (by omega) (show r<=7 by omega);rcases hb with rfl|rfl
 ·exact key ⟨r,hr⟩ ⟨n,by omega⟩ ⟨0,by omega⟩ h1
 ·exact key ⟨r,hr⟩ ⟨n,by omega⟩ ⟨1,by omega⟩ h1
end Go.Proofs.YtnflnicdjioflaaGreatDoor.Bts

namespace Go.Proofs.YtnflnicdjioflaaGreatDoor.Bts
open Go.RowKit Go.Proofs.YtnflnicdjioflaaGreatDoorW.PrintWords Go.Proofs.YtnflnicdjioflaaGreatDoorW.PrintLast Go.Proofs.YtnflnicdjioflaaGreatDoorW.PrintMore
attribute [local go_sem] Qh Qi Qk Ql Qd Qe
open Go.Proofs.YtnflnicdjioflaaGreatDoor.Q15 (cnx bnx)
structure Kp (p:Nat) (q:Option Nat) (w w':World):Prop where
 os:w'.os=w.os
 tape:w'.tape=w.tape
 output:w'.output=w.output
 size:w.heap.size<=w'.heap.size
 block: ∀k,k<w.heap.size->k≠p->some k≠q->w'.heap[k]? =w.heap[k]?
theorem Kp.refl (p:Nat) (q:Option Nat) (w:World):Kp p q w w:=⟨rfl,rfl,rfl,Nat.le_refl _,fun _ _ _ _=>rfl⟩
theorem Kp.trans {p:Nat} {q q1:Option Nat} {w w1 w2:World} (h:Kp p q w w1) (h2:Kp p q1 w1 w2) (hq:q1=q\/ ∃g,q1=some g/\w.heap.size<=g):Kp p q w w2:=
 ⟨h2.os.trans h.os,h2.tape.trans h.tape,h2.output.trans h.output,Nat.le_trans h.size h2.size,fun k hk hp hne=>by
  refine(h2.block k (Nat.lt_of_lt_of_le hk h.size) hp ?_).trans (h.block k hk hp hne);rcases hq with e|⟨g,e,hg⟩
  ·rw[e];exact hne
  ·rw[e]
   intro h;have:=Option.some.inj h
   omega⟩
theorem Kp.of_below {w w1:World} (h:Below w.heap.size w w1) (p:Nat) (q:Option Nat):Kp p q w w1:=⟨h.os,h.tape,h.output,h.size,fun k hk _ _=>h.block k hk⟩
theorem Kp.of_grown {w w1:World} {q:Option Nat} (h:w.grownBy w1 q) (p:Nat):Kp p q w w1:=⟨h.os,h.tape,h.output,h.size,fun k hk _ hne=>h.block k hk hne⟩
theorem Kp.Zk {p:Nat} {q:Option Nat} {w w1 w2:World} (h:Kp p q w w1) (h2:Below w.heap.size w1 w2):Kp p q w w2:=
 ⟨h2.os.trans h.os,h2.tape.trans h.tape,h2.output.trans h.output,Nat.le_trans h.size h2.size,fun k hk hp hne=>(h2.block k hk).trans (h.block k hk hp hne)⟩
theorem Kp.drew {p:Nat} {q:Option Nat} {w w1:World} (h:Kp p q w w1):Kp p q w w1.drew:=⟨h.os,h.tape,h.output,h.size,h.block⟩
theorem Kp.Dj {p:Nat} {q:Option Nat} {w w1:World} (h:Kp p q w w1) (j:Nat) (u:Value):Kp p q w (w1.setCell ⟨p,j,none⟩ u):=
 ⟨h.os,h.tape,h.output,by simpa[World.setCell] using h.size,fun k hk hp hne=>(Below.heap_setCell w1 ⟨p,j,none⟩ u k hp).trans (h.block k hk hp hne)⟩
theorem Kp.setQ {p g:Nat} {w w1:World} {q:Option Nat} (h:Kp p q w w1) (hg:q=some g\/w.heap.size<=g) (j:Nat) (u:Value):Kp p q w (w1.setCell ⟨g,j,none⟩ u):=
 ⟨h.os,h.tape,h.output,by simpa[World.setCell] using h.size,fun k hk hp hne=>(Below.heap_setCell w1 ⟨g,j,none⟩ u k (by
  intro e;rcases hg with e2|e2
  ·exact hne (by rw[e2,e])
  ·simp at e;omega)).trans (h.block k hk hp hne)⟩
theorem Kp.below {p:Nat} {q:Option Nat} {w w1:World} {B:Nat} (h:Kp p q w w1) (hp:B<=p) (hq: ∀k,q=some k->B<=k) (hB:B<=w.heap.size):Below B w w1:=
 ⟨h.os,h.tape,h.output,h.size,fun k hk=>h.block k (by omega) (by omega) (fun e=>by have:=hq k e.symm;omega)⟩
theorem Kp.blk {p:Nat} {q:Option Nat} {w w1:World} (h:Kp p q w w1) {g:Nat} {o:Obj} (hg:w.heap[g]? =some o) (hp:g≠p) (hq:some g≠q):w1.heap[g]? =some o:=(h.block g (Qr hg) hp hq).trans hg
theorem Kp.cell {p:Nat} {q:Option Nat} {w w1:World} (h:Kp p q w w1) {a:Addr} {v:Value} (hc:w.cell? a=some v) (hp:a.block≠p) (hq:some a.block≠q):w1.cell? a=some v:=by
 have:=h.block a.block (World.block_lt_of_cell? w a hc) hp hq;simpa[World.cell?,this] using hc
theorem Un {α:Type} {d:Kd α} {e b B:Nat} {ok:Nat->Prop} {w:World} {v:Value} {xs:List α} (h:d.R e w b ok v xs) (hB:B<=b):d.R e w B (fun k=>b<=k) v xs:=
 Kd.Zz (Kd.Xz (Kd.Zd h) (fun k hk=>hk.2.1)) hB
theorem Qbe {α:Type} {d:Kd α} {e b:Nat} {ok:Nat->Prop} {w:World} {v:Value} {xs:List α} (h:d.R e w b ok v xs) (hn:0<xs.length): ∃g c,v= .slice (some ⟨g,0,none⟩) xs.length c:=by
 obtain⟨A,c,rfl,_,hC⟩:=Kd.Qs h;obtain⟨ad,rfl,_⟩:=hC.2.2 hn;obtain⟨_,inner,ho,_⟩:=h;rcases ho.2 with ⟨hv,_⟩|⟨g,cap',cur,hv,_⟩
 ·cases hv
 ·cases hv
  exact⟨g,c,rfl⟩
end Go.Proofs.YtnflnicdjioflaaGreatDoor.Bts

namespace Go.Proofs.YtnflnicdjioflaaGreatDoor.Q15
open Go.RowKit Go.Proofs.YtnflnicdjioflaaGreatDoorW.PrintWords Go.Proofs.YtnflnicdjioflaaGreatDoorW.PrintLast Go.Proofs.YtnflnicdjioflaaGreatDoorW.PrintMore
attribute [local go_sem] Qh Qi Qk Ql Qd Qe
theorem Ju (g:Nat) (p:Int->Bool) (A:Option Addr) (cap:Nat) (l:List Int) (s:Int) (w:World) (eg:Enters g) (hr:(Kd.int .i64).C w A l.length l)
  (hp: ∀x W,Kn g #[] #[] W x (p x)):
  Calls Tryz.prog 100 #[.slice A l.length cap,.int .i64 s,.func (.func g) #[] #[]] w fun e w'=>e= .returned (.int .i64 (chk p l s))/\Below w.heap.size w w':=by
 have HA:l.length<=128-> ∀W,Below w.heap.size w W->Calls Tryz.prog 158 #[.slice A l.length cap,.func (.func g) #[] #[]] W fun e w'=>e= .returned (.bool (l.all p))/\Below W.heap.size W w':=
  fun hl W hb=>N8 g #[] #[] p A cap l W eg (Kd.Qf hr hb) (by omega) (fun x _=>hp x W)
 replace HA:=Qa.mk HA;clear hp hr
 cases h:isS s with
 |true=>
  by_cases hn:l.length<=128
  ·cases k:l.all p with
   |true=>
    have e:chk p l s=0:=(by unfold chk;rw[if_pos h,if_pos hn,if_pos k]);rw[k] at HA;rw[e];clear e k;go_enter Tryz.func100,Tryz.ntmps100;go_wp2_with (first|(go_at_call 157;refine(Dv _ _).mono ?_;rintro e w' ⟨rfl,hb0⟩)|(go_at_call 158;refine(HA.out hn _ hb0).mono ?_;rintro e w' ⟨rfl,hb⟩));go_ret;exact⟨rfl,bnx hb0 hb⟩
   |false=>
    have e:chk p l s=6:=(by unfold chk;rw[if_pos h,if_pos hn,if_neg (by rw[k];simp)]);rw[k] at HA;rw[e];clear e k;go_enter Tryz.func100,Tryz.ntmps100;go_wp2_with (first|(go_at_call 157;refine(Dv _ _).mono ?_;rintro e w' ⟨rfl,hb0⟩)|(go_at_call 158;refine(HA.out hn _ hb0).mono ?_;rintro e w' ⟨rfl,hb⟩));go_ret;exact⟨rfl,bnx hb0 hb⟩
  ·have e:chk p l s=2:=by unfold chk;rw[if_pos h,if_neg hn]
   rw[e];clear e;have hn':(128:Int)<(l.length:Int):=(by omega);go_enter Tryz.func100,Tryz.ntmps100;go_wp2_with (first|(go_at_call 157;refine(Dv _ _).mono ?_;rintro e w' ⟨rfl,hb0⟩));go_ret;exact⟨rfl,hb0⟩
 |false=>
  have e:chk p l s=1:=(by unfold chk;rw[if_neg (by rw[h];simp)]);rw[e];clear e;go_enter Tryz.func100,Tryz.ntmps100;go_wp2_with (first|(go_at_call 157;refine(Dv _ _).mono ?_;rintro e w' ⟨rfl,hb0⟩));go_ret;exact⟨rfl,hb0⟩
theorem fn_isQ (x:Int) (W:World):Kn 115 #[] #[] W x (isQ x):=fun W' _=>Qea x W'
theorem M8 (q s:Int) (B:Nat) (w:World) (hc:w.cell? ⟨B,0,none⟩=some (.int .i64 s)) (h0: -1023<=q) (h1:q<=1023) (h2:0<=s) (h3:s<=95):
  Calls Tryz.prog 116 #[.int .i64 q,.pointer (some ⟨B,0,none⟩)] w fun e w'=>e= .returned (.int .i64 (sg q (V (Yh s) (Xp q))))/\Below w.heap.size w w':=by
 go_enter Tryz.func116,Tryz.ntmps116;go_wp2_with (first|(go_at_call 117;refine(Qa5 _ _ _ h0 h1 h2 h3).mono ?_;rintro e w' ⟨rfl,hb⟩));go_ret;exact⟨rfl,hb⟩
end Go.Proofs.YtnflnicdjioflaaGreatDoor.Q15

namespace Go.Proofs.YtnflnicdjioflaaGreatDoor.Q15
open Go.RowKit Go.Proofs.YtnflnicdjioflaaGreatDoorW.PrintWords Go.Proofs.YtnflnicdjioflaaGreatDoorW.PrintLast Go.Proofs.YtnflnicdjioflaaGreatDoorW.PrintMore
attribute [local go_sem] Qh Qi Qk Ql Qd Qe
theorem P8 {p:Int->Bool} {l:List Int} {s:Int} (h:chk p l s=0):(0<=s/\s<=95)/\l.length<=128/\ ∀x∈l,p x=true:=by
 unfold chk at h
 split at h
 ·rename_i h1
  split at h
  ·rename_i h2
   split at h
   ·rename_i h3
    exact⟨isS_bd h1,h2,List.all_eq_true.1 h3⟩
   ·omega
  ·omega
 ·omega
theorem Qdn (A:Option Addr) (cap:Nat) (l:List Int) (s:Int) (w:World) (hr:(Kd.int .i64).C w A l.length l) (hk:chk isQ l s≠0):
  Calls Tryz.prog 70 #[.slice A l.length cap,.int .i64 s] w fun e w'=>e= .returned (.tuple #[.slice none 0 0,.int .i64 (chk isQ l s)])/\Below w.heap.size w w':=by
 obtain⟨e0,he0⟩: ∃e0,e0=chk isQ l s:=⟨_,rfl⟩;have HC:=fun W hb=>Ju 115 isQ A cap l s W (fun _ _=>by kernel_rfl) (Kd.Qf hr hb) fn_isQ
 rw[<-he0] at HC hk ⊢;replace HC:=Qa.mk HC;have hk':(e0==0)=false:=beq_eq_false_iff_ne.2 hk;have hb1:=(Below.refl w.heap.size w).alloc (Nat.le_refl _) (.cells #[.int .i64 s] 3);clear he0 hr;go_enter Tryz.func70,Tryz.ntmps70;go_wp2_with (first|(go_at_call 100;refine(HC.out _ hb1).mono ?_;rintro e w' ⟨rfl,hb0⟩));go_ret2;exact⟨rfl,bnx hb1 hb0⟩
theorem Ty (A:Option Addr) (cap:Nat) (l:List Int) (s:Int) (w:World) (hr:(Kd.int .i64).C w A l.length l) (hk:chk isQ l s=0):
  Calls Tryz.prog 70 #[.slice A l.length cap,.int .i64 s] w fun e w'=> ∃v,e= .returned (.tuple #[v,.int .i64 0])/\(Kd.int .i64).R 3 w' w.heap.size (fun _=>True) v (l.map fun q=>sg q (V (Yh s) (Xp q)))/\Below w.heap.size w w':=by
 obtain⟨hs,hl,hp⟩:=P8 hk;have HC:=fun W hb=>Ju 115 isQ A cap l s W (fun _ _=>by kernel_rfl) (Kd.Qf hr hb) fn_isQ
 rw[hk] at HC;replace HC:=Qa.mk HC
 have HM: ∀W B,Below w.heap.size w W->W.cell? ⟨B,0,none⟩=some (.int .i64 s)->
   Calls Tryz.prog 103 #[.slice A l.length cap,.func (.func 116) #[] #[.pointer (some ⟨B,0,none⟩)]] W fun e w'=> ∃v:Value,e= .returned v/\(Kd.int .i64).R 3 w' W.heap.size (fun _=>True) v (l.map fun q=>sg q (V (Yh s) (Xp q)))/\Below W.heap.size W w':=
  fun W B hb hB=>Et _ #[] _ _ A cap l W (fun _ _=>by kernel_rfl) (Kd.Qf hr hb) (by omega) (fun c hc W' hb'=>by
   have hcb:=isQ_bd (hp c hc)
   exact M8 c s B W' (cnx hB hb') hcb.1 hcb.2 hs.1 hs.2)
 replace HM:=Qa.mk HM;have hb1:=(Below.refl w.heap.size w).alloc (Nat.le_refl _) (.cells #[.int .i64 s] 3);clear hk hr hp;go_enter Tryz.func70,Tryz.ntmps70;go_wp2_with (first|(go_at_call 100;refine(HC.out _ hb1).mono ?_;rintro e w2 ⟨rfl,hb0⟩;have hcell:w2.cell? ⟨w.heap.size,0,none⟩=some (.int .i64 s):=cnx (by simp) hb0)|(go_at_call 103;refine(HM.out _ _ (bnx hb1 hb0) hcell).mono ?_;rintro e w2 ⟨v,rfl,hR,hb3⟩));go_ret2;exact⟨v,rfl,Kd.Zz hR (bnx hb1 hb0).size,bnx (bnx hb1 hb0) hb3⟩
end Go.Proofs.YtnflnicdjioflaaGreatDoor.Q15

namespace Go.Proofs.YtnflnicdjioflaaGreatDoor.Q15
theorem Ab:((List.range 1024).all fun k=>decide (P (k:Nat)*P (k:Nat)*P (k:Nat)<=4096*(k:Nat)*(k:Nat)*(k:Nat)*(k:Nat)/\4096*((k:Nat):Int)*(k:Nat)*(k:Nat)*(k:Nat)<(P (k:Nat)+1)*(P (k:Nat)+1)*(P (k:Nat)+1)))=true:=by decide+kernel
theorem Qdz {a b:Int} (h0:0<=a) (h:a<=b):a*a*a<=b*b*b:=(Zg (Zg h0 h h0 h).1 (Zg h0 h h0 h).2 h0 h).2
theorem Qcu {a b:Int} (_h0:0<=a) (hb:0<=b) (h:a*a*a<b*b*b):a<b:=by
 rcases Int.lt_or_le a b with h1|h1
 ·exact h1
 ·have:=Qdz hb h1;omega
theorem Qd0 {a b n:Int} (ha:0<=a) (hb:0<=b) (h1:a*a*a<=n) (h2:n<(a+1)*(a+1)*(a+1)) (h3:b*b*b<=n) (h4:n<(b+1)*(b+1)*(b+1)):a=b:=by
 have e1:=Qcu ha (show 0<=b+1 by omega) (Int.lt_of_le_of_lt h1 h4);have e2:=Qcu hb (show 0<=a+1 by omega) (Int.lt_of_le_of_lt h3 h2);omega
theorem P_cube {q:Int} (h0:0<=q) (h1:q<=1023):P q*P q*P q<=4096*q*q*q*q/\4096*q*q*q*q<(P q+1)*(P q+1)*(P q+1):=by
 have h:=List.all_eq_true.1 Ab q.toNat (by simp;omega);simp only[decide_eq_true_eq] at h
 rwa [Int.toNat_of_nonneg h0] at h
theorem q4_abs (q:Int):4096*q*q*q*q=4096*Xp q*Xp q*Xp q*Xp q:=by
 unfold Xp;rcases Int.le_total 0 q with h|h
 ·rw[show max q (-q)=q by omega]
 ·rw[show max q (-q)= -q by omega]
  simp only[Int.mul_neg,Int.neg_mul,Int.neg_neg]
def tab (x:Int):List Int:=Zh.map fun p=>min 2097152 ((2*(p*x)+256)/512)
end Go.Proofs.YtnflnicdjioflaaGreatDoor.Q15

namespace Go.Proofs.YtnflnicdjioflaaGreatDoor.Q15
open Go.RowKit Go.Proofs.YtnflnicdjioflaaGreatDoorW.PrintWords Go.Proofs.YtnflnicdjioflaaGreatDoorW.PrintLast Go.Proofs.YtnflnicdjioflaaGreatDoorW.PrintMore
attribute [local go_sem] Qh Qi Qk Ql Qd Qe
theorem Qbn (n r:Int) (w:World) (hn0:0<=n) (hn1:n<=4611686018427387904) (hr0:0<=r) (hr1:r*r*r<=n) (hr2:n<(r+1)*(r+1)*(r+1)):
  Calls Tryz.prog 206 #[.int .i64 n] w fun e w'=>e= .returned (.tuple #[.int .i64 r,.int .i64 0])/\Below w.heap.size w w':=by
 have hR:=Qa.mk hr1;have hR2:=Qa.mk hr2;clear hr1 hr2;go_enter Tryz.func206,Tryz.ntmps206;go_wp2;go_loopw [4,5] (fun a b wr=> ∃(x B:Int),a= .int .i64 x/\b= .int .i64 (B/2)/\0<=x/\1<=B/\Qa (∃j:Nat,B=2^j)/\x+B<=2097152/\Qa (x*x*x<=n)/\Qa (n<(x+B)*(x+B)*(x+B))/\Below w.heap.size w wr) (fun _ b _=>(intOf b).toNat)
 case atStart=>exact⟨0,2097152,rfl,rfl,by omega,by omega,⟨21,by decide⟩,by omega,⟨by omega⟩,⟨by omega⟩,Below.refl _ _⟩
 case round=>
  obtain⟨x,B,rfl,rfl,hx,hB,⟨j,hj⟩,hxB,h1,h2,hb⟩:=hrel;by_cases hlt:B=1
  ·subst hlt
   have e:x=r:=Qd0 hx hr0 h1.out h2.out hR.out hR2.out;subst e;clear hj;go_wp2;go_ret2;exact⟨rfl,hb⟩
  ·have hj2: ∃k:Nat,B=2*2^k:=by
    cases j with
    |zero=>exact absurd hj (by omega)
    |succ k=>exact⟨k,by rw[hj,Int.pow_succ,Int.mul_comm]⟩
   obtain⟨k,hk⟩:=hj2;obtain⟨C,hC⟩: ∃C:Int,C=2^k:=⟨_,rfl⟩;rw[<-hC] at hk;have HC:=Qa.mk (⟨k,hC⟩: ∃k:Nat,C=2^k);clear hC hj;subst hk;have hd:2*C/2=C:=(by omega);rw[hd];have hy:0<=x+C/\x+C<=2097151:=(by omega);have hs:=Zg hy.1 hy.2 hy.1 hy.2;have hs3:=Zg hs.1 hs.2 hy.1 hy.2;have e2:x+2*C=x+C+C:=(by omega);by_cases hle:(x+C)*(x+C)*(x+C)<=n
   ·have HA:=Qa.mk hle
    have H2:Qa (n<(x+C+C)*(x+C+C)*(x+C+C)):=⟨by rw[<-e2];exact h2.out⟩;clear h1 h2 e2 hd;go_wp2;go_roundw
    case rel=>exact⟨x+C,C,rfl,rfl,by omega,by omega,HC,by omega,HA,H2,hb⟩
    case measure=>simp[intOf];omega
   ·have H2:Qa (n<(x+C)*(x+C)*(x+C)):=⟨by omega⟩
    have hle':n<(x+C)*(x+C)*(x+C):=(by omega);clear h2 e2 hd;go_wp2;go_roundw
    case rel=>exact⟨x,C,rfl,rfl,by omega,by omega,HC,by omega,h1,H2,hb⟩
    case measure=>simp[intOf];omega
theorem Av (q:Int) (w:World) (h0: -1023<=q) (h1:q<=1023):
  Calls Tryz.prog 165 #[.int .i64 q] w fun e w'=>e= .returned (.int .i64 (P (Xp q)))/\Below w.heap.size w w':=by
 have ha:0<=Xp q/\Xp q<=1023:=(by unfold Xp;omega);have hc:=P_cube ha.1 ha.2;rw[<-q4_abs] at hc;have hp:=P_bd (Xp q);obtain⟨p,hpe⟩: ∃p,p=P (Xp q):=⟨_,rfl⟩;rw[<-hpe] at hc hp ⊢;have b1: -4190208<=4096*q/\4096*q<=4190208:=by omega
 have b2:0<=4096*q*q/\4096*q*q<=4286582784:=by
  rcases Int.le_total 0 q with h|h
  ·exact Zg (by omega) b1.2 h h1
  ·have:=Zg (a:= -(4096*q)) (b:= -q) (by omega) (show-(4096*q)<=4190208 by omega) (by omega) (show-q<=1023 by omega)
   rwa [Int.neg_mul_neg] at this
 have b3: -4385174188032<=4096*q*q*q/\4096*q*q*q<=4385174188032:=by
  rcases Int.le_total 0 q with h|h
  ·have:=Zg b2.1 b2.2 h h1;omega
  ·have:=Zg b2.1 b2.2 (show 0<= -q by omega) (show-q<=1023 by omega)
   rw[Int.mul_neg] at this;omega
 have b4:0<=4096*q*q*q*q/\4096*q*q*q*q<=4600000000000000:=by
  have h3:0<=4096*q*q*q*q:=(by rw[q4_abs];exact(Zg (Zg (Zg (Zg (by omega) (Int.le_refl 4096) ha.1 ha.2).1 (Zg (by omega) (Int.le_refl 4096) ha.1 ha.2).2 ha.1 ha.2).1 (Zg (Zg (by omega) (Int.le_refl 4096) ha.1 ha.2).1 (Zg (by omega) (Int.le_refl 4096) ha.1 ha.2).2 ha.1 ha.2).2 ha.1 ha.2).1 (Zg (Zg (Zg (by omega) (Int.le_refl 4096) ha.1 ha.2).1 (Zg (by omega) (Int.le_refl 4096) ha.1 ha.2).2 ha.1 ha.2).1 (Zg (Zg (by omega) (Int.le_refl 4096) ha.1 ha.2).1 (Zg (by omega) (Int.le_refl 4096) ha.1 ha.2).2 ha.1 ha.2).2 ha.1 ha.2).2 ha.1 ha.2).1);refine⟨h3,?_⟩;have h5:=Zg (show 0<=p+1 by omega) (show p+1<=164926 by omega) (show 0<=p+1 by omega) (show p+1<=164926 by omega);have h6:=Zg h5.1 h5.2 (show 0<=p+1 by omega) (show p+1<=164926 by omega);omega
 have HC:=fun w=>Qbn (4096*q*q*q*q) p w b4.1 (by omega) hp.1 hc.1 hc.2
 replace HC:=Qa.mk HC;clear hc hpe;go_enter Tryz.func165,Tryz.ntmps165;go_wp2_with (first|(go_at_call 206;refine(HC.out _).mono ?_;rintro e w' ⟨rfl,hb⟩));go_ret;exact⟨rfl,hb⟩
theorem Qax (s:Int) (w:World) (h0:0<=s) (h1:s<=95):
  Calls Tryz.prog 210 #[.int .i64 s] w fun e w'=>e= .returned (.tuple #[.int .i64 (Yh s),.int .i64 0])/\Below w.heap.size w w':=by
 obtain⟨c,hc⟩: ∃c,c=([4096,4871,5793,6889]:List Int).getD (s%4).toNat 0:=⟨_,rfl⟩
 have hq:([.int .i64 4096,.int .i64 4871,.int .i64 5793,.int .i64 6889]:List Value)[(s%4).toNat]? =some (.int .i64 c):=by
  rw[hc];have:s%4=0\/s%4=1\/s%4=2\/s%4=3:=(by omega);rcases this with h|h|h|h<;>rw[h]<;>rfl
 have h2:(2:Int)^(s/4).toNat <=2^23:=by
  have:(2:Nat)^(s/4).toNat <=2^23:=Nat.pow_le_pow_right (by omega) (by omega)
  exact_mod_cast this
 have h3:0<=c/\c<=6889:=by
  rw[hc];have:s%4=0\/s%4=1\/s%4=2\/s%4=3:=(by omega);rcases this with h|h|h|h<;>rw[h]<;>decide
 have h4:=Zg h3.1 h3.2 (Int.pow_nonneg (show(0:Int)<=2 by omega)) h2
 have HS:Qa (wrap64 ((wrap64 (c*2^(s/4).toNat)).tdiv 256)=Yh s):=⟨by
  rw[show wrap64 (c*2^(s/4).toNat)=c*2^(s/4).toNat from by unfold wrap64;omega,Int.tdiv_eq_ediv_of_nonneg h4.1,show Yh s=c*2^(s/4).toNat /256 from by rw[hc];rfl];unfold wrap64
  omega⟩
 clear hc h2 h3 h4;go_enter Tryz.func210,Tryz.ntmps210;go_wp2;go_ret2;exact⟨by rw[HS.out];rfl,(Below.refl _ _).alloc (Nat.le_refl _) _⟩
theorem Mt (a:Int) (w:World) (h0:0<=a) (h1:a<=1152921504606846976):
  Calls Tryz.prog 211 #[.int .i64 a,.int .i64 256] w fun e w'=>e= .returned (.int .i64 ((2*a+256)/512))/\Below w.heap.size w w':=by
 by_cases h:128<=a%256
 ·have e:(2*a+256)/512=a/256+1:=by omega
  rw[e];clear e;go_enter Tryz.func211,Tryz.ntmps211;go_wp2_with (first|go_in);go_ret;exact⟨rfl,Below.refl _ _⟩
 ·have e:(2*a+256)/512=a/256:=by omega
  rw[e];clear e;go_enter Tryz.func211,Tryz.ntmps211;go_wp2_with (first|go_in);go_ret;exact⟨rfl,Below.refl _ _⟩
theorem Wm (p s:Int) (w:World) (hp0:0<=p) (hp1:p<=164925) (h0:0<=s) (h1:s<=95):
  Calls Tryz.prog 177 #[.int .i64 p,.int .i64 s] w fun e w'=>e= .returned (.int .i64 (min 2097152 ((2*(p*Yh s)+256)/512)))/\Below w.heap.size w w':=by
 have hs:=Nu h0 h1;have HS:=fun w=>Qax s w h0 h1
 obtain⟨x,hx⟩: ∃x,x=Yh s:=⟨_,rfl⟩;rw[<-hx] at hs HS ⊢;have hm:=Zg hp0 hp1 (show 0<=x by omega) hs.2;have HN:=fun w=>Mt (p*x) w hm.1 (by omega)
 replace HS:=Qa.mk HS;replace HN:=Qa.mk HN;clear hx;go_enter Tryz.func177,Tryz.ntmps177;go_wp2_with (first|(go_at_call 210;refine(HS.out _).mono ?_;rintro e w' ⟨rfl,hb0⟩)|(go_at_call 211;refine(HN.out _).mono ?_;rintro e w' ⟨rfl,hb1⟩))
 all_goals
  go_ret;exact⟨Pi (by omega),bnx hb0 hb1⟩
theorem V_min (x q:Int):min 2097152 ((2*(P q*x)+256)/512)=V x q:=by unfold V;rw[Int.min_comm,Int.mul_assoc]
end Go.Proofs.YtnflnicdjioflaaGreatDoor.Q15

namespace Go.Proofs.YtnflnicdjioflaaGreatDoor.Q16
open Go.RowKit Go.Proofs.YtnflnicdjioflaaGreatDoorW.PrintWords Go.Proofs.YtnflnicdjioflaaGreatDoorW.PrintLast Go.Proofs.YtnflnicdjioflaaGreatDoorW.PrintMore
attribute [local go_sem] Qh Qi Qk Ql Qd Qe
open Go.Proofs.YtnflnicdjioflaaGreatDoor.Q15
def isW (l:List Int):Bool:=l.all (fun w=>decide (1<=w))&&decide (l.sum=128)&&decide (l.length<=32)
def rng (low high:Int) (l:List Int):Bool:=l.all fun n=>decide (low<=n/\n<=high)
def Tj (n:Nat) (ws:List Int) (ls:List Nat):Int:=if isW ws then if n=128 then if ls.all (fun m=>decide (m=ws.length)) then 0 else 4 else 4 else 1
def Lens (w:World) (B:Nat) (ls:List Nat):Prop:= ∀j n,ls[j]? =some n-> ∃A c,w.cell? ⟨B,j,none⟩=some (.slice A n c)
theorem Vg: ∀{l:List Int},(∀x∈l,1<=x)->(l.length:Int)<=l.sum
 |[],_=>by simp
 |a::t,h=>by
  have h1:=h a (by simp);have h2:=Vg (l:=t) (fun x hx=>h x (by simp[hx]));simp only[List.sum_cons,List.length_cons];omega
theorem Qx {l:List Int}:isW l=true↔(∀x∈l,1<=x)/\l.sum=128/\l.length<=32:=by
 unfold isW;simp[List.all_eq_true,and_assoc]
theorem Jv {l:List Int} (h: ∀x∈l,1<=x) (k:Nat):(l.take k).sum <=l.sum:=by
 have h1:(l.take k).sum +(l.drop k).sum =l.sum:=(by rw[<-List.sum_append,List.take_append_drop]);have h2:=Vg (l:=l.drop k) (fun x hx=>h x (List.mem_of_mem_drop hx));omega
theorem Qc1 {l:List Int} {k:Nat} (hk:k<l.length) (h:rd l k<1\/128-(l.take k).sum <rd l k):isW l=false:=by
 rw[<-Bool.not_eq_true];intro hw;obtain⟨h1,h2,h3⟩:=Qx.1 hw;have h4:=h1 _ (Qp l k hk);have h5:=Jv h1 (k+1);rw[Qu l k hk,List.sum_append] at h5;simp only[List.sum_cons,List.sum_nil] at h5;omega
theorem Qc0 {l:List Int} (h: ∀x∈l,1<=x):isW l=(decide (1<=l.length)&&decide (l.length<=32)&&decide (128-l.sum=0)):=by
 have h1:l.all (fun w=>decide (1<=w))=true:=(by rw[List.all_eq_true];intro x hx;exact decide_eq_true (h x hx));unfold isW;rw[h1,Bool.true_and]
 cases l with
 |nil=>decide
 |cons a t=>
  rw[decide_eq_true (show 1<=(a::t).length by simp),Bool.true_and,Bool.and_comm]
  congr 1
  exact decide_eq_decide.2 (by omega)
theorem Rt (A:Option Addr) (cap:Nat) (l:List Int) (w:World) (hr:(Kd.int .i64).C w A l.length l) (hl:l.length<=1099511627776):
  Calls Tryz.prog 97 #[.slice A l.length cap] w fun e w'=>e= .returned (.bool (isW l))/\Below w.heap.size w w':=by
 have HR:=Qa.mk hr;clear hr;go_enter Tryz.func97,Tryz.ntmps97;go_wp2;go_loopw [3,8] (fun s i wr=> ∃(k:Nat) (z:Int),i= .int .i64 k/\s= .int .i64 z/\k<=l.length/\0<=z/\z<=128/\Qa (z=128-(l.take k).sum)/\Qa (∀x∈l.take k,1<=x)/\Below w.heap.size w wr) (fun _ i _=>l.length-(intOf i).toNat)
 case atStart=>exact⟨0,128,rfl,rfl,by omega,by omega,by omega,⟨by simp⟩,⟨by simp⟩,Below.refl _ _⟩
 case round=>
  obtain⟨k,z,rfl,rfl,hk,hz0,hz1,hn,ha,hb⟩:=hrel;by_cases hlt:k<l.length
  ·obtain⟨ad,rfl,hcell⟩:=Qn HR.out hb hlt
   have hno:=Qc1 hlt;have hT:=Qu l k hlt;rw[<-hn.out] at hno;obtain⟨n,hx⟩: ∃n,n=rd l k:=⟨_,rfl⟩;rw[<-hx] at hcell hno hT;replace hno:=Qa.mk hno;replace hT:=Qa.mk hT;clear hx;by_cases h1:n<1
   ·go_wp2
    go_ret;exact⟨by rw[hno.out (.inl h1)];rfl,hb⟩
   ·by_cases h2:z<n
    ·go_wp2
     go_ret;exact⟨by rw[hno.out (.inr h2)];rfl,hb⟩
    ·go_wp2
     go_roundw
     case rel=>exact⟨k+1,z-n,by go_num,rfl,by omega,by omega,by omega,⟨by rw[hT.out,List.sum_append,hn.out];simp;omega⟩,⟨by
      rw[hT.out];intro x hx;rcases List.mem_append.1 hx with hx|hx
      ·exact ha.out x hx
      ·rw[List.mem_singleton.1 hx];omega⟩,hb⟩
     case measure=>simp[intOf];omega
  ·obtain rfl:k=l.length:=by omega
   have hA:=ha.out;have hN:=hn.out;rw[List.take_length] at hA hN;have hW:=Qc0 hA;rw[<-hN] at hW;replace hW:=Qa.mk hW;clear ha hn hA hN;by_cases g1:1<=l.length
   ·by_cases g2:l.length<=32
    ·have g1':decide ((1:Int)<=(l.length:Int))=true:=by simp;omega
     have g2':decide ((l.length:Int)<=(32:Int))=true:=(by simp;omega);rw[decide_eq_true g1,decide_eq_true g2,Bool.true_and,Bool.true_and] at hW;clear g1 g2;go_wp2;go_ret;exact⟨by rw[hW.out];rfl,hb⟩
    ·have g1':decide ((1:Int)<=(l.length:Int))=true:=by simp;omega
     have g2':decide ((l.length:Int)<=(32:Int))=false:=(by simp;omega);rw[decide_eq_false g2,Bool.and_false,Bool.false_and] at hW;clear g1 g2;go_wp2;go_ret;exact⟨by rw[hW.out];rfl,hb⟩
   ·have g1':decide ((1:Int)<=(l.length:Int))=false:=by simp;omega
    rw[decide_eq_false g1,Bool.false_and,Bool.false_and] at hW;clear g1;go_wp2;go_ret;exact⟨by rw[hW.out];rfl,hb⟩
theorem Pk {low high:Int} {l:List Int} {k:Nat} (hk:k<l.length) (h:rd l k<low\/high<rd l k):rng low high l=false:=by
 rw[<-Bool.not_eq_true];intro hw;have:=List.all_eq_true.1 hw _ (Qp l k hk);simp only[decide_eq_true_eq] at this;omega
theorem Tm (low high:Int) (A:Option Addr) (cap:Nat) (l:List Int) (w:World) (hr:(Kd.int .i64).C w A l.length l) (hl:l.length<=1099511627776):
  Calls Tryz.prog 98 #[.int .i64 low,.int .i64 high,.slice A l.length cap] w fun e w'=>e= .returned (.bool (rng low high l))/\Below w.heap.size w w':=by
 have HR:=Qa.mk hr;clear hr;go_enter Tryz.func98,Tryz.ntmps98;go_wp2;go_loopw [11] (fun i wr=> ∃(k:Nat),i= .int .i64 k/\k<=l.length/\Qa (∀x∈l.take k,low<=x/\x<=high)/\Below w.heap.size w wr) (fun i _=>l.length-(intOf i).toNat)
 case atStart=>exact⟨0,rfl,by omega,⟨by simp⟩,Below.refl _ _⟩
 case round=>
  obtain⟨k,rfl,hk,ha,hb⟩:=hrel;by_cases hlt:k<l.length
  ·obtain⟨ad,rfl,hcell⟩:=Qn HR.out hb hlt
   have hno:=Pk (low:=low) (high:=high) hlt;have hT:=Qu l k hlt;obtain⟨n,hx⟩: ∃n,n=rd l k:=⟨_,rfl⟩;rw[<-hx] at hcell hno hT;replace hno:=Qa.mk hno;replace hT:=Qa.mk hT;clear hx;by_cases h1:n<low
   ·go_wp2
    go_ret;exact⟨by rw[hno.out (.inl h1)];rfl,hb⟩
   ·by_cases h2:high<n
    ·go_wp2
     go_ret;exact⟨by rw[hno.out (.inr h2)];rfl,hb⟩
    ·go_wp2
     go_roundw
     case rel=>exact⟨k+1,by go_num,by omega,⟨by
      rw[hT.out];intro x hx;rcases List.mem_append.1 hx with hx|hx
      ·exact ha.out x hx
      ·rw[List.mem_singleton.1 hx];omega⟩,hb⟩
     case measure=>simp[intOf];omega
  ·obtain rfl:k=l.length:=by omega
   have hA:=ha.out;rw[List.take_length] at hA;have hW:Qa (rng low high l=true):=⟨List.all_eq_true.2 fun x hx=>decide_eq_true (hA x hx)⟩;clear ha hA;go_wp2;go_ret;exact⟨by rw[hW.out];rfl,hb⟩
section
variable (A:Option Addr) (cap:Nat) (l:List Int) (w:World) (hr:(Kd.int .i64).C w A l.length l) (hl:l.length<=1099511627776)
include hr hl
theorem Rp:Calls Tryz.prog 57 #[.slice A l.length cap] w fun e w'=>e= .returned (.bool (rng 0 95 l))/\Below w.heap.size w w':=by
 have hb:=Below.refl w.heap.size w;have HC:=Qa.mk (Tm 0 95 A cap l w hr hl);obtain⟨b,hbe⟩: ∃b,b=rng 0 95 l:=⟨_,rfl⟩;rw[<-hbe] at HC ⊢;clear hr hbe;go_enter Tryz.func57,Tryz.ntmps57;go_wp2_with (first|(go_at_call 98;refine(HC.out).mono ?_;rintro e w' ⟨rfl,hbn⟩;replace hb:=bnx hb hbn;clear hbn));go_ret;exact⟨rfl,hb⟩
theorem Ro:Calls Tryz.prog 68 #[.slice A l.length cap] w fun e w'=>e= .returned (.bool (rng (-1023) 1023 l))/\Below w.heap.size w w':=by
 have hb:=Below.refl w.heap.size w;have HC:=Qa.mk (Tm (-1023) 1023 A cap l w hr hl);obtain⟨b,hbe⟩: ∃b,b=rng (-1023) 1023 l:=⟨_,rfl⟩;rw[<-hbe] at HC ⊢;clear hr hbe;go_enter Tryz.func68,Tryz.ntmps68;go_wp2_with (first|(go_at_call 98;refine(HC.out).mono ?_;rintro e w' ⟨rfl,hbn⟩;replace hb:=bnx hb hbn;clear hbn));go_ret;exact⟨rfl,hb⟩
end
theorem Qbu (A0 A:Option Addr) (n0 c0 cap c2:Nat) (l:List Int) (B:Nat) (ls:List Nat) (w:World) (hr:(Kd.int .i64).C w A l.length l) (hl:l.length<=1099511627776) (hn0:n0<=1099511627776) (hls:Lens w B ls) (hll:ls.length<=1000000) (hle: ∀n∈ls,n<=1099511627776):
  Calls Tryz.prog 55 #[.slice A0 n0 c0,.slice A l.length cap,.slice (some ⟨B,0,none⟩) ls.length c2] w fun e w'=>e= .returned (.int .i64 (Tj n0 l ls))/\Below w.heap.size w w':=by
 have hb:=Below.refl w.heap.size w;have HW:=Qa.mk (Rt A cap l w hr hl);have HLS:=Qa.mk hls;have HLE:=Qa.mk hle;clear hr hls hle;unfold Tj
 cases hw:isW l with
 |false=>
  rw[hw] at HW;clear hw;go_enter Tryz.func55,Tryz.ntmps55;go_wp2_with (first|(go_at_call 97;refine(HW.out).mono ?_;rintro e w' ⟨rfl,hbn⟩;replace hb:=bnx hb hbn;clear hbn));go_ret;exact⟨rfl,hb⟩
 |true=>
  rw[hw] at HW;clear hw;by_cases h128:n0=128
  ·subst h128
   rw[if_pos rfl,if_pos rfl];obtain⟨E,hE⟩: ∃E:Int,E=(if ls.all (fun m=>decide (m=l.length)) then 0 else 4):=⟨_,rfl⟩;rw[<-hE]
   have HX:Qa (∀k n,ls[k]? =some n->n≠l.length->E=4):=⟨fun k n hk hne=>by
    rw[hE,if_neg];intro h;have:=List.all_eq_true.1 h n (List.mem_of_getElem? hk);simp at this
    exact hne this⟩
   have HY:Qa ((∀x∈ls,x=l.length)->E=0):=⟨fun h=>by rw[hE,if_pos (List.all_eq_true.2 fun x hx=>decide_eq_true (h x hx))]⟩;clear hE;go_enter Tryz.func55,Tryz.ntmps55;go_wp2_with (first|(go_at_call 97;refine(HW.out).mono ?_;rintro e w' ⟨rfl,hbn⟩;replace hb:=bnx hb hbn;clear hbn));go_loopw [17] (fun i wr=> ∃(k:Nat),i= .int .i64 k/\k<=ls.length/\Qa (∀x∈ls.take k,x=l.length)/\Below w.heap.size w wr) (fun i _=>ls.length-(intOf i).toNat)
   case atStart=>exact⟨0,rfl,by omega,⟨by simp⟩,hb⟩
   case round=>
    obtain⟨k,rfl,hk,ha,hbr⟩:=hrel;clear hb;have hb:=hbr;clear hbr;by_cases hlt:k<ls.length
    ·have hk?:=List.getElem?_eq_getElem hlt
     obtain⟨A2,c3,hcell⟩:=HLS.out k _ hk?;replace hcell:=cnx hcell hb;have hle:=HLE.out _ (List.getElem_mem hlt);have hX:=HX.out k _ hk?;have hT:ls.take (k+1)=ls.take k++[ls[k]]:=List.take_succ_eq_append_getElem hlt;obtain⟨n,hx⟩: ∃n,n=ls[k]:=⟨_,rfl⟩;rw[<-hx] at hcell hX hT hle;replace hX:=Qa.mk hX;replace hT:=Qa.mk hT;clear hx hk?;by_cases h1:n=l.length
     ·have h1':decide ((n:Int)=(l.length:Int))=true:=by simp;omega
      have h1'':((n:Int) != (l.length:Int))=false:=(by simp;omega);have hn:=Qa.mk h1;clear h1;go_wp2;go_roundw
      case rel=>exact⟨k+1,by go_num,by omega,⟨by
       rw[hT.out];intro x hx;rcases List.mem_append.1 hx with hx|hx
       ·exact ha.out x hx
       ·rw[List.mem_singleton.1 hx];exact hn.out⟩,hb⟩
      case measure=>simp[intOf];omega
     ·have h1':decide ((n:Int)=(l.length:Int))=false:=by simp;omega
      have h1'':((n:Int) != (l.length:Int))=true:=(by simp;omega);have hf:=Qa.mk (hX.out h1);clear h1;go_wp2;go_ret;exact⟨by rw[hf.out];rfl,hb⟩
    ·obtain rfl:k=ls.length:=by omega
     have hA:=ha.out;rw[List.take_length] at hA;have hf:=Qa.mk (HY.out hA);clear ha hA;go_wp2;go_ret;exact⟨by rw[hf.out];rfl,hb⟩
  ·rw[if_neg h128,if_pos rfl]
   have h1':((n0:Int) != (128:Int))=true:=(by simp;omega);clear h128;go_enter Tryz.func55,Tryz.ntmps55;go_wp2_with (first|(go_at_call 97;refine(HW.out).mono ?_;rintro e w' ⟨rfl,hbn⟩;replace hb:=bnx hb hbn;clear hbn));go_ret;exact⟨rfl,hb⟩
end Go.Proofs.YtnflnicdjioflaaGreatDoor.Q16

namespace Go.Proofs.YtnflnicdjioflaaGreatDoor.Bts
open Go.RowKit Go.Proofs.YtnflnicdjioflaaGreatDoorW.PrintWords Go.Proofs.YtnflnicdjioflaaGreatDoorW.PrintLast Go.Proofs.YtnflnicdjioflaaGreatDoorW.PrintMore
attribute [local go_sem] Qh Qi Qk Ql Qd Qe
open Go.Proofs.YtnflnicdjioflaaGreatDoor.Q15 (cnx bnx)
structure Row where
 e:Nat
 sz:Nat
 v:Value
 n:Nat
 cs:List Value
structure Blk where
 g:Nat
 cs:Array Value
 t:Nat
structure Rws (wr w:World) (L:List Row) (G:List Blk):Prop where
 below:Below wr.heap.size wr w
 row: ∀r∈L,w.ownsRow wr.heap.size r.e r.sz r.v r.n r.cs
 pair:L.Pairwise (fun a b=>a.v.ownBlock=none\/a.v.ownBlock≠b.v.ownBlock)
 blk: ∀b∈G,w.heap[b.g]? =some (.cells b.cs b.t (0,0))/\wr.heap.size<=b.g
 far: ∀r∈L,∀b∈G,r.v.ownBlock≠some b.g
 gs:G.Pairwise (fun a b=>a.g≠b.g)
variable {wr w w1:World} {L L1 L2:List Row} {G G1 G2:List Blk}
theorem Rws.start (w:World):Rws w w [] []:=⟨Below.refl _ _,by simp,.nil,by simp,by simp,.nil⟩
theorem Rws.step (h:Rws wr w L G) (hb:Below w.heap.size w w1):Rws wr w1 L G:=
 ⟨bnx h.below hb,fun r hr=>Nh (h.row r hr) hb,h.pair,fun b hb'=>⟨Qv (h.blk b hb').1 hb,(h.blk b hb').2⟩,h.far,h.gs⟩
theorem Rws.drew (h:Rws wr w L G):Rws wr w.drew L G:=h.step (Below.refl _ _).drew
theorem Rws.call (h:Rws wr w L G) (hb:Below w.heap.size w w1) {r:Row} {b:Nat} (ho:w1.ownsRow b r.e r.sz r.v r.n r.cs) (hbs:w.heap.size<=b):Rws wr w1 (L++[r]) G:=by
 have h1:=h.step hb;refine⟨h1.below,fun q hq=> ?_,?_,h1.blk,fun q hq g hg=> ?_,h1.gs⟩
 ·rcases List.mem_append.1 hq with hq|hq
  ·exact h1.row q hq
  ·rw[List.mem_singleton.1 hq]
   exact Kd.Qei ho (fun k hk=>by have:=Yq ho k hk;have:=h.below.size;omega)
 ·refine List.pairwise_append.2 ⟨h1.pair,List.pairwise_singleton _ _,fun a ha c hc=> ?_⟩
  rw[List.mem_singleton.1 hc]
  cases hav:a.v.ownBlock with
  |none=>exact .inl rfl
  |some k=>
   refine .inr fun e=> ?_
   have:=Fg (h.row a ha) k hav;have:=Yq ho k e.symm;omega
 ·rcases List.mem_append.1 hq with hq|hq
  ·exact h1.far q hq g hg
  ·rw[List.mem_singleton.1 hq]
   intro e;have:=Qr (h.blk g hg).1;have:=Yq ho g.g e;omega
theorem Rws.alloc (h:Rws wr w L G) (cs:Array Value) (t:Nat):Rws wr (w.alloc (.cells cs t)) L (G++[⟨w.heap.size,cs,t⟩]):=by
 have hb:Below w.heap.size w (w.alloc (.cells cs t)):=(Below.refl _ _).alloc (Nat.le_refl _) _;have h1:=h.step hb;refine⟨h1.below,h1.row,h1.pair,fun b hb=> ?_,fun r hr b hb=> ?_,?_⟩
 ·rcases List.mem_append.1 hb with hb|hb
  ·exact h1.blk b hb
  ·rw[List.mem_singleton.1 hb]
   exact⟨heap_alloc_new _ _,h.below.size⟩
 ·rcases List.mem_append.1 hb with hb|hb
  ·exact h1.far r hr b hb
  ·rw[List.mem_singleton.1 hb]
   intro e;have:w.heap.size<w.heap.size:=Fg (h.row r hr) _ e;omega
 ·refine List.pairwise_append.2 ⟨h1.gs,List.pairwise_singleton _ _,fun a ha c hc=> ?_⟩
  rw[List.mem_singleton.1 hc];have:=Qr (h.blk a ha).1
  show a.g≠w.heap.size
  omega
theorem Rws.app {r:Row} (h:Rws wr w (L1++r::L2) G) {r1:Row} (ho:w1.ownsRow wr.heap.size r1.e r1.sz r1.v r1.n r1.cs) (hb:Below wr.heap.size wr w1) (hg:w.grownBy w1 r.v.ownBlock)
  (hat:r1.v.ownBlock=r.v.ownBlock\/ ∃b,r1.v.ownBlock=some b/\w.heap.size<=b):Rws wr w1 (L1++r1::L2) G:=by
 have hpw:=List.pairwise_append.1 h.pair;have hpc:=List.pairwise_cons.1 hpw.2.1
 have key: ∀q:Row,(q.v.ownBlock=none\/q.v.ownBlock≠r.v.ownBlock)->w.ownsRow wr.heap.size q.e q.sz q.v q.n q.cs->(q.v.ownBlock=none\/q.v.ownBlock≠r1.v.ownBlock)/\w1.ownsRow wr.heap.size q.e q.sz q.v q.n q.cs:=fun q hq ho=>by
  refine⟨?_,Cg ho hg hq⟩;rcases hat with e|⟨b,e,hle⟩
  ·rw[e];exact hq
  ·cases hqv:q.v.ownBlock with
   |none=>exact .inl rfl
   |some k=>
    refine .inr fun e2=> ?_
    have:=Fg ho k hqv;rw[e] at e2;cases e2;omega
 have hq: ∀q∈L1++L2,q.v.ownBlock=none\/q.v.ownBlock≠r.v.ownBlock:=fun q hq=>by
  rcases List.mem_append.1 hq with hq|hq
  ·exact hpw.2.2 q hq r (by simp)
  ·rcases hpc.1 q hq with e|e
   ·cases hqv:q.v.ownBlock with
    |none=>exact .inl rfl
    |some k=>rw[e];exact .inr (by simp)
   ·exact .inr (fun e2=>e e2.symm)
 refine⟨hb,fun q hq'=> ?_,?_,fun b hb'=> ?_,fun q hq' b hb'=> ?_,h.gs⟩
 ·rcases List.mem_append.1 hq' with h1|h1
  ·exact(key q (hq q (by simp[h1])) (h.row q (by simp[h1]))).2
  ·rcases List.mem_cons.1 h1 with rfl|h1
   ·exact ho
   ·exact(key q (hq q (by simp[h1])) (h.row q (by simp[h1]))).2
 ·refine List.pairwise_append.2 ⟨hpw.1,List.pairwise_cons.2 ⟨fun q h1=> ?_,hpc.2⟩,fun a ha c hc=> ?_⟩
  ·have:=(key q (hq q (by simp[h1])) (h.row q (by simp[h1]))).1
   cases hrv:r1.v.ownBlock with
   |none=>exact .inl rfl
   |some k=>
    refine .inr fun e=> ?_
    rcases this with e2|e2
    ·rw[e2] at e;cases e
    ·exact e2 (by rw[hrv];exact e.symm)
  ·rcases List.mem_cons.1 hc with rfl|hc
   ·exact(key a (hq a (by simp[ha])) (h.row a (by simp[ha]))).1
   ·exact hpw.2.2 a ha c (by simp[hc])
 ·have h1:=h.blk b hb'
  refine⟨(hg.block b.g (Qr h1.1) (fun e=>h.far r (by simp) b hb' e.symm)).trans h1.1,h1.2⟩
 ·have hfar: ∀q∈L1++r::L2,q.v.ownBlock≠some b.g:=fun q hq=>h.far q hq b hb'
  rcases List.mem_append.1 hq' with h1|h1
  ·exact hfar q (by simp[h1])
  ·rcases List.mem_cons.1 h1 with rfl|h1
   ·rcases hat with e|⟨k,e,hle⟩
    ·rw[e];exact hfar r (by simp)
    ·rw[e]
     intro e2;cases e2;have:=Qr (h.blk b hb').1;omega
   ·exact hfar q (by simp[h1])
theorem Rws.set {b:Blk} (h:Rws wr w L (G1++b::G2)) (i:Nat) (u:Value):Rws wr (w.setCell ⟨b.g,i,none⟩ u) L (G1++⟨b.g,b.cs.setIfInBounds i u,b.t⟩::G2):=by
 have hpw:=List.pairwise_append.1 h.gs;have hpc:=List.pairwise_cons.1 hpw.2.1;have hb:=h.blk b (by simp);refine⟨h.below.setCell (p:=⟨b.g,i,none⟩) hb.2 u,fun r hr=>Qaf (h.row r hr) (fun e=>h.far r hr b (by simp) e.symm) u,h.pair,fun c hc=> ?_,fun r hr c hc=> ?_,?_⟩
 ·have hne: ∀c∈G1++G2,c.g≠b.g:=fun c hc=>by
   rcases List.mem_append.1 hc with hc|hc
   ·exact hpw.2.2 c hc b (by simp)
   ·exact fun e=>hpc.1 c hc e.symm
  rcases List.mem_append.1 hc with h1|h1
  ·exact⟨X4 (h.blk c (by simp[h1])).1 (p:=⟨b.g,i,none⟩) (hne c (by simp[h1])) u,(h.blk c (by simp[h1])).2⟩
  ·rcases List.mem_cons.1 h1 with rfl|h1
   ·exact⟨Q9 hb.1 i u,hb.2⟩
   ·exact⟨X4 (h.blk c (by simp[h1])).1 (p:=⟨b.g,i,none⟩) (hne c (by simp[h1])) u,(h.blk c (by simp[h1])).2⟩
 ·rcases List.mem_append.1 hc with h1|h1
  ·exact h.far r hr c (by simp[h1])
  ·rcases List.mem_cons.1 h1 with rfl|h1
   ·exact h.far r hr b (by simp)
   ·exact h.far r hr c (by simp[h1])
 ·refine List.pairwise_append.2 ⟨hpw.1,List.pairwise_cons.2 ⟨hpc.1,hpc.2⟩,fun a ha c hc=> ?_⟩
  rcases List.mem_cons.1 hc with rfl|hc
  ·exact hpw.2.2 a ha b (by simp)
  ·exact hpw.2.2 a ha c (by simp[hc])
theorem Rws.perm {L':List Row} {G':List Blk} (h:Rws wr w L G) (p:L.Perm L') (p2:G.Perm G'):Rws wr w L' G':=
 ⟨h.below,fun r hr=>h.row r (p.mem_iff.2 hr),(p.pairwise_iff (fun{a b} hab=>by
   rcases hab with e|e
   ·cases hb:b.v.ownBlock with
    |none=>exact .inl rfl
    |some k=>rw[e];exact .inr (by simp)
   ·exact .inr (fun e2=>e e2.symm))).1 h.pair,fun b hb=>h.blk b (p2.mem_iff.2 hb),fun r hr b hb=>h.far r (p.mem_iff.2 hr) b (p2.mem_iff.2 hb),(p2.pairwise_iff (fun{a b} hab e=>hab e.symm)).1 h.gs⟩
theorem Rws.nil (h:Rws wr w L G) (e sz:Nat):Rws wr w (L++[⟨e,sz,.slice none 0 0,0,[]⟩]) G:=
 h.call (Below.refl _ _) (r:=⟨e,sz,.slice none 0 0,0,[]⟩) (Qc8 w w.heap.size e sz) (Nat.le_refl _)
theorem U8 {P:Program} {md:Region.Mode} {ops:Array Oper} {Q:Exit->Act->World->Prop} {S:World->Prop} {ds:List Nat} {n:Nat} {l l':Array Bool} {a a':Act} {w:World} (hl:l=l') (ha:a=a') (h:Go.Proofs.YtnflnicdjioflaaGreatDoorW.PrintLast.Q0 P md ops Q S ds n l' a' w):Go.Proofs.YtnflnicdjioflaaGreatDoorW.PrintLast.Q0 P md ops Q S ds n l a w:=by
 subst hl;subst ha;exact h
abbrev rI (e:Nat) (v:Value) (xs:List Int):Row:=⟨e,1,v,xs.length,encs (Value.int .i64) xs⟩
theorem Pv {e b:Nat} {v:Value} {xs:List Int} (h:w.ownsRow b e 1 v xs.length (encs (Value.int .i64) xs)):(Kd.int .i64).R e w b (fun k=>some k=v.ownBlock) v xs:=Kd.Js h (fun k e=>e.symm)
end Go.Proofs.YtnflnicdjioflaaGreatDoor.Bts

namespace Go.Proofs.YtnflnicdjioflaaGreatDoor.Pre
open Go.RowKit Go.Proofs.YtnflnicdjioflaaGreatDoorW.PrintWords Go.Proofs.YtnflnicdjioflaaGreatDoorW.PrintLast Go.Proofs.YtnflnicdjioflaaGreatDoorW.PrintMore
attribute [local go_sem] Qh Qi Qk Ql Qd Qe
theorem Na (t e:TypeId) (z:Value) (sz by':Nat) (ht:Tryz.prog.underlying t=some (.slice e)) (hi:(Tryz.prog.info? e).map (fun i=>(i.zero,i.size,i.bytes))=some (some z,sz,by')) (n:Nat) (hb:by'<=1000) (hn:n<=1000000) (W:World):
  (Instr.makeSlice t (.int .i64 (n:Int)) (.int .i64 (n:Int))).run Tryz.prog W= .ok (.slice (some ⟨W.heap.size,0,none⟩) n n) (W.alloc (.cells (madeCells z.cells (n*sz)) e)):=by
 cases h:Tryz.prog.info? e with
 |none=>rw[h] at hi;cases hi
 |some i=>
  rw[h] at hi;simp only[Option.map_some,Option.some.injEq,Prod.mk.injEq] at hi;obtain⟨h1,h2,h3⟩:=hi;have hp:by'*n<=1000*1000000:=Nat.mul_le_mul hb hn;have hp3:((by':Int)*(n:Int))=((by'*n:Nat):Int):=(Int.natCast_mul _ _).symm;have hp2:((by':Int)*(n:Int))<=1000000000:=(by rw[hp3];omega);have:=run_make (P:=Tryz.prog) W t e i z ht h h1 .i64 .i64 (n:Int) (n:Int) (by omega) (by omega) (by rw[h3];omega) (by omega);rw[Int.toNat_natCast,h2] at this;exact this
end Go.Proofs.YtnflnicdjioflaaGreatDoor.Pre

namespace Go.Proofs.YtnflnicdjioflaaGreatDoor.Sec
open Go.RowKit Go.Proofs.YtnflnicdjioflaaGreatDoorW.PrintWords Go.Proofs.YtnflnicdjioflaaGreatDoorW.PrintLast Go.Proofs.YtnflnicdjioflaaGreatDoorW.PrintMore
attribute [local go_sem] Qh Qi Qk Ql Qd Qe
open Go.Proofs.YtnflnicdjioflaaGreatDoor.Q15
def Hm (a b:Int):Int:=if a<b then-1 else if b<a then 1 else 0
def cmpL:List Int->List Int->Int
 |[],[]=>0
 |[],_::_=> -1
 |_::_,[]=>1
 |x::xs,y::ys=>if x<y then-1 else if y<x then 1 else cmpL xs ys
theorem Qdw (x y:Int) (xs ys:List Int):cmpL (x::xs) (y::ys)=if x<y then-1 else if y<x then 1 else cmpL xs ys:=rfl
theorem cmpL_cn (x:Int) (xs:List Int):cmpL (x::xs) []=1:=rfl
theorem cmpL_nc (y:Int) (ys:List Int):cmpL [] (y::ys)= -1:=rfl
theorem H9 (l:List Int) (k:Nat) (h:k<l.length):l.drop k=rd l k::l.drop (k+1):=by
 rw[List.drop_eq_getElem_cons h];unfold rd;simp[List.getD_eq_getElem?_getD,h]
theorem K5 (a:Int) (w:World):Calls Tryz.prog 232 #[.int .i64 a] w fun e w'=>e= .returned (.bool false)/\w'=w:=by
 go_enter Tryz.func232,Tryz.ntmps232;go_wp2;go_ret;exact⟨rfl,rfl⟩
theorem Fa (a b:Int) (w:World):
  Calls Tryz.prog 219 #[.int .i64 a,.int .i64 b] w fun e w'=>e= .returned (.int .i64 (Hm a b))/\Below w.heap.size w w':=by
 have hb:=Below.refl w.heap.size w;by_cases h1:a<b
 ·have hc:Qa (Hm a b= -1):=⟨by unfold Hm;rw[if_pos h1]⟩
  go_enter Tryz.func219,Tryz.ntmps219;go_wp2_with (first|(go_at_call 232;refine(K5 _ _).mono ?_;rintro e w' ⟨rfl,rfl⟩));go_ret;exact⟨by rw[hc.out];rfl,hb⟩
 ·by_cases h2:b<a
  ·have hc:Qa (Hm a b=1):=⟨by unfold Hm;rw[if_neg h1,if_pos h2]⟩
   have t1:decide (a<b)=false:=decide_eq_false h1;clear h1;go_enter Tryz.func219,Tryz.ntmps219;go_wp2_with (first|(go_at_call 232;refine(K5 _ _).mono ?_;rintro e w' ⟨rfl,rfl⟩));go_ret;exact⟨by rw[hc.out];rfl,hb⟩
  ·have hc:Qa (Hm a b=0):=⟨by unfold Hm;rw[if_neg h1,if_neg h2]⟩
   have t1:decide (a<b)=false:=decide_eq_false h1;have t2:decide (b<a)=false:=decide_eq_false h2;clear h1 h2;go_enter Tryz.func219,Tryz.ntmps219;go_wp2_with (first|(go_at_call 232;refine(K5 _ _).mono ?_;rintro e w' ⟨rfl,rfl⟩));go_ret;exact⟨by rw[hc.out];rfl,hb⟩
theorem Hu (A B:Option Addr) (c1 c2:Nat) (a b:List Int) (w:World) (hr:(Kd.int .i64).C w A a.length a) (hr2:(Kd.int .i64).C w B b.length b) (h1:a.length<=1000000) (h2:b.length<=1000000):
  Calls Tryz.prog 190 #[.slice A a.length c1,.slice B b.length c2] w fun e w'=>e= .returned (.int .i64 (cmpL a b))/\Below w.heap.size w w':=by
 have HA:=Qa.mk hr;have HB:=Qa.mk hr2;have haI:(a.length:Int)<=1000000:=(by omega);have hbI:(b.length:Int)<=1000000:=(by omega);obtain⟨R,hR⟩: ∃R,R=cmpL a b:=⟨_,rfl⟩;rw[<-hR];replace hR:=Qa.mk hR;clear hr hr2 h1 h2;go_enter Tryz.func190,Tryz.ntmps190;go_wp2;go_loopw [11] (fun i wr=> ∃k:Nat,i= .int .i64 k/\k<=a.length/\k<=b.length/\Qa (R=cmpL (a.drop k) (b.drop k))/\Below w.heap.size w wr) (fun i _=>a.length-(intOf i).toNat)
 case atStart=>exact⟨0,rfl,by omega,by omega,⟨by rw[hR.out];rfl⟩,Below.refl _ _⟩
 case round=>
  obtain⟨k,rfl,hk,hk2,hz,hb⟩:=hrel;by_cases hlt:k<a.length
  ·have hkI:(k:Int)<(a.length:Int):=by omega
   obtain⟨ad,rfl,hcell⟩:=Qn HA.out hb hlt;by_cases hlt2:k<b.length
   ·have hkI2:(k:Int)<(b.length:Int):=by omega
    obtain⟨bd,rfl,hcell2⟩:=Qn HB.out hb hlt2;have hz2:=hz.out;rw[H9 a k hlt,H9 b k hlt2] at hz2;obtain⟨x,hx⟩: ∃x,x=rd a k:=⟨_,rfl⟩;obtain⟨y,hy⟩: ∃y,y=rd b k:=⟨_,rfl⟩;rw[<-hx] at hcell hz2;rw[<-hy] at hcell2 hz2;have HC:=Qa.mk (fun W=>Fa x y W)
    have hst:(Hm x y≠0->R=Hm x y)/\(Hm x y=0->R=cmpL (a.drop (k+1)) (b.drop (k+1))):=by
     rw[hz2,Qdw];unfold Hm;by_cases q1:x<y
     ·simp[q1]
     ·by_cases q2:y<x
      ·simp[q1,q2]
      ·simp[q1,q2]
    obtain⟨c,hc⟩: ∃c,c=Hm x y:=⟨_,rfl⟩;rw[<-hc] at HC hst;clear hz2 hx hy hc hz;have hT:=Qa.mk (And.intro hlt hlt2);have hbk:=Qa.mk hb;clear hb hk hk2 hlt hlt2;by_cases hc0:c=0
    ·have hst2:=Qa.mk (hst.2 hc0)
     subst hc0;clear hst;have hbz:=hbk.out;go_wp2_with (first|(go_at_call 219;refine(HC.out _).mono ?_;rintro e w' ⟨rfl,hbn⟩;replace hbz:=bnx hbz hbn;clear hbn));go_roundw
     case rel=>exact⟨k+1,by go_num,hT.out.1,hT.out.2,hst2,hbz⟩
     case measure=>have:=hT.out;simp[intOf];omega
    ·have hst1:=Qa.mk (hst.1 hc0)
     have hcn:(c != 0)=true:=bne_iff_ne.2 hc0;clear hst hc0;have hbz:=hbk.out;go_wp2_with (first|(go_at_call 219;refine(HC.out _).mono ?_;rintro e w' ⟨rfl,hbn⟩;replace hbz:=bnx hbz hbn;clear hbn));go_ret;exact⟨by rw[hst1.out];rfl,hbz⟩
   ·have hr1:Qa (R=1):=⟨by rw[hz.out,H9 a k hlt,show b.drop k=[] from List.drop_of_length_le (by omega),cmpL_cn]⟩
    have hge:(b.length:Int)<=(k:Int):=(by omega);clear hlt2 hz;go_wp2;go_ret;exact⟨by rw[hr1.out];rfl,hb⟩
  ·obtain rfl:k=a.length:=by omega
   by_cases hlt2:a.length<b.length
   ·have hr1:Qa (R= -1):=⟨by rw[hz.out,List.drop_length,H9 b _ hlt2,cmpL_nc]⟩
    have hge:(a.length:Int)<(b.length:Int):=(by omega);clear hlt2 hz;go_wp2;go_ret;exact⟨by rw[hr1.out];rfl,hb⟩
   ·have hr1:Qa (R=0):=⟨by rw[hz.out,List.drop_length,show b.drop a.length=[] from List.drop_of_length_le (by omega)];rfl⟩
    have hge:decide (a.length<b.length)=false:=decide_eq_false (by omega);clear hlt2 hz;go_wp2;go_ret;exact⟨by rw[hr1.out];rfl,hb⟩
end Go.Proofs.YtnflnicdjioflaaGreatDoor.Sec

namespace Go.Proofs.YtnflnicdjioflaaGreatDoor.Ord
open Go Go.RowKit Go.Proofs.YtnflnicdjioflaaGreatDoorW.PrintLast
section
variable {P:Program} {md:Region.Mode} {ops:Array Oper} {Q:Exit->Act->World->Prop} {S:World->Prop} {ds:List Nat}
def deps (md:Region.Mode) (ops:Array Oper) (i:Nat):List Nat:=
 match ops[i]? with
 |some o=>(o.after.toList.filter (fun e=>Region.binds md e)).map (·.on)
 |none=>[]
def reach (md:Region.Mode) (ops:Array Oper) (evs:List Nat) (e:Nat):Nat->Nat->Bool
 |0,_=>false
 |f+1,i=>(deps md ops i).any fun d=>d==e||(evs.contains d&&reach md ops evs e f d)
def topo (md:Region.Mode) (ops:Array Oper) (l0:Array Bool):List Nat->List Nat->Bool
 |_,[]=>true
 |dn,e::es=>(deps md ops e).all (fun d=>l0.getD d false||dn.contains d)&&topo md ops l0 (e::dn) es
def chk (md:Region.Mode) (ops:Array Oper) (l0 l1:Array Bool) (evs:List Nat):Bool:=
 l0.size==ops.size&&l1.size==ops.size&&(List.range ops.size).all (fun i=>l1.getD i false==(l0.getD i false||evs.contains i))&&
 evs.all (fun i=>decide (i<ops.size)&& !l0.getD i true)&&decide evs.Nodup&&topo md ops l0 [] evs&&
 (List.range ops.size).all (fun i=>l0.getD i true||evs.contains i||(deps md ops i).any (fun d=> !l0.getD d true&& !evs.contains d)||evs.all (fun e=>reach md ops evs e ops.size i))
def upd {α:Type} (x:Nat->α) (i:Nat) (v:α):Nat->α:=fun j=>if j=i then v else x j
theorem upd_same {α:Type} (x:Nat->α) (i:Nat) (v:α):upd x i v i=v:=if_pos rfl
theorem D6 {α:Type} (x:Nat->α) {i j:Nat} (v:α) (h:j≠i):upd x i v j=x j:=if_neg h
theorem Qb9 {i:Nat} {listed:Array Bool} (h:i∈Region.ready md ops listed): ∀d∈deps md ops i,listed.getD d false=true:=by
 obtain⟨_,o,ho,hall⟩:=mem_ready.1 h;intro d hd;unfold deps at hd;rw[ho] at hd;obtain⟨e,he,rfl⟩:=List.mem_map.1 hd;obtain⟨h1,h2⟩:=List.mem_filter.1 he;exact hall e (by simpa using h1) h2
theorem ready_of {i:Nat} {listed:Array Bool} (h0:listed.getD i true=false) (hi:i<ops.size) (h: ∀d∈deps md ops i,listed.getD d false=true):i∈Region.ready md ops listed:=by
 have ho:ops[i]? =some ops[i]:=Array.getElem?_eq_some_iff.2 ⟨hi,rfl⟩;refine mem_ready.2 ⟨h0,ops[i],ho,fun e he hb=>h e.on ?_⟩;unfold deps;rw[ho];exact List.mem_map.2 ⟨e,List.mem_filter.2 ⟨by simpa using he,hb⟩,rfl⟩
theorem reach_listed {evs:List Nat} {listed:Array Bool} (hc: ∀i∈evs,listed.getD i false=true-> ∀d∈deps md ops i,listed.getD d false=true) {e:Nat}: ∀(f i:Nat),(∀d∈deps md ops i,listed.getD d false=true)->reach md ops evs e f i=true->listed.getD e false=true
 |0,_,_,h=>by simp[reach] at h
 |f+1,i,hi,h=>by
  unfold reach at h;obtain⟨d,hd,h1⟩:=List.any_eq_true.1 h;rcases Bool.or_eq_true_iff.1 h1 with h2|h2
  ·rw[<-eq_of_beq h2];exact hi d hd
  ·obtain⟨h3,h4⟩:=Bool.and_eq_true_iff.1 h2
   exact reach_listed hc f d (hc d (by simpa using h3) (hi d hd)) h4
theorem Su {l0 listed:Array Bool} (h0: ∀d,l0.getD d false=true->listed.getD d false=true): ∀(es dn:List Nat),topo md ops l0 dn es=true->(∀d∈dn,listed.getD d false=true)->(∀e∈es,e<ops.size)->
  (∃e∈es,listed.getD e true=false)->(∀e∈es,listed.getD e true=true->listed.getD e false=true)-> ∃e∈es,e∈Region.ready md ops listed
 |[],_,_,_,_,h,_=>by obtain⟨e,he,_⟩:=h;cases he
 |e::es,dn,ht,hd,hlt,hex,hb=>by
  unfold topo at ht;obtain⟨t1,t2⟩:=Bool.and_eq_true_iff.1 ht
  have hdeps: ∀d∈deps md ops e,listed.getD d false=true:=fun d hm=>by
   have:=List.all_eq_true.1 t1 d hm;rcases Bool.or_eq_true_iff.1 this with h|h
   ·exact h0 d h
   ·exact hd d (by simpa using h)
  cases hl:listed.getD e true with
  |false=>exact⟨e,by simp,ready_of hl (hlt e (by simp)) hdeps⟩
  |true=>
   obtain⟨e2,he2,hr⟩:=Su h0 es (e::dn) t2 (fun d hm=>by
    rcases List.mem_cons.1 hm with rfl|hm
    ·exact hb _ (by simp) hl
    ·exact hd d hm) (fun e he=>hlt e (by simp[he])) (by
    obtain⟨e3,h3,h4⟩:=hex;rcases List.mem_cons.1 h3 with rfl|h3
    ·rw[hl] at h4;cases h4
    ·exact⟨e3,h3,h4⟩) (fun e he=>hb e (by simp[he]))
   exact⟨e2,by simp[he2],hr⟩
theorem Xg {l:Array Bool} {i:Nat} (h:i<l.size):l.getD i true=l.getD i false:=by simp[Array.getD,h]
def Asks (P:Program) (md:Region.Mode) (ops:Array Oper) (Q:Exit->Act->World->Prop) (S:World->Prop) (ds:List Nat) (fr:(Nat->Value)->Act) (I:(Nat->Bool)->(Nat->Value)->World->Prop) (i:Nat):Prop:=
 ∀L x w,L i=false->(∀d∈deps md ops i,L d=true)->I L x w->wpOp P ops Q i (fun a' w'=>(i∉ds->S w->S w')/\ ∃v,a'=fr (upd x i v)/\I (upd L i true) (upd x i v) w') (fr x) w
theorem inv_ {fuel:Nat} {a:Act} {w:World} (l0 l1:Array Bool) (evs:List Nat) (fr:(Nat->Value)->Act) (I:(Nat->Bool)->(Nat->Value)->World->Prop) (x0:Nat->Value)
  (hchk:chk md ops l0 l1 evs=true) (h0:I (fun i=>l0.getD i false) x0 w) (ha:a=fr x0) (hop: ∀i∈evs,Asks P md ops Q S ds fr I i)
  (hend: ∀x w,I (fun i=>l1.getD i false) x w->Q0 P md ops Q S ds fuel l1 (fr x) w):Q0 P md ops Q S ds (evs.length+fuel) l0 a w:=by
 subst ha;unfold chk at hchk;simp only[Bool.and_eq_true] at hchk;obtain⟨⟨⟨⟨⟨⟨c1,c2⟩,c3⟩,c4⟩,c5⟩,c6⟩,c7⟩:=hchk;have c1:=eq_of_beq c1;have c2:=eq_of_beq c2;have c5:evs.Nodup:=by simpa using c5
 have k4: ∀i∈evs,i<ops.size/\l0.getD i true=false:=fun i hi=>by
  have:=List.all_eq_true.1 c4 i hi;simpa using this
 have main: ∀(k:Nat) (listed:Array Bool) (x:Nat->Value) (w:World),listed.size=ops.size->(∀j,j∉evs->listed.getD j true=l0.getD j true)->(∀i∈evs,listed.getD i false=true-> ∀d∈deps md ops i,listed.getD d false=true)->
   (evs.filter (fun e=> !listed.getD e false)).length =k->I (fun i=>listed.getD i false) x w->Q0 P md ops Q S ds (k+fuel) listed (fr x) w:=by
  intro k
  induction k with
  |zero=>
   intro listed x w hs hj hc hk hi
   have hall: ∀e∈evs,listed.getD e false=true:=fun e he=>by
    have h:=List.filter_eq_nil_iff.1 (List.eq_nil_of_length_eq_zero hk) e he;simpa using h
   have:listed=l1:=by
    refine Array.ext (by omega) fun i g1 g2=> ?_
    have h3:=List.all_eq_true.1 c3 i (List.mem_range.2 (by omega));have h3:=eq_of_beq h3;have e1:listed.getD i false=listed[i]:=(by simp[Array.getD,g1]);have e2:l1.getD i false=l1[i]:=(by simp[Array.getD,g2]);rw[<-e1,<-e2,h3];by_cases hm:i∈evs
    ·rw[hall i hm];simp[hm]
    ·have:=hj i hm
     rw[Xg g1,Xg (by omega)] at this;rw[this];simp[hm]
   subst this;rw[Nat.zero_add];exact hend x w hi
  |succ k ih=>
   intro listed x w hs hj hc hk hi
   have hex: ∃e∈evs,listed.getD e false=false:=by
    have hne:evs.filter (fun e=> !listed.getD e false)≠[]:=fun e=>by rw[e] at hk;simp at hk
    obtain⟨e,he⟩:=List.exists_mem_of_ne_nil _ hne;obtain⟨h1,h2⟩:=List.mem_filter.1 he;exact⟨e,h1,by simpa using h2⟩
   rw[show k+1+fuel=(k+fuel)+1 by omega];refine⟨fun hr=> ?_,fun i hir=> ?_⟩
   ·exfalso
    obtain⟨e,he,h1⟩:=hex
    obtain⟨e2,_,h2⟩:=Su (md:=md) (ops:=ops) (l0:=l0) (listed:=listed) (fun d hd=>by
     by_cases hm:d∈evs
     ·have:=(k4 d hm).2
      have hlt:d<l0.size:=(by rw[c1];exact(k4 d hm).1);rw[Xg hlt,hd] at this;cases this
     ·have h2:=hj d hm
      have hlt:d<l0.size:=by
       rcases Nat.lt_or_ge d l0.size with h|h
       ·exact h
       ·simp[Array.getD,Nat.not_lt.2 h] at hd
      rw[Xg (by omega),Xg hlt] at h2
      rw[h2];exact hd) evs [] c6 (by simp) (fun e he=>(k4 e he).1) ⟨e,he,by rw[Xg (by rw[hs];exact(k4 e he).1)];exact h1⟩ (fun e he h=>by rw[<-Xg (by rw[hs];exact(k4 e he).1)];exact h)
    rw[hr] at h2;cases h2
   ·have hun:=(mem_ready.1 hir).1
    have hlt:i<listed.size:=by
     rcases Nat.lt_or_ge i listed.size with h|h
     ·exact h
     ·simp[Array.getD,Nat.not_lt.2 h] at hun
    have hdp:=Qb9 hir;by_cases hm:i∈evs
    ·have hL:listed.getD i false=false:=by rw[<-Xg hlt];exact hun
     refine wpOp_mono ?_ (hop i hm (fun j=>listed.getD j false) x w hL hdp hi);rintro a' w' ⟨hS,v,rfl,hI⟩
     have hset: ∀j,(listed.setIfInBounds i true).getD j false=upd (fun j=>listed.getD j false) i true j:=fun j=>by
      unfold upd;by_cases hji:j=i
      ·subst hji;simp[Array.getD,hlt]
      ·rw[if_neg hji,getD_set_ne false (fun e=>hji e.symm)]
     refine⟨hS,ih (listed.setIfInBounds i true) (upd x i v) w' (by simpa using hs) (fun j hjm=> ?_) (fun j hjm hjl d hd=> ?_) ?_ ?_⟩
     ·rw[getD_set_ne true (fun e=>hjm (by rw[<-e];exact hm))];exact hj j hjm
     ·rw[hset]
      unfold upd;by_cases hdi:d=i
      ·rw[if_pos hdi]
      ·rw[if_neg hdi]
       by_cases hji:j=i
       ·subst hji;exact hdp d hd
       ·rw[hset,D6 _ _ hji] at hjl
        exact hc j hjm hjl d hd
     ·have hcount: ∀(es:List Nat),es.Nodup->i∈es->(es.filter (fun e=> !(listed.setIfInBounds i true).getD e false)).length +1=(es.filter (fun e=> !listed.getD e false)).length :=by
       intro es
       induction es with
       |nil=>intro _ h;cases h
       |cons e es ihe=>
        intro hn hmem;obtain⟨n1,n2⟩:=List.nodup_cons.1 hn;by_cases hei:e=i
        ·subst hei
         have heq:es.filter (fun e'=> !(listed.setIfInBounds e true).getD e' false)=es.filter (fun e'=> !listed.getD e' false):=by
          apply List.filter_congr
          intro z hz;rw[hset,D6 _ _ (fun q=>n1 (by rw[<-q];exact hz))]
         rw[List.filter_cons,List.filter_cons,hset,upd_same,hL,heq];simp
        ·have hme:i∈es:=by
          rcases List.mem_cons.1 hmem with h|h
          ·exact absurd h.symm hei
          ·exact h
         have hlen: ∀(b:Bool) (p q:List Nat),p.length+1=q.length->(if b=true then e::p else p).length +1=(if b=true then e::q else q).length :=fun b p q h=>by
          cases b
          ·exact h
          ·show p.length+1+1=q.length+1
           omega
         rw[List.filter_cons,List.filter_cons,hset,D6 _ _ hei];exact hlen _ _ _ (ihe n2 hme)
      have:=hcount evs c5 hm;omega
     ·have:(fun i_1=>(listed.setIfInBounds i true).getD i_1 false)=upd (fun j=>listed.getD j false) i true:=funext hset
      rw[this];exact hI
    ·exfalso
     have h7:=List.all_eq_true.1 c7 i (List.mem_range.2 (by omega));simp only[Bool.or_eq_true] at h7;rcases h7 with ((h7|h7)|h7)|h7
     ·rw[<-hj i hm,hun] at h7;cases h7
     ·exact hm (by simpa using h7)
     ·obtain⟨d,hd,h8⟩:=List.any_eq_true.1 h7
      obtain⟨g1,g2⟩:=Bool.and_eq_true_iff.1 h8;have hdn:d∉evs:=(by simpa using g2);have h9:=hj d hdn;have hdl:=hdp d hd
      have hlt2:d<listed.size:=by
       rcases Nat.lt_or_ge d listed.size with h|h
       ·exact h
       ·simp[Array.getD,Nat.not_lt.2 h] at hdl
      rw[Xg hlt2,hdl] at h9;rw[<-h9] at g1;cases g1
     ·obtain⟨e,he,h1⟩:=hex
      have h8:=List.all_eq_true.1 h7 e he;rw[reach_listed hc ops.size i hdp h8] at h1;cases h1
 have hcnt:(evs.filter (fun e=> !l0.getD e false)).length =evs.length:=by
  congr 1
  apply List.filter_eq_self.2
  intro e he;have:=(k4 e he).2;rw[Xg (by rw[c1];exact(k4 e he).1)] at this;rw[this];rfl
 exact main evs.length l0 x0 w c1 (fun _ _=>rfl) (fun i hi hl=>by
  have:=(k4 i hi).2;rw[Xg (by rw[c1];exact(k4 i hi).1),hl] at this
  cases this) hcnt h0
abbrev Ev:=Nat×(Value->World->Prop)
def Fw (φ:Value->World->Prop):Prop:= ∀v w w',Below w.heap.size w w'->φ v w->φ v w'
def GI (wr:World) (evs:List Ev) (L:Nat->Bool) (x:Nat->Value) (w:World):Prop:=
 Below wr.heap.size wr w/\ ∀e∈evs,L e.1=true->e.2 (x e.1) w
def AllG (P:Program) (md:Region.Mode) (ops:Array Oper) (Q:Exit->Act->World->Prop) (S:World->Prop) (ds:List Nat) (fr:(Nat->Value)->Act) (wr:World) (all:List Ev) (evs:List Ev):Prop:=
 ∀e∈evs,Fw e.2/\Asks P md ops Q S ds fr (GI wr all) e.1
theorem AllG.nil {fr:(Nat->Value)->Act} {wr:World} {all:List Ev}:AllG P md ops Q S ds fr wr all []:=fun _ h=>by cases h
theorem AllG.cons {fr:(Nat->Value)->Act} {wr:World} {all evs:List Ev} {i:Nat} {o:Oper} {φ:Value->World->Prop} (hst:Fw φ) (ho:ops[i]? =some o) (hone:(all.filter (fun e=>e.1==i)).length =1) (hmem:(i,φ)∈all) (hall: ∀e∈all,Fw e.2)
  (hS: ∀w',Below wr.heap.size wr w'->S w')
  (h: ∀x w,Below wr.heap.size wr w->(∀e∈all,(deps md ops i).contains e.1=true->e.2 (x e.1) w)-> ∀K:Act->World->Prop,Shut (∀v w',Below w.heap.size w w'->φ v w'->K (fr (upd x i v)) w')->
   if Region.wanted o (yielded ops (fr x).tmps)=true then Oper.wp P o (fr x) w K Q else K ((fr x).put o.dst undef) w)
  (hs:AllG P md ops Q S ds fr wr all evs):AllG P md ops Q S ds fr wr all ((i,φ)::evs):=fun e he=>by
 rcases List.mem_cons.1 he with rfl|he
 ·refine⟨hst,fun L x w hL hd hI=> ?_⟩
  have hk:=h x w hI.1 (fun e he hc=>hI.2 e he (hd e.1 (by simpa using hc))) (fun a' w'=>(i∉ds->S w->S w')/\ ∃v,a'=fr (upd x i v)/\GI wr all (upd L i true) (upd x i v) w')
   (fun v w' hb hv=>⟨fun _ _=>hS w' (Q15.bnx hI.1 hb),v,rfl,Q15.bnx hI.1 hb,fun e he hl=>by
    by_cases hei:e.1=i
    ·have hee:e=(i,φ):=by
      have h2: ∀l:List Ev,(l.filter (fun e=>e.1==i)).length =1->e∈l->(i,φ)∈l->e=(i,φ):=fun l hl1 m1 m2=>by
       obtain⟨z,hz⟩:=List.length_eq_one_iff.1 hl1;have g1:e∈l.filter (fun e=>e.1==i):=List.mem_filter.2 ⟨m1,by simp[hei]⟩;have g2:((i,φ):Ev)∈l.filter (fun e=>e.1==i):=List.mem_filter.2 ⟨m2,by simp⟩;rw[hz] at g1 g2;rw[List.mem_singleton.1 g1,List.mem_singleton.1 g2]
      exact h2 all hone he hmem
     rw[hee]
     show φ (upd x i v i) w'
     rw[upd_same];exact hv
    ·rw[D6 _ _ hei] at hl ⊢
     exact hall e he _ _ _ hb (hI.2 e he hl)⟩)
  show wpOp P ops Q i _ _ _
  unfold wpOp;rw[ho];dsimp only;by_cases hw:Region.wanted o (yielded ops (fr x).tmps)=true
  ·rw[if_pos hw] at hk ⊢
   exact .inl hk
  ·rw[if_neg hw] at hk ⊢
   exact hk
 ·exact hs e he
theorem grow_ {fuel:Nat} {a:Act} {w:World} (wr:World) (l0 l1:Array Bool) (evs:List Ev) (fr:(Nat->Value)->Act) (x0:Nat->Value)
  (hchk:chk md ops l0 l1 (evs.map (·.1))=true) (hb:Below wr.heap.size wr w) (ha:a=fr x0) (hop:AllG P md ops Q S ds fr wr evs evs)
  (hend: ∀x w,Below wr.heap.size wr w->(∀e∈evs,e.2 (x e.1) w)->Q0 P md ops Q S ds fuel l1 (fr x) w):Q0 P md ops Q S ds (evs.length+fuel) l0 a w:=by
 have hchk':=hchk;unfold chk at hchk';simp only[Bool.and_eq_true] at hchk';obtain⟨⟨⟨⟨⟨⟨c1,c2⟩,c3⟩,c4⟩,c5⟩,c6⟩,c7⟩:=hchk';have c1:=eq_of_beq c1
 have h:=inv_ (P:=P) (Q:=Q) (S:=S) (ds:=ds) (w:=w) (fuel:=fuel) l0 l1 (evs.map (·.1)) fr (GI wr evs) x0 hchk ⟨hb,fun e he hl=>by
  exfalso
  have h4:=List.all_eq_true.1 c4 e.1 (List.mem_map.2 ⟨e,he,rfl⟩);simp only[Bool.and_eq_true,decide_eq_true_eq,Bool.not_eq_true'] at h4;rw[Xg (by rw[c1];exact h4.1)] at h4;dsimp only at hl;rw[h4.2] at hl
  cases hl⟩ ha (fun i hi=>by
   obtain⟨e,he,rfl⟩:=List.mem_map.1 hi
   exact(hop e he).2) (fun x w hI=>hend x w hI.1 (fun e he=>hI.2 e he (by
    have hlt:=List.all_eq_true.1 c4 e.1 (List.mem_map.2 ⟨e,he,rfl⟩);simp only[Bool.and_eq_true,decide_eq_true_eq] at hlt;have h3:=eq_of_beq (List.all_eq_true.1 c3 e.1 (List.mem_range.2 hlt.1))
    show l1.getD e.1 false=true
    rw[h3,Bool.or_eq_true]
    exact .inr (by simpa using ⟨e.2,he⟩))))
 rwa [List.length_map] at h
def frA (a:Act) (ss:List (Nat×Nat)) (x:Nat->Value):Act:=ss.foldl (fun a p=>a.put (some p.2) (x p.1)) a
def Obl (P:Program) (md:Region.Mode) (ops:Array Oper) (Q:Exit->Act->World->Prop) (fr:(Nat->Value)->Act) (wr:World) (all:List Ev) (e:Ev):Prop:=
 ∀(o:Oper) (x:Nat->Value) (w:World) (K:Act->World->Prop),ops[e.1]? =some o->Below wr.heap.size wr w->(∀e'∈all,(deps md ops e.1).contains e'.1=true->e'.2 (x e'.1) w)->
  Shut (∀v w',Below w.heap.size w w'->e.2 v w'->K (fr (upd x e.1 v)) w')->if Region.wanted o (yielded ops (fr x).tmps)=true then Oper.wp P o (fr x) w K Q else K ((fr x).put o.dst undef) w
def Um (P:Program) (md:Region.Mode) (ops:Array Oper) (Q:Exit->Act->World->Prop) (fr:(Nat->Value)->Act) (wr:World) (all evs:List Ev):Prop:= ∀e∈evs,Obl P md ops Q fr wr all e
theorem Um.nil {fr:(Nat->Value)->Act} {wr:World} {all:List Ev}:Um P md ops Q fr wr all []:=fun _ h=>by cases h
theorem Um.cons {fr:(Nat->Value)->Act} {wr:World} {all evs:List Ev} {e:Ev} (h:Obl P md ops Q fr wr all e) (hs:Um P md ops Q fr wr all evs):Um P md ops Q fr wr all (e::evs):=fun e' he=>by
 rcases List.mem_cons.1 he with rfl|he
 ·exact h
 ·exact hs e' he
theorem Qa1: ∀e∈([]:List Ev),Fw e.2:=fun _ h=>by cases h
theorem Xu {e:Ev} {es:List Ev} (h:Fw e.2) (hs: ∀e∈es,Fw e.2): ∀e'∈e::es,Fw e'.2:=fun e' he=>by
 rcases List.mem_cons.1 he with rfl|he
 ·exact h
 ·exact hs e' he
theorem K7 {K:Act->World->Prop} {a a':Act} {w:World} (h:a=a') (hk:K a w):K a' w:=by
 subst h;exact hk
theorem put_self (a:Act) (p:Nat):a.put (some p) (a.tmps.getD p undef)=a:=by
 cases a with
 |mk tmps defers=>
  show({tmps:=tmps.setIfInBounds p (tmps.getD p undef),defers:=defers}:Act)={tmps:=tmps,defers:=defers}
  congr 1
  refine Array.ext_getElem? fun i=> ?_
  rw[Array.getElem?_setIfInBounds];by_cases h:p=i
  ·subst h
   rw[if_pos rfl];by_cases h2:p<tmps.size
   ·rw[if_pos h2]
    simp[Array.getD,h2]
   ·rw[if_neg h2,Array.getElem?_eq_none (by omega)]
  ·rw[if_neg h]
theorem Il (a:Act) (x:Nat->Value): ∀ss:List (Nat×Nat),(∀p∈ss,x p.1=a.tmps.getD p.2 undef)->frA a ss x=a
 |[],_=>rfl
 |p::ss,h=>by
  show frA (a.put (some p.2) (x p.1)) ss x=a
  rw[h p (by simp),put_self];exact Il a x ss (fun q hq=>h q (by simp[hq]))
theorem Qd5 (a:Act) (ss:List (Nat×Nat)) (h:ss.Pairwise (fun p q=>p.1≠q.1)): ∃x,a=frA a ss x:=by
 have hf: ∀ss:List (Nat×Nat),ss.Pairwise (fun p q=>p.1≠q.1)-> ∀p∈ss,ss.find? (fun q=>q.1==p.1)=some p:=by
  intro ss
  induction ss with
  |nil=>intro _ p hp;cases hp
  |cons z ss ih=>
   intro h p hp;obtain⟨h1,h2⟩:=List.pairwise_cons.1 h;rcases List.mem_cons.1 hp with rfl|hm
   ·simp
   ·rw[List.find?_cons_of_neg (by simpa using h1 p hm)]
    exact ih h2 p hm
 refine⟨fun i=>a.tmps.getD (((ss.find? (fun p=>p.1==i)).map (·.2)).getD 0) undef,(Il a _ ss fun p hp=> ?_).symm⟩
 show a.tmps.getD (((ss.find? (fun q=>q.1==p.1)).map (·.2)).getD 0) undef=_
 rw[hf ss h p hp];rfl
theorem Iq {n:Nat} {a:Act} {w:World} (fuel:Nat) (wr:World) (l0 l1:Array Bool) (ss:List (Nat×Nat)) (evs:List Ev) (hn:n=evs.length+fuel) (hss:ss.Pairwise (fun p q=>p.1≠q.1))
  (hchk:chk md ops l0 l1 (evs.map (·.1))=true) (hS: ∀w',Below wr.heap.size wr w'->S w') (hb:Below wr.heap.size wr w) (hall: ∀e∈evs,Fw e.2) (hop:Um P md ops Q (frA a ss) wr evs evs)
  (hend: ∀x w,Below wr.heap.size wr w->(∀e∈evs,e.2 (x e.1) w)->Q0 P md ops Q S ds fuel l1 (frA a ss x) w):Q0 P md ops Q S ds n l0 a w:=by
 subst hn;obtain⟨x0,ha⟩:=Qd5 a ss hss
 have hnd:(evs.map (·.1)).Nodup :=by
  unfold chk at hchk;simp only[Bool.and_eq_true] at hchk;simpa using hchk.1.1.2
 have hlt: ∀e∈evs,e.1<ops.size:=fun e he=>by
  unfold chk at hchk;simp only[Bool.and_eq_true] at hchk;have:=List.all_eq_true.1 hchk.1.1.1.2 e.1 (List.mem_map.2 ⟨e,he,rfl⟩);simp only[Bool.and_eq_true,decide_eq_true_eq] at this;exact this.1
 have hone: ∀(l:List Ev) (e:Ev),(l.map (·.1)).Nodup ->e∈l->(l.filter (fun e'=>e'.1==e.1)).length =1:=by
  intro l e
  induction l with
  |nil=>intro _ h;cases h
  |cons z l ih=>
   intro hn hm;rw[List.map_cons,List.nodup_cons] at hn;rcases List.mem_cons.1 hm with rfl|hm
   ·have:l.filter (fun e'=>e'.1==e.1)=[]:=List.filter_eq_nil_iff.2 fun y hy h=>hn.1 (by
     rw[<-eq_of_beq h]
     exact List.mem_map.2 ⟨y,hy,rfl⟩)
    rw[List.filter_cons,this];simp
   ·have hze:(z.1==e.1)=false:=by
     cases hz:z.1==e.1 with
     |false=>rfl
     |true=>exact(hn.1 (List.mem_map.2 ⟨e,hm,(eq_of_beq hz).symm⟩)).elim
    rw[List.filter_cons,hze];exact ih hn.2 hm
 have key: ∀es:List Ev,(∀e∈es,e∈evs)->AllG P md ops Q S ds (frA a ss) wr evs es:=by
  intro es
  induction es with
  |nil=>intro _;exact AllG.nil
  |cons e es ih=>
   intro hm;have he:=hm e (by simp);have hoe:ops[e.1]? =some (ops[e.1]'(hlt e he)):=Array.getElem?_eq_some_iff.2 ⟨hlt e he,rfl⟩;refine AllG.cons (i:=e.1) (φ:=e.2) (o:=ops[e.1]'(hlt e he)) (hall e he) hoe (hone evs e hnd he) he hall hS (fun x w hb hd K hK=>hop e he _ x w K hoe hb hd hK) (ih (fun e' h'=>hm e' (by simp[h'])))
 exact grow_ wr l0 l1 evs (frA a ss) x0 hchk hb ha (key evs (fun _ h=>h)) hend
end
end Go.Proofs.YtnflnicdjioflaaGreatDoor.Ord

