import Derived.Test.YtchddhcajpagjaaGreatQSc
set_option linter.all false
set_option maxRecDepth 100000
namespace Go.PW
def abF{α:Type}(f:Int->Ze->α)(l:List Ze)(v:Int):List α:=((l.take v.toNat).zipIdx.filter fun p=>p.1.Kind==1).map fun p=>f p.2 p.1
theorem Zarn{α:Type}{f:Int->Ze->α}{l:List Ze}{v w:Int}{x:Ze}(hx:l[v.toNat]?=some x)(h0:0<=v)(hw:w=v+1) :
 abF f l w=abF f l v++if x.Kind==1 then [f v x] else []:=by
 subst hw
 have hv:(v+1).toNat=v.toNat+1:=by omega
 have hlt:=(List.getElem?_eq_some_iff.1 hx).1
 unfold abF
 rw [hv,List.take_add_one,hx,Option.toList_some,List.zipIdx_append,List.filter_append,List.map_append]
 congr 1
 rw [List.length_take,Nat.min_eq_left (by omega),Nat.zero_add]
 simp only [List.zipIdx_cons,List.zipIdx_nil,List.filter_cons,List.filter_nil]
 split
 .simp only [List.map_cons,List.map_nil];rw [Int.toNat_of_nonneg h0]
 .rfl
theorem Zhh{α:Type}{f:Int->Ze->α}{l:List Ze}{c z a:List α}{v w:Int}{x:Ze}{y:α}(hz:z=a++[y])(ha:a=c++abF f l v)(hx:l[v.toNat]?=some x)(h0:0<=v)(hw:w=v+1)(hk:x.Kind=1)(hy:y=f v x):z=c++abF f l w:=by
 rw [Zarn hx h0 hw,if_pos (by simpa using hk),hz,ha,hy,List.append_assoc]
theorem Zr2{α:Type}{f:Int->Ze->α}{l:List Ze}{c a:List α}{v w:Int}{x:Ze}(ha:a=c++abF f l v)(hx:l[v.toNat]?=some x)(h0:0<=v)(hw:w=v+1)(hk:¬ x.Kind=1):a=c++abF f l w:=by
 rw [Zarn hx h0 hw,if_neg (by simpa using hk),ha,List.append_nil]
theorem Z9k{α:Type}{f:Int->Ze->α}{l:List Ze}{c a:List α}(h:a=c):a=c++abF f l 0:=by
 rw [h];simp [abF]
def Z8i{α:Type}(f:Zf->Int->Ze->α)(cards:List Zk)(o:Zf):List α:=if o.Zone=0 then abF (f o) (baV cards o).Abilities (baV cards o).Abilities.length else []
def obF{α:Type}(f:Zf->Int->Ze->α)(cards:List Zk)(l:List Zf)(v:Int):List α:=(l.take v.toNat).flatMap (Z8i f cards)
theorem Z9l{α:Type}{f:Zf->Int->Ze->α}{cards:List Zk}{l:List Zf}:([]:List α)=obF f cards l 0:=by simp [obF]
theorem Zaro{α:Type}{f:Zf->Int->Ze->α}{cards:List Zk}{l:List Zf}{v w:Int}{x:Zf}(hx:l[v.toNat]?=some x)(h0:0<=v)(hw:w=v+1):obF f cards l w=obF f cards l v++Z8i f cards x:=by
 subst hw
 have hv:(v+1).toNat=v.toNat+1:=by omega
 unfold obF
 rw [hv,List.take_add_one,hx,Option.toList_some,List.flatMap_append]
 simp
theorem Zr3{α:Type}{f:Zf->Int->Ze->α}{cards:List Zk}{l:List Zf}{a:List α}{v w:Int}{x:Zf}(ha:a=obF f cards l v)(hx:l[v.toNat]?=some x)(h0:0<=v)(hw:w=v+1)(hz:x.Zone≠0):a=obF f cards l w:=by
 rw [Zaro hx h0 hw,Z8i,if_neg hz,List.append_nil,ha]
theorem Zwd{α:Type}{f:Zf->Int->Ze->α}{cards:List Zk}{l:List Zf}{a:List α}{v w u:Int}{x:Zf}{t:List Ze}(ha:a=obF f cards l v++abF (f x) t u)(ht:t=(baV cards x).Abilities)(hx:l[v.toNat]?=some x)(h0:0<=v)(hw:w=v+1)(hz:x.Zone=0)(hu:u=t.length):a=obF f cards l w:=by
 rw [Zaro hx h0 hw,Z8i,if_pos hz,ha,hu,ht]
theorem Zaj3{α:Type}{f:Int->Ze->α}{l:List Ze}{v:Int}:(abF f l v).length<=l.length:=by
 unfold abF
 rw [List.length_map]
 refine Nat.le_trans (List.length_filter_le _ _) ?_
 rw [List.length_zipIdx,List.length_take];omega
theorem Zwe{α:Type}{f:Zf->Int->Ze->α}{cards:List Zk}{l:List Zf}{v:Int}(h:∀ c,c∈cards->c.Abilities.length<=8):(obF f cards l v).length<=8*l.length:=by
 unfold obF
 have key:∀ m:List Zf,(m.flatMap (Z8i f cards)).length<=8*m.length:=by
  intro m
  induction m with
  | nil=>simp
  | cons o r ih=>
   rw [List.flatMap_cons,List.length_append,List.length_cons]
   have:(Z8i f cards o).length<=8:=by
    unfold Z8i
    split
    .exact Nat.le_trans Zaj3 (Zaj0 h o)
    .simp
   omega
 refine Nat.le_trans (key _) ?_
 rw [List.length_take]
 omega
def coF{α:Type}(g:Zb9->α)(l:List Zb9)(v:Int):List α:=(l.take v.toNat).map g
theorem Zlm{α:Type}{g:Zb9->α}{l:List Zb9}{c a z:List α}{v w:Int}{x:Zb9}{y:α}(hz:z=a++[y])(ha:a=c++coF g l v)(hx:l[v.toNat]?=some x)(h0:0<=v)(hw:w=v+1)(hy:y=g x):z=c++coF g l w:=by
 subst hw
 have hv:(v+1).toNat=v.toNat+1:=by omega
 unfold coF
 rw [hv,List.take_add_one,hx,Option.toList_some,List.map_append,hz,ha,hy,List.append_assoc]
 rfl
theorem Zans{α:Type}{g:Zb9->α}{l:List Zb9}{c a:List α}(h:a=c):a=c++coF g l 0:=by rw [h];simp [coF]
def FS{α:Type}(f:Zf->Int->Ze->α)(g:Zb9->α)(cards:List Zk)(s:Zo):List α:=obF f cards s.Objects s.Objects.length++coF g s.Conts s.Conts.length
theorem Zay2{α:Type}{f:Zf->Int->Ze->α}{g:Zb9->α}{cards:List Zk}{s:Zo}{a:List α}{v:Int}{l:List Zb9}(h:a=obF f cards s.Objects s.Objects.length++coF g l v)(hl:l=s.Conts)(hv:v=l.length):a=FS f g cards s:=by
 rw [h,hv,hl];rfl
abbrev Zaus:Zc:=⟨0,0,0,0,0,0,0,[],0,0,⟨0,0⟩,⟨0,0⟩,⟨0,0⟩⟩
def fL(o:Zf)(k:Int)(a:Ze):Zad:=⟨o.Id,k,o.Control,o.Stamp,false,[],a.Filter,a.Mods⟩
def gL(c:Zb9):Zad:=⟨c.Source,-1,c.Control,c.Stamp,true,c.Objects,Zaus,c.Mods⟩
def fR(o:Zf)(k:Int)(a:Ze):Z2:=⟨o.Id,k,o.Control,o.Stamp,false,[],a.Filter,a.Mods⟩
def gR(c:Zb9):Z2:=⟨c.Source,-1,c.Control,c.Stamp,true,c.Objects,Zaus,c.Mods⟩
def toL(x:Z2):Zad:=⟨x.Source,x.Ability,x.Control,x.Stamp,x.Fixed,x.Objects,x.Filter,x.Mods⟩
theorem Ziy(cards:List Zk)(s:Zo):FS fL gL cards s=(FS fR gR cards s).map toL:=by
 unfold FS coF obF
 rw [List.map_append,List.map_map,List.map_flatMap]
 congr 1
 apply congrArg (fun f=>List.flatMap f _)
 funext o
 unfold Z8i
 split
 .unfold abF;rw [List.map_map];rfl
 .rfl
theorem Za3e{a:List Zad}{b:List Z2}{v:Int}{x:Zad}{y:Z2}(h:a=b.map toL)(hx:a[v.toNat]?=some x)(hy:b[v.toNat]?=some y):x=toL y:=by
 rw [h,List.getElem?_map,hy] at hx;exact (Option.some.inj hx).symm
theorem Zqh(x:Zc):Zac (Zn x) (Zn x)=true:=by rw [Zamn];simp
end Go.PW
