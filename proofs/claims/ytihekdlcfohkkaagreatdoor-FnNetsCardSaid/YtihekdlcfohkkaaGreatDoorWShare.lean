-- PRINTED BY print.sh 35421559b90ae4d0a3588c463048766b98c2df88dd9212a6774a882060cdf62d: not written by this session
import Derived.Test.YtihekdlcfohkkaaGreatDoorWKept
namespace Go.Proofs.YtihekdlcfohkkaaGreatDoorW.PrintWords
open Go.RowKit
def Foot (P:World→Prop) (W:World) (ok:Nat→Prop):Prop:=∀W':World,(∀k,ok k→k<W.heap.size→W'.heap[k]? =W.heap[k]?)→P W'
theorem Se {W W1:World} {k:Nat} (h:W1.heap[k]? =W.heap[k]?) (fl:k<W.heap.size):k<W1.heap.size:=by
  rw [Array.getElem?_eq_getElem fl] at h
  exact (Array.getElem?_eq_some_iff.1 h).1
namespace Foot
variable {P Q:World→Prop} {W W1:World} {ok ok':Nat→Prop}
theorem now (h:Foot P W ok):P W:=h W (fun _ _ _=>rfl)
theorem mono (h:Foot P W ok) (nY:∀k,ok k→ok' k):Foot P W ok':=fun W' hW=>h W' (fun k hk fl=>hW k (nY k hk) fl)
theorem step (h:Foot P W ok) (hm:∀k,ok k→k<W.heap.size→W1.heap[k]? =W.heap[k]?):Foot P W1 ok:=fun W' hW=>h W' (fun k hk fl=>(hW k hk (Se (hm k hk fl) fl)).trans (hm k hk fl))
end Foot
namespace Kd
def F {α:Type} (d:Kd α) (W:World) (ok:Nat→Prop) (A:Option Addr) (n:Nat) (xs:List α):Prop:=Foot (fun W=>d.C W A n xs) W ok
def FK {α:Type} (d:Kd α) (W:World) (ok:Nat→Prop) (x:α) (c:List Value):Prop:=Foot (fun W=>d.K W x c) W ok
section
variable {α β:Type} {d:Kd α} {e base n n' cc g N:Nat} {ok ok' okp S:Nat→Prop} {w w0 w1 W W1:World} {A A':Option Addr} {u v v1:Value} {xs:List α} {xs':List β} {d':Kd β} {x:α} {c:List Value}
theorem aec (d:Kd α) (W:World) (ok:Nat→Prop):F d W ok none ([]:List α).length []:=fun W' _=>aed d W'
theorem S4 (h:d.M W base ok x c):FK d W ok x c:=fun _ hW=>d.gQ (PE h hW)
end
end Kd
end Go.Proofs.YtihekdlcfohkkaaGreatDoorW.PrintWords
